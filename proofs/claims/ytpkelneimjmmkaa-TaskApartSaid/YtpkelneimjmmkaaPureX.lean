/- Plain laws of many tasks: steps of some of them. -/
import Derived.Test.YtpkelneimjmmkaaPureV
namespace Go.Proofs.Ytpkelneimjmmkaa

def ft0 : FT := ⟨[], tsk0⟩
/-- Whom a pick names. -/
def pickAt (n : Nat) (p : Int) : Nat := (p % (n : Int)).toNat
theorem pickAt_lt {n : Nat} (h : 0 < n) (p : Int) : pickAt n p < n := by
  have h1 := Int.emod_lt_of_pos p (show (0 : Int) < (n : Int) by omega)
  unfold pickAt; omega
theorem pickAt_cast {n : Nat} (h : 0 < n) (p : Int) : (pickAt n p : Int) = p % (n : Int) := by
  have h1 := Int.emod_nonneg p (show (n : Int) ≠ 0 by omega)
  unfold pickAt; omega
theorem pick_tmod {n : Nat} (h : 0 < n) (p : Int) : -(n : Int) < p.tmod n ∧ p.tmod n < n ∧ (p.tmod n + n).tmod n = (pickAt n p : Int) ∧ (p.tmod n < 0 → p.tmod n + n = (pickAt n p : Int)) ∧ (¬ p.tmod n < 0 → p.tmod n = (pickAt n p : Int)) := by
  have h0 := Int.emod_nonneg p (show (n : Int) ≠ 0 by omega)
  have h1 := Int.emod_lt_of_pos p (show (0 : Int) < (n : Int) by omega)
  have hc := pickAt_cast h p
  have he : p.tmod (n : Int) = p % (n : Int) ∨ (p.tmod (n : Int) = p % (n : Int) - n ∧ p % (n : Int) ≠ 0) := by
    rw [Int.tmod_eq_emod]
    split
    · left; omega
    · rename_i hh
      right
      refine ⟨by omega, fun e => hh (.inr (Int.dvd_of_emod_eq_zero e))⟩
  have hneg : p.tmod (n : Int) = p % (n : Int) - n → p.tmod (n : Int) < 0 := fun e => by omega
  have hm : (p.tmod n + n).tmod n = p % (n : Int) := by
    rcases he with e | ⟨e, _⟩
    · rw [e, Int.tmod_eq_emod_of_nonneg (by omega), Int.add_emod_right]; exact Int.emod_eq_of_lt h0 h1
    · rw [e, show p % (n : Int) - (n : Int) + (n : Int) = p % (n : Int) by omega, Int.tmod_eq_emod_of_nonneg h0]; exact Int.emod_eq_of_lt h0 h1
  refine ⟨by omega, by omega, by omega, fun hn => by omega, fun hn => by omega⟩
/-- Steps of some of them. -/
def runT (l : List FT) (m : List Int) : List Int → List FT × List Int
  | [] => (l, m)
  | p :: ps => if l.length = 0 then (l, m) else
      runT (l.set (pickAt l.length p) (stepT (l.getD (pickAt l.length p) ft0) m).1) (stepT (l.getD (pickAt l.length p) ft0) m).2 ps
theorem runT_nil {l : List FT} (h : l.length = 0) (m ps : List Int) : runT l m ps = (l, m) := by
  cases ps with
  | nil => rfl
  | cons p ps => simp only [runT]; rw [if_pos h]
theorem runT_cons {l : List FT} (h : 0 < l.length) (m : List Int) (p : Int) (ps : List Int) :
    runT l m (p :: ps) = runT (l.set (pickAt l.length p) (stepT (l.getD (pickAt l.length p) ft0) m).1) (stepT (l.getD (pickAt l.length p) ft0) m).2 ps := by
  simp only [runT]; rw [if_neg (by omega)]
theorem runT_len (ps : List Int) : ∀ (l : List FT) (m : List Int), (runT l m ps).1.length = l.length := by
  induction ps with
  | nil => intro l m; rfl
  | cons p ps ih =>
    intro l m
    simp only [runT]
    split
    · rfl
    · rw [ih]; simp
/-- Whom no pick names stays. -/
theorem runT_stays (i : Nat) (ps : List Int) : ∀ (l : List FT) (m : List Int), (∀ p ∈ ps, pickAt l.length p ≠ i) → (runT l m ps).1.getD i ft0 = l.getD i ft0 := by
  induction ps with
  | nil => intro l m _; rfl
  | cons p ps ih =>
    intro l m h
    simp only [runT]
    split
    · rfl
    · rw [ih _ _ (fun q hq => by rw [List.length_set]; exact h q (by simp [hq]))]
      have hne := h p (by simp)
      rw [List.getD_eq_getElem?_getD, List.getElem?_set_ne hne, ← List.getD_eq_getElem?_getD]
/-- Picked alone. -/
theorem runT_alone (i : Nat) (ps : List Int) : ∀ (l : List FT) (m : List Int), i < l.length → m.length ≤ 256 → ps.length ≤ 1000 → (∀ p ∈ ps, pickAt l.length p = i) →
    (runT l m ps).1.getD i ft0 = (stepsN ps.length (l.getD i ft0) m).1 ∧ (runT l m ps).2 = (stepsN ps.length (l.getD i ft0) m).2.1 := by
  induction ps with
  | nil => intro l m _ _ _ _; exact ⟨rfl, rfl⟩
  | cons p ps ih =>
    intro l m hi hm hp h
    have hpi := h p (by simp)
    rw [runT_cons (by omega), hpi]
    have hlen : (stepT (l.getD i ft0) m).2.length = m.length := by rw [step_len, counts_id hm]
    have h2 := ih (l.set i (stepT (l.getD i ft0) m).1) (stepT (l.getD i ft0) m).2 (by simpa using hi) (by omega) (by simp at hp; omega) (fun q hq => by rw [List.length_set]; exact h q (by simp [hq]))
    have hg : (l.set i (stepT (l.getD i ft0) m).1).getD i ft0 = (stepT (l.getD i ft0) m).1 := by
      rw [List.getD_eq_getElem?_getD, List.getElem?_set_self hi]; rfl
    rw [hg] at h2
    rw [h2.1, h2.2, List.length_cons]
    by_cases hd : (l.getD i ft0).t.done = true
    · rw [step_still hd, counts_id hm, stepsN_done hd, stepsN_done hd]
      exact ⟨rfl, rfl⟩
    · rw [stepsN_succ (by simpa using hd)]
      exact ⟨rfl, rfl⟩
end Go.Proofs.Ytpkelneimjmmkaa

/- Plain laws of tasks: starting, a step, steps. -/
import Derived.Test.YtpkelneimjmmkaaPureT
namespace Go.Proofs.Ytpkelneimjmmkaa

/-- A task with its code. -/
structure FT where
  code : List Insn
  t : Tsk
def FT.ok (T : FT) : Prop := T.t.ok ∧ ∀ x ∈ T.code, x.ok

def tsk0 : Tsk := ⟨0, zeros 32, false, 0⟩
theorem tsk0_ok : tsk0.ok := ⟨by simp [tsk0, zeros], zeros_ok 32, by simp [tsk0, I64], by simp [tsk0, I64]⟩
def startT (l : List Insn) : FT := if Sane l then ⟨l, rest l tsk0⟩ else ⟨[], { tsk0 with done := true, ans := -1 }⟩

/-- What an instruction's access is called. -/
def kind (k : Int) : Int := if k = 0 then 0 else if k = 1 then 1 else 3
/-- A task at rest that has done the access of its instruction, which told d. -/
def moved (r : Tsk) (x : Insn) (d : Int) : Tsk := if x.k = 0 then { r with regs := r.regs.set x.r.toNat d, pc := r.pc + 1 } else { r with pc := r.pc + 1 }
def stepT (T : FT) (m : List Int) : FT × List Int :=
  if T.t.done then (T, counts m)
  else if ¬ Sane T.code then (startT T.code, counts m)
  else if (rest T.code T.t).done then (⟨T.code, rest T.code T.t⟩, counts m)
  else
    (⟨T.code, rest T.code (moved (rest T.code T.t) (T.code.getD (rest T.code T.t).pc.toNat insn0)
      (access (counts m) ⟨kind (T.code.getD (rest T.code T.t).pc.toNat insn0).k, (T.code.getD (rest T.code T.t).pc.toNat insn0).i, (T.code.getD (rest T.code T.t).pc.toNat insn0).a, 0⟩).2)⟩,
     (access (counts m) ⟨kind (T.code.getD (rest T.code T.t).pc.toNat insn0).k, (T.code.getD (rest T.code T.t).pc.toNat insn0).i, (T.code.getD (rest T.code T.t).pc.toNat insn0).a, 0⟩).1)

/-- One that has come to rest and is not done stands before an access. -/
theorem restN_rests {code : List Insn} (hs : Sane code) (n : Nat) : ∀ t : Tsk, left code t + 2 ≤ n → (restN code n t).done = false →
    0 ≤ (restN code n t).pc ∧ (restN code n t).pc < (code.length : Int) ∧ (code.getD (restN code n t).pc.toNat insn0).k ≤ 2 := by
  induction n with
  | zero => intro t h; omega
  | succ n ih =>
    intro t h
    simp only [restN]
    split
    · rename_i hd; intro h1; rw [hd] at h1; cases h1
    · rename_i hd
      simp only [Bool.not_eq_true] at hd
      split
      · intro h1; simp at h1
      · rename_i hp
        split
        · rename_i hk; intro _; exact ⟨by omega, by omega, hk⟩
        · rename_i hk
          have := byItself_left hs (by omega) (by omega) hd
          exact ih _ (by omega)
theorem rest_rests {code : List Insn} {t : Tsk} (hs : Sane code) (h : (rest code t).done = false) :
    0 ≤ (rest code t).pc ∧ (rest code t).pc < (code.length : Int) ∧ (code.getD (rest code t).pc.toNat insn0).k ≤ 2 := restN_rests hs _ t (Nat.le_refl _) h
theorem moved_ok {r : Tsk} {x : Insn} {d : Int} (hr : r.ok) (hd : W64 d) (hp : 0 ≤ r.pc) (hp1 : r.pc < 9223372036854775807) : (moved r x d).ok := by
  obtain ⟨h1, h2, h3, h4⟩ := hr
  have hpc : I64 (r.pc + 1) := ⟨by omega, by omega⟩
  unfold moved
  split
  · refine ⟨by simp [h1], fun y hy => ?_, hpc, h4⟩
    rcases mem_set hy with h | h
    · exact h2 y h
    · rw [h]; exact hd
  · exact ⟨h1, h2, hpc, h4⟩
theorem startT_ok {l : List Insn} (h : ∀ x ∈ l, x.ok) : (startT l).ok := by
  unfold startT
  split
  · rename_i hs
    exact ⟨rest_ok h (by have := hs.2.2; omega) tsk0_ok, h⟩
  · obtain ⟨h1, h2, h3, h4⟩ := tsk0_ok
    exact ⟨⟨h1, h2, h3, by simp [I64]⟩, fun x hx => by simp at hx⟩
theorem counts_mem {m : List Int} (h : ∀ x ∈ m, W64 x) : ∀ x ∈ counts m, W64 x := fun x hx => h x (List.mem_of_mem_take hx)
theorem insn_in {l : List Insn} (h : ∀ x ∈ l, x.ok) (k : Nat) (hk : k < l.length) : (l.getD k insn0).ok := by
  rw [List.getD_eq_getElem?_getD, List.getElem?_eq_getElem hk]
  exact h _ (List.getElem_mem hk)
theorem kind_ok {x : Insn} (h : x.ok) : (Acc.mk (kind x.k) x.i x.a 0).ok := by
  refine ⟨?_, h.2.1, h.2.2.2.2, by simp [W64]⟩
  unfold kind; split
  · simp [I64]
  · split <;> simp [I64]
theorem stepT_ok {T : FT} {m : List Int} (hT : T.ok) (hm : ∀ x ∈ m, W64 x) : (stepT T m).1.ok ∧ (∀ x ∈ (stepT T m).2, W64 x) := by
  have hc := counts_mem hm
  unfold stepT
  split
  · exact ⟨hT, hc⟩
  · split
    · exact ⟨startT_ok hT.2, hc⟩
    · rename_i hs
      simp only [Decidable.not_not] at hs
      have hr := rest_ok hT.2 (by have := hs.2.2; omega) hT.1
      split
      · exact ⟨⟨hr, hT.2⟩, hc⟩
      · rename_i hd
        simp only [Bool.not_eq_true] at hd
        obtain ⟨p0, p1, p2⟩ := rest_rests hs hd
        have hx := insn_in hT.2 (rest T.code T.t).pc.toNat (by omega)
        have ha := access_ok hc (kind_ok hx)
        have hl := hs.2.2
        exact ⟨⟨rest_ok hT.2 (by omega) (moved_ok hr ha.2 p0 (by omega)), hT.2⟩, ha.1⟩

/-- Steps, at most so many, until it is done: the task, the words, how many there were. -/
def stepsN : Nat → FT → List Int → FT × List Int × Nat
  | 0, T, m => (T, m, 0)
  | n + 1, T, m => if T.t.done then (T, m, 0) else ((stepsN n (stepT T m).1 (stepT T m).2).1, (stepsN n (stepT T m).1 (stepT T m).2).2.1, (stepsN n (stepT T m).1 (stepT T m).2).2.2 + 1)
/-- How many steps 'most' lets. -/
def atMost (most : Int) : Nat := (min most 1000).toNat
def stepsT (T : FT) (m : List Int) (most : Int) : FT × List Int × Nat := stepsN (atMost most) T (counts m)
theorem stepsN_done {T : FT} (h : T.t.done = true) (n : Nat) (m : List Int) : stepsN n T m = (T, m, 0) := by
  cases n with
  | zero => rfl
  | succ n => simp only [stepsN]; rw [if_pos h]
theorem stepsN_le (n : Nat) : ∀ (T : FT) (m : List Int), (stepsN n T m).2.2 ≤ n := by
  induction n with
  | zero => intro T m; exact Nat.le_refl _
  | succ n ih =>
    intro T m
    simp only [stepsN]
    split
    · exact Nat.zero_le _
    · have := ih (stepT T m).1 (stepT T m).2; simp only; omega
end Go.Proofs.Ytpkelneimjmmkaa

/- Plain laws of RingTurns: whoever takes a step, all stays in order. -/
import Derived.Test.YtpkelneimjmmkaaPureZ
namespace Go.Proofs.Ytpkelneimjmmkaa

/-- The words at a place of the ring are those of a number. -/
def SlotHas (b c p j : Nat) (ws : List Int) (m : List Int) : Prop := ∀ i, i < j → m.getD (slotR b c p + i) 0 = ws.getD i 0
/-- Where one who lays is. -/
def LayAt (b c L : Nat) (x : Int) (T : Nat) (m : List Int) (lay : FT) (s : Nat) : Prop :=
  (s = 0 ∧ lay = pushT b c L (wordsR x) 0 (zeros 32) false 0) ∨
  (∃ (j : Nat) (regs : List Int), j ≤ 6 ∧ s = 1 + j ∧ regs.length = 32 ∧ lay = pushT b c L (wordsR x) (2 + j) regs false 0 ∧ L < T + c ∧ SlotHas b c L j (wordsR x) m) ∨
  (∃ regs : List Int, s = 1 ∧ regs.length = 32 ∧ lay = pushT b c L (wordsR x) 10 regs false 0)
/-- Where one who takes is. -/
def TakeAt (b c T L : Nat) (x : Int) (take : FT) (s : Nat) : Prop :=
  (s = 0 ∧ take = popT b c T 0 (zeros 32) false 0) ∨
  (∃ (j : Nat) (regs : List Int), j ≤ 6 ∧ s = 1 + j ∧ regs.length = 32 ∧ take = popT b c T (2 + j) regs false 0 ∧ T < L ∧ ∀ i, i < j → regs.getD (1 + i) 0 = (wordsR x).getD i 0)
/-- All is in order: the numbers that were laid, how many were dropped and taken, the two tasks and their steps. -/
structure RT (b c : Nat) (m : List Int) (ns : List Int) (D T : Nat) (lay take : FT) (ls ps : Nat) : Prop where
  len : m.length = b + 3 + 6 * c
  head : m.getD b 0 = (T : Int)
  tail : m.getD (b + 1) 0 = (ns.length : Int)
  drops : m.getD (b + 2) 0 = (D : Int)
  some : T ≤ ns.length
  few : ns.length ≤ T + c
  lays : LayAt b c ns.length ((ns.length + D : Nat) : Int) T m lay ls
  takes : TakeAt b c T ns.length (ns.getD T 0) take ps
  slots : ∀ p, T ≤ p → p < ns.length → SlotHas b c p 6 (wordsR (ns.getD p 0)) m

section
variable {b c : Nat} {m : List Int} {ns : List Int} {D T : Nat} {lay take : FT} {ls ps : Nat}
theorem mod_other {p L c : Nat} (h1 : p < L) (h2 : L < p + c) : p % c ≠ L % c := by
  intro e
  have h := Nat.sub_mod_eq_zero_of_mod_eq e.symm
  rw [Nat.mod_eq_of_lt (by omega)] at h
  omega
theorem slot_other {p L i j : Nat} (h1 : p < L) (h2 : L < p + c) (hi : i < 6) (hj : j < 6) : slotR b c p + i ≠ slotR b c L + j := by
  have := mod_other h1 h2
  unfold slotR
  generalize p % c = x at *
  generalize L % c = y at *
  omega
theorem slotHas_put {p L j : Nat} {ws : List Int} {a : Int} (h : SlotHas b c p 6 ws m) (h1 : p < L) (h2 : L < p + c) (hj : j < 6) : SlotHas b c p 6 ws (m.set (slotR b c L + j) a) := fun i hi => by
  rw [getD_set_other _ (fun e => slot_other (b := b) h1 h2 hi hj e.symm)]; exact h i hi
theorem slotHas_low {p j q : Nat} {ws : List Int} {a : Int} (hc : 1 ≤ c) (h : SlotHas b c p j ws m) (hq : q < b + 3) : SlotHas b c p j ws (m.set q a) := fun i hi => by
  have := slot_lt (b := b) (c := c) (t := p) hc
  rw [getD_set_other _ (by omega)]; exact h i hi
theorem lay_start {L : Nat} {x : Int} (hb : b ≤ 100) (hc : 1 ≤ c) (hc' : c ≤ 8) : startT (pushC b c L (wordsR x)) = pushT b c L (wordsR x) 0 (zeros 32) false 0 := by
  rw [pushC_is (by omega) hc hc' (wordsR_len _), push_start]
theorem take_start (hb : b ≤ 100) (hc : 1 ≤ c) (hc' : c ≤ 8) : startT (popC b c T) = popT b c T 0 (zeros 32) false 0 := by
  rw [popC_is (by omega) hc hc', pop_start]
theorem getD_snoc_lt {l : List Int} {x : Int} {i : Nat} (h : i < l.length) : (l ++ [x]).getD i 0 = l.getD i 0 := by
  simp [List.getD_eq_getElem?_getD, List.getElem?_append_left h]
theorem getD_snoc_eq {l : List Int} {x : Int} : (l ++ [x]).getD l.length 0 = x := by
  simp [List.getD_eq_getElem?_getD]
theorem rt_zero (hb : b ≤ 100) (hc : 1 ≤ c) (hc' : c ≤ 8) : RT b c (zeros (b + 3 + 6 * c)) [] 0 0 (startT (pushC b c 0 (wordsR 0))) (startT (popC b c 0)) 0 0 := by
  rw [show (0 : Int) = ((0 : Nat) : Int) from rfl, lay_start hb hc hc', take_start hb hc hc']
  exact ⟨zeros_len _, zeros_at _ _, zeros_at _ _, zeros_at _ _, Nat.le_refl _, Nat.zero_le _, .inl ⟨rfl, rfl⟩, .inl ⟨rfl, rfl⟩, fun p h1 h2 => absurd h2 (by simp)⟩
theorem wordsR_getD_len (x : Int) : (wordsR x).length = 6 := rfl
/-- A step of who lays. -/
theorem rt_layer (hb : b ≤ 100) (hc : 1 ≤ c) (hc' : c ≤ 8) (h : RT b c m ns D T lay take ls ps) (hs : ns.length + D ≤ 1000) :
    let R := stepT lay m
    ls + 1 ≤ 8 ∧
    ((R.1.t.done = false ∧ RT b c R.2 ns D T R.1 take (ls + 1) ps) ∨
     (R.1.t.done = true ∧ R.1.t.ans = 1 ∧ RT b c R.2 (ns ++ [((ns.length + D : Nat) : Int)]) D T (startT (pushC b c ((ns.length + 1 : Nat) : Int) (wordsR ((ns.length + D + 1 : Nat) : Int)))) take 0 ps) ∨
     (R.1.t.done = true ∧ R.1.t.ans = 0 ∧ RT b c R.2 ns (D + 1) T (startT (pushC b c ns.length (wordsR ((ns.length + D + 1 : Nat) : Int)))) take 0 ps)) := by
  obtain ⟨m1, m2, m3, m4, m5, m6, hl, ht, hsl⟩ := h
  have hm : m.length ≤ 256 := by omega
  simp only
  rcases hl with ⟨rfl, rfl⟩ | ⟨j, regs, hj, rfl, hr, rfl, hlt, hw⟩ | ⟨regs, rfl, hr, rfl⟩
  · refine ⟨by omega, .inl ?_⟩
    rw [push_look hm (by omega) (zeros_len 32), m2]
    refine ⟨rfl, ⟨m1, m2, m3, m4, m5, m6, ?_, ht, hsl⟩⟩
    by_cases he : (T : Int) = ((ns.length : Int) - (c : Int)) % 18446744073709551616
    · rw [if_pos he]
      exact .inr (.inr ⟨_, rfl, by simp [zeros], rfl⟩)
    · rw [if_neg he]
      exact .inr (.inl ⟨0, _, by omega, rfl, by simp [zeros], rfl, by omega, fun i hi => absurd hi (by omega)⟩)
  · by_cases h6 : j < 6
    · refine ⟨by omega, .inl ?_⟩
      have hs2 := slot_lt (b := b) (c := c) (t := ns.length) hc
      rw [push_put hm hc (by omega) h6]
      refine ⟨rfl, ⟨by rw [List.length_set]; exact m1, ?_, ?_, ?_, m5, m6, .inr (.inl ⟨j + 1, regs, by omega, by omega, hr, rfl, hlt, fun i hi => ?_⟩), ht, fun p h1 h2 => ?_⟩⟩
      · rw [getD_set_other _ (by omega)]; exact m2
      · rw [getD_set_other _ (by omega)]; exact m3
      · rw [getD_set_other _ (by omega)]; exact m4
      · by_cases hij : i = j
        · subst hij
          exact getD_set_same _ (by omega)
        · rw [getD_set_other _ (by omega)]; exact hw i (by omega)
      · exact slotHas_put (hsl p h1 h2) h2 (by omega) h6
    · obtain rfl : j = 6 := by omega
      refine ⟨by omega, .inr (.inl ?_)⟩
      have hs2 := slot_lt (b := b) (c := c) (t := ns.length) hc
      rw [push_yes hm (by omega)]
      refine ⟨rfl, rfl, ?_⟩
      rw [show ((ns.length + 1 : Nat) : Int) = (((ns ++ [((ns.length + D : Nat) : Int)]).length : Nat) : Int) by simp, show ns.length + D + 1 = (ns ++ [((ns.length + D : Nat) : Int)]).length + D by simp; omega, lay_start hb hc hc']
      refine ⟨by simp only [List.length_set]; exact m1, ?_, ?_, ?_, by simp; omega, by simp; omega, .inl ⟨rfl, rfl⟩, ?_, fun p h1 h2 => ?_⟩
      · simp only; rw [getD_set_other _ (by omega)]; exact m2
      · simp only; rw [getD_set_same _ (by omega)]; simp
      · simp only; rw [getD_set_other _ (by omega)]; exact m4
      · rcases ht with ⟨rfl, rfl⟩ | ⟨i, rg, hi, rfl, hrg, rfl, hTL, hwr⟩
        · exact .inl ⟨rfl, rfl⟩
        · refine .inr ⟨i, rg, hi, rfl, hrg, rfl, by simp; omega, ?_⟩
          rw [getD_snoc_lt hTL]; exact hwr
      · simp only [List.length_append, List.length_singleton] at h2
        refine slotHas_low hc ?_ (by omega)
        by_cases hpe : p = ns.length
        · subst hpe
          rw [getD_snoc_eq]; exact hw
        · rw [getD_snoc_lt (by omega)]; exact hsl p h1 (by omega)
  · refine ⟨by omega, .inr (.inr ?_)⟩
    rw [push_no hm (by omega)]
    refine ⟨rfl, rfl, ?_⟩
    rw [show ns.length + D + 1 = ns.length + (D + 1) by omega, lay_start hb hc hc']
    refine ⟨by simp only [List.length_set]; exact m1, ?_, ?_, ?_, m5, m6, .inl ⟨rfl, rfl⟩, ht, fun p h1 h2 => slotHas_low hc (hsl p h1 h2) (by omega)⟩
    · simp only; rw [getD_set_other _ (by omega)]; exact m2
    · simp only; rw [getD_set_other _ (by omega)]; exact m3
    · simp only; rw [getD_set_same _ (by omega), m4]; omega
/-- A step of who takes. -/
theorem rt_taker (hb : b ≤ 100) (hc : 1 ≤ c) (hc' : c ≤ 8) (h : RT b c m ns D T lay take ls ps) :
    let R := stepT take m
    ps + 1 ≤ 8 ∧
    ((R.1.t.done = false ∧ RT b c R.2 ns D T lay R.1 ls (ps + 1)) ∨
     (R.1.t.done = true ∧ takenRB R.1 = true ∧ takenRL R.1 = wordsR (ns.getD T 0) ∧ T < ns.length ∧ RT b c R.2 ns D (T + 1) lay (startT (popC b c ((T + 1 : Nat) : Int))) ls 0) ∨
     (R.1.t.done = true ∧ takenRB R.1 = false ∧ RT b c R.2 ns D T lay (startT (popC b c T)) ls 0)) := by
  obtain ⟨m1, m2, m3, m4, m5, m6, hl, ht, hsl⟩ := h
  have hm : m.length ≤ 256 := by omega
  simp only
  rcases ht with ⟨rfl, rfl⟩ | ⟨j, regs, hj, rfl, hr, rfl, hlt, hw⟩
  · refine ⟨by omega, ?_⟩
    rw [pop_look hm (by omega) (zeros_len 32), m3]
    by_cases he : (ns.length : Int) = (T : Int)
    · rw [if_pos he]
      refine .inr (.inr ⟨rfl, decide_eq_false (fun h => by have := h.2; cases this), ?_⟩)
      rw [take_start hb hc hc']
      exact ⟨m1, m2, m3, m4, m5, m6, hl, .inl ⟨rfl, rfl⟩, hsl⟩
    · rw [if_neg he]
      exact .inl ⟨rfl, ⟨m1, m2, m3, m4, m5, m6, hl, .inr ⟨0, _, by omega, rfl, by simp [zeros], rfl, by omega, fun i hi => absurd hi (by omega)⟩, hsl⟩⟩
  · by_cases h6 : j < 6
    · refine ⟨by omega, .inl ?_⟩
      rw [pop_get hm hc (by omega) h6]
      refine ⟨rfl, ⟨m1, m2, m3, m4, m5, m6, hl, .inr ⟨j + 1, _, by omega, by omega, by simp [hr], rfl, hlt, fun i hi => ?_⟩, hsl⟩⟩
      by_cases hij : i = j
      · subst hij
        rw [getD_set_same _ (by omega)]
        exact hsl T (Nat.le_refl _) hlt i h6
      · rw [getD_set_other _ (by omega)]; exact hw i (by omega)
    · obtain rfl : j = 6 := by omega
      refine ⟨by omega, .inr (.inl ?_)⟩
      rw [pop_yes hm (by omega)]
      have hB : takenRB (popT b c T 9 regs true 1) = true := decide_eq_true ⟨rfl, rfl⟩
      refine ⟨rfl, hB, ?_, hlt, ?_⟩
      · unfold takenRL
        rw [hB, if_pos rfl]
        refine (six_regs hr).trans ?_
        rw [← six_list (wordsR_len (ns.getD T 0))]
        rw [hw 0 (by omega), hw 1 (by omega), hw 2 (by omega), hw 3 (by omega), hw 4 (by omega), hw 5 (by omega)]
      · rw [take_start hb hc hc']
        refine ⟨by simp only [List.length_set]; exact m1, ?_, ?_, ?_, by omega, by omega, ?_, .inl ⟨rfl, rfl⟩, fun p h1 h2 => slotHas_low hc (hsl p (by omega) h2) (by omega)⟩
        · simp only; rw [getD_set_same _ (by omega)]; simp
        · simp only; rw [getD_set_other _ (by omega)]; exact m3
        · simp only; rw [getD_set_other _ (by omega)]; exact m4
        · rcases hl with ⟨rfl, rfl⟩ | ⟨i, rg, hi, rfl, hrg, rfl, hTL, hwr⟩ | ⟨rg, rfl, hrg, rfl⟩
          · exact .inl ⟨rfl, rfl⟩
          · exact .inr (.inl ⟨i, rg, hi, rfl, hrg, rfl, by omega, slotHas_low hc hwr (by omega)⟩)
          · exact .inr (.inr ⟨rg, rfl, hrg, rfl⟩)
end
end Go.Proofs.Ytpkelneimjmmkaa

/- Plain laws of layer 14: whole pushes and pops. -/
import Derived.Test.YtpkelneimjmmkaaPureY
import Derived.Test.YtpkelneimjmmkaaRingF
namespace Go.Proofs.Ytpkelneimjmmkaa

theorem six_list {ws : List Int} (h : ws.length = 6) : [ws.getD 0 0, ws.getD 1 0, ws.getD 2 0, ws.getD 3 0, ws.getD 4 0, ws.getD 5 0] = ws := by
  match ws, h with
  | [a, b, c, d, e, f], _ => rfl
theorem steps_99 {T : FT} {m : List Int} (hm : m.length ≤ 256) {n : Nat} (h : n ≤ 99) : ∃ k, stepsT T m 99 = stepsN (k + n) T m :=
  ⟨99 - n, by unfold stepsT; rw [counts_id hm, show 99 - n + n = atMost 99 by unfold atMost; omega]⟩
theorem next {T T' : FT} {m m' : List Int} {n : Nat} {R : FT × List Int × Nat} (hd : T.t.done = false) (h : stepT T m = (T', m')) (r : stepsN n T' m' = R) : stepsN (n + 1) T m = bump R := by
  rw [stepsN_succ hd, h, ← r]; rfl
section
variable {b c t : Nat} {ws : List Int} {m : List Int}
def regs0 (x : Int) : List Int := (zeros 32).set 0 x
theorem regs0_len (x : Int) : (regs0 x).length = 32 := by unfold regs0; rw [List.length_set]; exact zeros_len 32
/-- A push that finds a place. -/
theorem push_run (hm : m.length ≤ 256) (hc : 1 ≤ c) (hb : b + 3 + 6 * c = m.length) (hne : ¬ m.getD b 0 = ((t : Int) - (c : Int)) % 18446744073709551616) (n : Nat) :
    stepsN (n + 8) (pushT b c t ws 0 (zeros 32) false 0) m = (pushT b c t ws 9 (regs0 (m.getD b 0)) true 1,
      (((((((m.set (slotR b c t + 0) (ws.getD 0 0)).set (slotR b c t + 1) (ws.getD 1 0)).set (slotR b c t + 2) (ws.getD 2 0)).set (slotR b c t + 3) (ws.getD 3 0)).set (slotR b c t + 4) (ws.getD 4 0)).set (slotR b c t + 5) (ws.getD 5 0)).set (b + 1) ((t : Int) + 1)), 8) := by
  have h0 := push_look (t := t) (ws := ws) (a := 0) hm hb (zeros_len 32)
  rw [if_neg hne] at h0
  exact next rfl h0 (next rfl (push_put (j := 0) hm hc hb (by omega)) (next rfl (push_put (j := 1) (by simp; omega) hc (by simp; omega) (by omega)) (next rfl (push_put (j := 2) (by simp; omega) hc (by simp; omega) (by omega))
    (next rfl (push_put (j := 3) (by simp; omega) hc (by simp; omega) (by omega)) (next rfl (push_put (j := 4) (by simp; omega) hc (by simp; omega) (by omega)) (next rfl (push_put (j := 5) (by simp; omega) hc (by simp; omega) (by omega))
    (next rfl (push_yes (by simp; omega) (by simp; omega)) (stepsN_done rfl n _))))))))
theorem push_done (hm : m.length ≤ 256) (hc : 1 ≤ c) (hb : b + 3 + 6 * c = m.length) (hne : ¬ m.getD b 0 = ((t : Int) - (c : Int)) % 18446744073709551616) :
    let R := stepsT (startT (pushL b c t ws)) m 99
    R.1.t.done = true ∧ R.1.t.ans = 1 ∧ R.2.2 = 8 ∧ R.2.1.length = m.length ∧ R.2.1.getD (b + 1) 0 = (t : Int) + 1 ∧ (∀ j, j < 6 → R.2.1.getD (slotR b c t + j) 0 = ws.getD j 0) ∧
      ∀ i, i ≠ b + 1 → (i < slotR b c t ∨ slotR b c t + 6 ≤ i) → R.2.1.getD i 0 = m.getD i 0 := by
  have hs := slot_lt (b := b) (c := c) (t := t) hc
  obtain ⟨k, hk⟩ := steps_99 (T := startT (pushL b c t ws)) hm (n := 8) (by omega)
  rw [push_start, push_run hm hc hb hne k] at hk
  rw [push_start, hk]
  clear hk
  generalize slotR b c t = s at *
  refine ⟨rfl, rfl, rfl, by simp, ?_, fun j hj => ?_, fun i h1 h2 => ?_⟩
  · exact getD_set_same _ (by simp; omega)
  · simp only
    rw [getD_set_other _ (by omega)]
    obtain rfl | rfl | rfl | rfl | rfl | rfl : j = 0 ∨ j = 1 ∨ j = 2 ∨ j = 3 ∨ j = 4 ∨ j = 5 := by omega
    all_goals first
      | exact getD_set_same _ (by simp; omega)
      | (rw [getD_set_other _ (by omega)]; exact getD_set_same _ (by simp; omega))
      | (rw [getD_set_other _ (by omega), getD_set_other _ (by omega)]; exact getD_set_same _ (by simp; omega))
      | (rw [getD_set_other _ (by omega), getD_set_other _ (by omega), getD_set_other _ (by omega)]; exact getD_set_same _ (by simp; omega))
      | (rw [getD_set_other _ (by omega), getD_set_other _ (by omega), getD_set_other _ (by omega), getD_set_other _ (by omega)]; exact getD_set_same _ (by simp; omega))
      | (rw [getD_set_other _ (by omega), getD_set_other _ (by omega), getD_set_other _ (by omega), getD_set_other _ (by omega), getD_set_other _ (by omega)]; exact getD_set_same _ (by simp; omega))
  · simp only
    rw [getD_set_other _ (by omega), getD_set_other _ (by omega), getD_set_other _ (by omega), getD_set_other _ (by omega), getD_set_other _ (by omega), getD_set_other _ (by omega), getD_set_other _ (by omega)]
/-- A push that finds none. -/
theorem push_vain (hm : m.length ≤ 256) (hb : b + 3 + 6 * c = m.length) (he : m.getD b 0 = ((t : Int) - (c : Int)) % 18446744073709551616) :
    let R := stepsT (startT (pushL b c t ws)) m 99
    R.1.t.done = true ∧ R.1.t.ans = 0 ∧ R.2.1 = m.set (b + 2) ((m.getD (b + 2) 0 + 1) % 18446744073709551616) := by
  obtain ⟨k, hk⟩ := steps_99 (T := startT (pushL b c t ws)) hm (n := 2) (by omega)
  have h0 := push_look (t := t) (ws := ws) (a := 0) hm hb (zeros_len 32)
  rw [if_pos he] at h0
  rw [push_start, next rfl h0 (next rfl (push_no hm hb) (stepsN_done rfl k _))] at hk
  rw [push_start, hk]
  exact ⟨rfl, rfl, rfl⟩
/-- A pop that finds something. -/
theorem pop_run (hm : m.length ≤ 256) (hc : 1 ≤ c) (hb : b + 3 + 6 * c = m.length) (hl : ∀ j, j < 6 → m.getD (slotR b c t + j) 0 = ws.getD j 0) (hne : ¬ m.getD (b + 1) 0 = (t : Int)) (n : Nat) :
    stepsN (n + 8) (popT b c t 0 (zeros 32) false 0) m = (popT b c t 9 ((((((((zeros 32).set 0 (m.getD (b + 1) 0)).set 1 (ws.getD 0 0)).set 2 (ws.getD 1 0)).set 3 (ws.getD 2 0)).set 4 (ws.getD 3 0)).set 5 (ws.getD 4 0)).set 6 (ws.getD 5 0)) true 1, m.set b ((t : Int) + 1), 8) := by
  have h0 := pop_look (t := t) (a := 0) hm hb (zeros_len 32)
  rw [if_neg hne] at h0
  have hg : ∀ (j : Nat) (regs : List Int), j < 6 → stepT (popT b c t (2 + j) regs false 0) m = (popT b c t (2 + (j + 1)) (regs.set (1 + j) (ws.getD j 0)) false 0, m) := fun j regs hj => by
    rw [pop_get hm hc hb hj, hl j hj]
  exact next rfl h0 (next rfl (hg 0 _ (by omega)) (next rfl (hg 1 _ (by omega)) (next rfl (hg 2 _ (by omega)) (next rfl (hg 3 _ (by omega)) (next rfl (hg 4 _ (by omega)) (next rfl (hg 5 _ (by omega))
    (next rfl (pop_yes hm hb) (stepsN_done rfl n _))))))))
theorem regs_six (x a b c d e f : Int) : (((((((((zeros 32).set 0 x).set 1 a).set 2 b).set 3 c).set 4 d).set 5 e).set 6 f).drop 1).take 6 = [a, b, c, d, e, f] := rfl
theorem pop_done (hm : m.length ≤ 256) (hc : 1 ≤ c) (hb : b + 3 + 6 * c = m.length) (hw : ws.length = 6) (hl : ∀ j, j < 6 → m.getD (slotR b c t + j) 0 = ws.getD j 0) (hne : ¬ m.getD (b + 1) 0 = (t : Int)) :
    let R := stepsT (startT (popL b c t)) m 99
    takenRB R.1 = true ∧ takenRL R.1 = ws ∧ R.2.2 = 8 ∧ R.2.1 = m.set b ((t : Int) + 1) := by
  obtain ⟨k, hk⟩ := steps_99 (T := startT (popL b c t)) hm (n := 8) (by omega)
  rw [pop_start, pop_run hm hc hb hl hne k] at hk
  rw [pop_start, hk]
  have hB : ∀ regs, takenRB (popT b c t 9 regs true 1) = true := fun regs => decide_eq_true ⟨rfl, rfl⟩
  refine ⟨hB _, ?_, rfl, rfl⟩
  unfold takenRL
  rw [hB, if_pos rfl]
  exact (regs_six _ _ _ _ _ _ _).trans (six_list hw)
/-- A pop that finds nothing. -/
theorem pop_vain (hm : m.length ≤ 256) (hb : b + 3 + 6 * c = m.length) (he : m.getD (b + 1) 0 = (t : Int)) :
    let R := stepsT (startT (popL b c t)) m 99
    R.1.t.done = true ∧ takenRB R.1 = false ∧ R.2.2 = 1 ∧ R.2.1 = m := by
  obtain ⟨k, hk⟩ := steps_99 (T := startT (popL b c t)) hm (n := 1) (by omega)
  have h0 := pop_look (t := t) (a := 0) hm hb (zeros_len 32)
  rw [if_pos he] at h0
  rw [pop_start, next rfl h0 (stepsN_done rfl k _)] at hk
  rw [pop_start, hk]
  exact ⟨rfl, decide_eq_false (fun h => by have := h.2; cases this), rfl, rfl⟩
end

/-! ### RingRound: the memory behind so many rounds -/
def MemR (b c i : Nat) (m : List Int) : Prop := m.length = b + 3 + 6 * c ∧ m.getD b 0 = (i : Int) ∧ m.getD (b + 1) 0 = (i : Int) ∧ m.getD (b + 2) 0 = 0
theorem zeros_at (n i : Nat) : (zeros n).getD i 0 = 0 := by
  simp only [zeros, List.getD_eq_getElem?_getD, List.getElem?_replicate]
  split <;> rfl
theorem memR_zero (b c : Nat) : MemR b c 0 (zeros (b + 3 + 6 * c)) := ⟨zeros_len _, zeros_at _ _, zeros_at _ _, zeros_at _ _⟩
theorem ne_room {i t c : Nat} (hc : 1 ≤ c) (hc' : c ≤ 8) (h : t < i + c) (hi : i ≤ t) : ¬ (i : Int) = ((t : Int) - (c : Int)) % 18446744073709551616 := by omega
theorem memR_round {b c i : Nat} (hb : b ≤ 100) (hc : 1 ≤ c) (hc' : c ≤ 8) {ws : List Int} (hw : ws.length = 6) {m : List Int} (hm : MemR b c i m) :
    let R := stepsT (startT (pushC b c i ws)) m 99
    let S := stepsT (startT (popC b c i)) R.2.1 99
    R.1.t.ans = 1 ∧ R.2.2 = 8 ∧ takenRB S.1 = true ∧ takenRL S.1 = ws ∧ S.2.2 = 8 ∧ MemR b c (i + 1) S.2.1 := by
  obtain ⟨m1, m2, m3, m4⟩ := hm
  have hs := slot_lt (b := b) (c := c) (t := i) hc
  rw [pushC_is (by omega) hc hc' hw, popC_is (by omega) hc hc']
  obtain ⟨r1, r2, r3, r4, r5, r6, r7⟩ := push_done (b := b) (c := c) (t := i) (ws := ws) (m := m) (by omega) hc (by omega) (by rw [m2]; exact ne_room hc hc' (by omega) (Nat.le_refl _))
  simp only
  generalize stepsT (startT (pushL b c i ws)) m 99 = R at *
  obtain ⟨s1, s2, s3, s4⟩ := pop_done (b := b) (c := c) (t := i) (ws := ws) (m := R.2.1) (by omega) hc (by omega) hw r6 (by rw [r5]; omega)
  refine ⟨r2, r3, s1, s2, s3, ?_⟩
  rw [s4]
  refine ⟨by rw [List.length_set]; omega, ?_, ?_, ?_⟩
  · rw [getD_set_same _ (by omega)]; push_cast; rfl
  · rw [getD_set_other _ (by omega), r5]; push_cast; rfl
  · rw [getD_set_other _ (by omega), r7 _ (by omega) (by omega)]; exact m4
theorem memR_end {b c i : Nat} (hb : b ≤ 100) (hc : 1 ≤ c) (hc' : c ≤ 8) {m : List Int} (hm : MemR b c i m) :
    let R := stepsT (startT (popC b c i)) m 99
    R.1.t.done = true ∧ takenRB R.1 = false ∧ R.2.2 = 1 := by
  obtain ⟨m1, m2, m3, m4⟩ := hm
  rw [popC_is (by omega) hc hc']
  obtain ⟨r1, r2, r3, r4⟩ := pop_vain (b := b) (c := c) (t := i) (m := m) (by omega) (by omega) m3
  exact ⟨r1, r2, r3⟩

/-! ### RingFull -/
def MemL (b c i l k : Nat) (m : List Int) : Prop := m.length = b + 3 + 6 * c ∧ m.getD b 0 = (k : Int) ∧ m.getD (b + 1) 0 = (l : Int) ∧ m.getD (b + 2) 0 = (i : Int) - (l : Int) ∧ ∀ p, p < l → ∀ j, j < 6 → m.getD (b + 3 + 6 * p + j) 0 = (wordsR (p : Int)).getD j 0
theorem memL_zero (b c : Nat) : MemL b c 0 0 0 (zeros (b + 3 + 6 * c)) := ⟨zeros_len _, zeros_at _ _, zeros_at _ _, zeros_at _ _, fun p hp => absurd hp (by omega)⟩
theorem slot_small {b c t : Nat} (h : t < c) : slotR b c t = b + 3 + 6 * t := by unfold slotR; rw [Nat.mod_eq_of_lt h]
theorem memL_push {b c i l : Nat} (hb : b ≤ 100) (hc : 1 ≤ c) (hc' : c ≤ 8) (hi : i ≤ 20) (hl : l = min i c) {m : List Int} (hm : MemL b c i l 0 m) :
    let R := stepsT (startT (pushC b c l (wordsR (i : Int)))) m 99
    R.1.t.done = true ∧ ((i < c ∧ R.1.t.ans = 1 ∧ MemL b c (i + 1) (l + 1) 0 R.2.1) ∨ (c ≤ i ∧ R.1.t.ans = 0 ∧ MemL b c (i + 1) l 0 R.2.1)) := by
  obtain ⟨m1, m2, m3, m4, m5⟩ := hm
  rw [pushC_is (by omega) hc hc' (wordsR_len _)]
  by_cases h : i < c
  · obtain rfl : l = i := by omega
    have hs := slot_small (b := b) h
    obtain ⟨r1, r2, r3, r4, r5, r6, r7⟩ := push_done (b := b) (c := c) (t := l) (ws := wordsR (l : Int)) (m := m) (by omega) hc (by omega) (by rw [m2]; exact ne_room hc hc' (by omega) (Nat.zero_le _))
    rw [hs] at r6 r7
    refine ⟨r1, .inl ⟨h, r2, by rw [r4]; exact m1, ?_, by rw [r5]; push_cast; rfl, ?_, fun p hp j hj => ?_⟩⟩
    · rw [r7 _ (by omega) (by omega)]; exact m2
    · rw [r7 _ (by omega) (by omega), m4]; push_cast; omega
    · by_cases hpl : p = l
      · subst hpl; exact r6 j hj
      · rw [r7 _ (by omega) (by omega)]; exact m5 p (by omega) j hj
  · obtain rfl : l = c := by omega
    obtain ⟨r1, r2, r3⟩ := push_vain (b := b) (c := l) (t := l) (ws := wordsR (i : Int)) (m := m) (by omega) (by omega) (by rw [m2]; omega)
    refine ⟨r1, .inr ⟨by omega, r2, ?_⟩⟩
    rw [r3]
    refine ⟨by rw [List.length_set]; exact m1, ?_, ?_, ?_, fun p hp j hj => ?_⟩
    · rw [getD_set_other _ (by omega)]; exact m2
    · rw [getD_set_other _ (by omega)]; exact m3
    · rw [getD_set_same _ (by omega), m4]; omega
    · rw [getD_set_other _ (by omega)]; exact m5 p hp j hj
theorem memL_pop {b c i l k : Nat} (hb : b ≤ 100) (hc : 1 ≤ c) (hc' : c ≤ 8) (hl : l ≤ c) (hk : k ≤ l) {m : List Int} (hm : MemL b c i l k m) :
    let R := stepsT (startT (popC b c k)) m 99
    (k < l ∧ takenRB R.1 = true ∧ takenRL R.1 = wordsR (k : Int) ∧ MemL b c i l (k + 1) R.2.1) ∨ (k = l ∧ takenRB R.1 = false ∧ MemL b c i l k R.2.1) := by
  obtain ⟨m1, m2, m3, m4, m5⟩ := hm
  rw [popC_is (by omega) hc hc']
  by_cases h : k < l
  · have hs := slot_small (b := b) (show k < c by omega)
    obtain ⟨s1, s2, s3, s4⟩ := pop_done (b := b) (c := c) (t := k) (ws := wordsR (k : Int)) (m := m) (by omega) hc (by omega) (wordsR_len _) (by rw [hs]; exact m5 k h) (by rw [m3]; omega)
    refine .inl ⟨h, s1, s2, ?_⟩
    rw [s4]
    refine ⟨by rw [List.length_set]; exact m1, ?_, ?_, ?_, fun p hp j hj => ?_⟩
    · rw [getD_set_same _ (by omega)]; push_cast; rfl
    · rw [getD_set_other _ (by omega)]; exact m3
    · rw [getD_set_other _ (by omega)]; exact m4
    · rw [getD_set_other _ (by omega)]; exact m5 p hp j hj
  · obtain rfl : k = l := by omega
    obtain ⟨r1, r2, r3, r4⟩ := pop_vain (b := b) (c := c) (t := k) (m := m) (by omega) (by omega) m3
    exact .inr ⟨rfl, r2, by rw [r4]; exact ⟨m1, m2, m3, m4, m5⟩⟩

/-! ### RingApart -/
theorem push_board {b c t : Nat} (hc : 1 ≤ c) {ws : List Int} : ∀ x ∈ pushL b c t ws, x.k ≤ 2 → x.k = 0 ∨ ((b : Int) < x.i ∧ x.i < (b : Int) + (3 + 6 * (c : Int))) := by
  intro x hx
  have hs := slot_lt (b := b) (c := c) (t := t) hc
  obtain ⟨q, hq, rfl⟩ := tab_mem hx
  unfold pushI
  rw [atR_slot]
  repeat' split
  all_goals (intro hk; first | (left; rfl) | (right; simp only; omega) | (exfalso; simp at hk))
theorem pop_board {b c t : Nat} : ∀ x ∈ popL b c t, x.k ≤ 2 → x.k = 0 ∨ x.i = (b : Int) := by
  intro x hx
  obtain ⟨q, hq, rfl⟩ := tab_mem hx
  unfold popI
  repeat' split
  all_goals (intro hk; first | (left; rfl) | (right; rfl) | (exfalso; simp at hk))
theorem push_apart {b c t : Nat} (hb : b ≤ 100) (hc : 1 ≤ c) (hc' : c ≤ 8) {ws : List Int} (hw : ws.length = 6) {m : List Int} (hm : m.length ≤ 256) (most : Int) :
    SameBut m (fun i => (b : Int) < i ∧ i < (b : Int) + (3 + 6 * (c : Int))) (stepsT (startT (pushC b c t ws)) m most).2.1 := by
  rw [pushC_is (by omega) hc hc' hw]
  exact steps_keeps (keeps_sameBut (push_board hc)) hm (sameBut_refl _ _) most
theorem pop_apart {b c t : Nat} (hb : b ≤ 100) (hc : 1 ≤ c) (hc' : c ≤ 8) {m : List Int} (hm : m.length ≤ 256) (most : Int) :
    SameBut m (fun i => i = (b : Int)) (stepsT (startT (popC b c t)) m most).2.1 := by
  rw [popC_is (by omega) hc hc']
  exact steps_keeps (keeps_sameBut pop_board) hm (sameBut_refl _ _) most
end Go.Proofs.Ytpkelneimjmmkaa

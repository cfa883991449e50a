/- Plain laws of SeqWhole: whoever takes a step, what is read whole is what was written. -/
import Derived.Test.YtpkelneimjmmkaaSeqJ
import Derived.Test.YtpkelneimjmmkaaPureM
namespace Go.Proofs.Ytpkelneimjmmkaa

theorem writeC_two {n : Nat} (h1 : 1 ≤ n) (h2 : n ≤ 28) {ver : Int} (hv : 0 ≤ ver) (he : ver % 2 = 0) (i : Int) : writeC 2 ver (wordsQ n i) = writeL ((2 : Nat) : Int) ver (wordsQ n i) := by
  unfold writeC
  rw [if_pos ⟨by omega, by omega, by rw [wordsQ_len]; exact h1, by rw [wordsQ_len]; exact h2, hv, he⟩]
  rfl
theorem tryC_two {n k : Nat} (h1 : 1 ≤ n) (h2 : n ≤ 28) (h3 : 1 ≤ k) (h4 : k ≤ 6) : tryC 2 (n : Int) (k : Int) = tryL ((2 : Nat) : Int) n k := by
  unfold tryC
  rw [if_pos ⟨by omega, by omega, by omega, by omega, by omega, by omega⟩]
  simp
/-- The program that writes the next number. -/
def wprog (n D : Nat) : List Insn := writeL ((2 : Nat) : Int) (2 * (D : Int)) (wordsQ n ((D : Int) + 1))
/-- Where one who writes is, so many writes done. -/
def WrAt (n D : Nat) (m : List Int) (wr : FT) : Prop :=
  (wr.t.done = true ∧ m.getD 2 0 = 2 * (D : Int) ∧ ∀ j, j < n → m.getD (3 + j) 0 = (wordsQ n (D : Int)).getD j 0) ∨
  (∃ q : Nat, 1 ≤ q ∧ q ≤ n + 1 ∧ wr = ⟨wprog n D, ⟨(q : Int), zeros 32, false, 0⟩⟩ ∧ m.getD 2 0 = 2 * (D : Int) + 1 ∧ ∀ j, j + 1 < q → j < n → m.getD (3 + j) 0 = (wordsQ n ((D : Int) + 1)).getD j 0)
/-- Where one who reads is, who began at a number. -/
def RdAt (n k D : Nat) (m : List Int) (F : Nat) (T : FT) : Prop :=
  F ≤ D ∧ (T.t.done = true ∨
    (∃ i r, TryAt ((2 : Nat) : Int) n k T i r ∧ (2 ≤ r → T.t.regs.getD 0 0 % 2 = 0 ∧ T.t.regs.getD 0 0 ≤ m.getD 2 0 ∧ (T.t.regs.getD 0 0 = m.getD 2 0 → ∀ j, j + 2 < r → T.t.regs.getD (1 + j) 0 = m.getD (3 + j) 0))))

section
variable {n k D F : Nat} {m m' : List Int} {wr T : FT}
theorem rd_later {D' : Nat} (h : RdAt n k D m F T) (hD : D ≤ D')
    (hm : m.getD 2 0 < m'.getD 2 0 ∨ (m'.getD 2 0 = m.getD 2 0 ∧ (m.getD 2 0 % 2 = 0 → ∀ j, j < n → m'.getD (3 + j) 0 = m.getD (3 + j) 0))) : RdAt n k D' m' F T := by
  obtain ⟨h1, h2⟩ := h
  refine ⟨by omega, ?_⟩
  rcases h2 with h2 | ⟨i, r, h2, h3⟩
  · exact .inl h2
  · refine .inr ⟨i, r, h2, fun hr => ?_⟩
    obtain ⟨e1, e2, e3⟩ := h3 hr
    rcases hm with hm | ⟨hm, hs⟩
    · exact ⟨e1, by omega, fun e => by omega⟩
    · refine ⟨e1, by omega, fun e j hj => ?_⟩
      rw [hm] at e
      have hp := h2.place
      rw [hs (by omega) j (by omega)]
      exact e3 e j hj
/-- A program that writes, at its start. -/
theorem wr_start (h1 : 1 ≤ n) (h2 : n ≤ 28) : startT (writeC 2 (2 * (D : Int)) (wordsQ n ((D : Int) + 1))) = ⟨wprog n D, ⟨((0 : Nat) : Int), zeros 32, false, 0⟩⟩ := by
  rw [writeC_two h1 h2 (by omega) (by omega)]
  have hl := wordsQ_len n ((D : Int) + 1)
  exact write_start (by omega) (by omega)
/-- A step of a write that is at work: it is not done, or it is. -/
theorem wr_work (h1 : 1 ≤ n) (h2 : n ≤ 28) (hm : m.length = n + 3) {q : Nat} (hq : q ≤ n + 1) (hv : m.getD 2 0 = if q = 0 then 2 * (D : Int) else 2 * (D : Int) + 1)
    (hw : ∀ j, j + 1 < q → j < n → m.getD (3 + j) 0 = (wordsQ n ((D : Int) + 1)).getD j 0) :
    let R := stepT ⟨wprog n D, ⟨(q : Int), zeros 32, false, 0⟩⟩ m
    R.2.length = n + 3 ∧
    ((R.1.t.done = false ∧ WrAt n D R.2 R.1 ∧ (m.getD 2 0 < R.2.getD 2 0 ∨ (R.2.getD 2 0 = m.getD 2 0 ∧ (m.getD 2 0 % 2 = 0 → ∀ j, j < n → R.2.getD (3 + j) 0 = m.getD (3 + j) 0)))) ∨
     (R.1.t.done = true ∧ R.1.t.ans = 1 ∧ WrAt n (D + 1) R.2 R.1 ∧ (m.getD 2 0 < R.2.getD 2 0 ∨ (R.2.getD 2 0 = m.getD 2 0 ∧ (m.getD 2 0 % 2 = 0 → ∀ j, j < n → R.2.getD (3 + j) 0 = m.getD (3 + j) 0))))) := by
  have hl := wordsQ_len n ((D : Int) + 1)
  have hst := write_put (b := 2) (ver := 2 * (D : Int)) (ws := wordsQ n ((D : Int) + 1)) (by omega) (by omega) (m := m) (by omega) (by omega) (q := q) (by omega) (zeros 32) 0
  simp only
  have hst' : stepT ⟨wprog n D, ⟨(q : Int), zeros 32, false, 0⟩⟩ m = _ := hst
  rw [hst']
  by_cases hend : q = n + 1
  · subst hend
    rw [if_neg (by omega)] at hv
    have hs := writeL_sane (b := ((2 : Nat) : Int)) (ver := 2 * (D : Int)) (ws := wordsQ n ((D : Int) + 1)) (by omega) (by omega)
    have hll := writeL_len ((2 : Nat) : Int) (2 * (D : Int)) (wordsQ n ((D : Int) + 1))
    have hx : rest (writeL ((2 : Nat) : Int) (2 * (D : Int)) (wordsQ n ((D : Int) + 1))) ⟨((n + 1 + 1 : Nat) : Int), zeros 32, false, 0⟩ = ⟨((n + 1 + 1 : Nat) : Int), zeros 32, true, 1⟩ := by
      refine rest_end (x := ⟨6, 0, 0, ((wordsQ n ((D : Int) + 1)).length : Int) + 3, 1⟩) hs rfl (by simp only; omega) (by simp only; omega) ?_ rfl
      simp only [Int.toNat_natCast]
      rw [writeL_at _ _ _ (by omega)]
      unfold writeI
      rw [if_neg (by omega), if_neg (by omega), if_neg (by omega)]
    rw [if_neg (by omega), if_neg (by omega)]
    simp only
    rw [hx]
    refine ⟨by rw [List.length_set]; exact hm, .inr ⟨rfl, rfl, .inl ⟨rfl, ?_, fun j hj => ?_⟩, .inl ?_⟩⟩
    · rw [getD_set_same _ (by omega)]; omega
    · rw [getD_set_other _ (by omega), hw j (by omega) hj]; push_cast; rfl
    · rw [getD_set_same _ (by omega)]; omega
  · have hsty := write_stay (b := 2) (ver := 2 * (D : Int)) (ws := wordsQ n ((D : Int) + 1)) (q := q + 1) (by omega) (zeros 32) 0
    simp only
    rw [hsty]
    by_cases h0 : q = 0
    · subst h0
      rw [if_pos rfl] at hv ⊢
      refine ⟨by rw [List.length_set]; exact hm, .inl ⟨rfl, .inr ⟨1, by omega, by omega, rfl, ?_, fun j hj => absurd hj (by omega)⟩, .inl ?_⟩⟩
      · rw [getD_set_same _ (by omega)]
      · rw [getD_set_same _ (by omega)]; omega
    · rw [if_neg h0] at hv
      rw [if_neg h0, if_pos (by omega)]
      refine ⟨by rw [List.length_set]; exact hm, .inl ⟨rfl, .inr ⟨q + 1, by omega, by omega, rfl, ?_, fun j hj hjn => ?_⟩, .inr ⟨?_, fun he => by omega⟩⟩⟩
      · rw [getD_set_other _ (by omega)]; exact hv
      · by_cases hje : j + 1 = q
        · subst hje
          rw [show 3 + j = 2 + (j + 1) by omega, getD_set_same _ (by omega)]
          simp
        · rw [getD_set_other _ (by omega)]
          exact hw j (by omega) hjn
      · rw [getD_set_other _ (by omega)]
theorem wr_first (h : WrAt n D m wr) (hd : wr.t.done = true) : m.getD 2 0 = 2 * (D : Int) := by
  rcases h with ⟨_, h, _⟩ | ⟨q, _, _, rfl, _⟩
  · exact h
  · cases hd
/-- A program that reads, at its start. -/
theorem rd_start (h1 : 1 ≤ n) (h2 : n ≤ 28) (h3 : 1 ≤ k) (h4 : k ≤ 6) : RdAt n k D m D (startT (tryC 2 (n : Int) (k : Int))) ∧ (startT (tryC 2 (n : Int) (k : Int))).t.done = false := by
  rw [tryC_two h1 h2 h3 h4, try_start h2 h3 h4]
  exact ⟨⟨Nat.le_refl _, .inr ⟨0, 0, ⟨rfl, rfl, by simp [tsk0], by omega, .inl rfl, zeros_len 32⟩, fun h => absurd h (by omega)⟩⟩, rfl⟩
theorem rd_onward (h2 : n ≤ 28) (h4 : k ≤ 6) {i : Nat} (hi : i < k) {regs : List Int} (hr : regs.length = 32) (a : Int) (hF : F ≤ D) :
    let T' : FT := ⟨tryL ((2 : Nat) : Int) n k, rest (tryL ((2 : Nat) : Int) n k) ⟨(((i + 1) * (n + 4) : Nat) : Int), regs, false, a⟩⟩
    RdAt n k D m F T' ∧ (T'.t.done = true → T'.t.ans = 0) := by
  simp only
  by_cases h : i + 1 = k
  · subst h
    rw [try_none h2 h4]
    exact ⟨⟨hF, .inl rfl⟩, fun _ => rfl⟩
  · have h1 := try_stay (b := ((2 : Nat) : Int)) (n := n) (k := k) (i := i + 1) (r := 0) (by omega) (.inl rfl) regs a
    rw [Nat.add_zero] at h1
    rw [h1]
    exact ⟨⟨hF, .inr ⟨i + 1, 0, ⟨rfl, rfl, rfl, by omega, .inl rfl, hr⟩, fun h => absurd h (by omega)⟩⟩, fun h => by cases h⟩
/-- A step of a try that is at work. -/
theorem rd_step (h1 : 1 ≤ n) (h2 : n ≤ 28) (h4 : k ≤ 6) (hm : m.length = n + 3) (hw : WrAt n D m wr) (h : RdAt n k D m F T) (hd : T.t.done = false) :
    let R := stepT T m
    R.2 = m ∧ RdAt n k D m F R.1 ∧ F ≤ D ∧ (takenB R.1 (n : Int) = true → takenV R.1 (n : Int) = (D : Int) ∧ takenL R.1 (n : Int) = wordsQ n (D : Int)) := by
  obtain ⟨hF, h⟩ := h
  rcases h with h | ⟨i, r, h, hv⟩
  · rw [hd] at h; cases h
  obtain ⟨s1, s2, s3⟩ := try_step h1 h2 h4 h (m := m) (by omega)
  have h32 := h.regs
  have hi := h.look
  have ndone : ∀ R : FT, (R.t.done = true → R.t.ans = 0) → takenB R (n : Int) = true → takenV R (n : Int) = (D : Int) ∧ takenL R (n : Int) = wordsQ n (D : Int) := fun R hR hB => by
    have := of_decide_eq_true hB
    have h0 := hR this.1
    rw [h0] at this
    exact absurd this.2.1 (by omega)
  simp only
  rcases h.place with hr | ⟨hr1, hr2⟩
  · obtain ⟨d, hx, e⟩ := s1 hr
    rw [show ((2 : Nat) : Int) = (((2 : Nat)) : Int) from rfl, access_get (by omega)] at hx
    rw [e]
    subst hr
    have hg : (T.t.regs.set 0 d).getD 0 0 = d := getD_set_same d (by omega)
    by_cases ho : d % 2 = 1
    · simp only
      rw [try_odd h2 h4 hi _ _ (by rw [hg]; exact ho)]
      obtain ⟨r1, r2⟩ := rd_onward (D := D) (m := m) (F := F) h2 h4 hi (regs := T.t.regs.set 0 d) (by simp [h32]) T.t.ans hF
      exact ⟨by trivial, r1, hF, ndone _ r2⟩
    · simp only
      rw [try_even h2 h4 h1 hi _ _ (by rw [hg]; exact ho)]
      refine ⟨by trivial, ⟨hF, .inr ⟨i, 2, ⟨rfl, rfl, rfl, hi, .inr ⟨by omega, by omega⟩, by simp [h32]⟩, fun _ => ?_⟩⟩, hF, ndone _ (fun h => by cases h)⟩
      simp only
      rw [hg]
      exact ⟨by omega, by omega, fun _ j hj => absurd hj (by omega)⟩
  · obtain ⟨v1, v2, v3⟩ := hv hr1
    by_cases hrn : r = n + 2
    · obtain ⟨d, hx, e⟩ := s3 hrn
      rw [access_get (by omega)] at hx
      rw [e]
      have hg : (T.t.regs.set 31 d).getD 31 0 = d := getD_set_same d (by omega)
      have hg0 : (T.t.regs.set 31 d).getD 0 0 = T.t.regs.getD 0 0 := getD_set_other d (by omega)
      by_cases ho : d = T.t.regs.getD 0 0
      · simp only
        rw [try_same h2 h4 hi _ _ (by rw [hg, hg0]; exact ho)]
        refine ⟨by trivial, ⟨hF, .inl rfl⟩, hF, fun hB => ?_⟩
        rcases hw with ⟨_, w2, w3⟩ | ⟨q, _, _, _, w2, _⟩
        · constructor
          · unfold takenV; rw [hB, if_pos rfl]
            simp only
            rw [hg0]; omega
          · unfold takenL
            rw [hB, if_pos rfl, Int.toNat_natCast]
            simp only
            obtain ⟨c1, c2⟩ := regs_cut (l := T.t.regs.set 31 d) (by simp [h32]) h2
            apply List.ext_getElem?
            intro j
            by_cases hj : j < n
            · have e1 := c2 j hj
              rw [getD_set_other d (by omega), v3 (by omega) j (by omega), w3 j hj] at e1
              rw [List.getD_eq_getElem?_getD, List.getD_eq_getElem?_getD, List.getElem?_eq_getElem (by omega), List.getElem?_eq_getElem (by rw [wordsQ_len]; exact hj)] at e1
              rw [List.getElem?_eq_getElem (by omega), List.getElem?_eq_getElem (by rw [wordsQ_len]; exact hj)]
              simpa using e1
            · rw [List.getElem?_eq_none (by omega), List.getElem?_eq_none (by rw [wordsQ_len]; omega)]
        · omega
      · simp only
        rw [try_other h2 h4 hi _ _ (by rw [hg, hg0]; exact ho)]
        obtain ⟨r1, r2⟩ := rd_onward (D := D) (m := m) (F := F) h2 h4 hi (regs := T.t.regs.set 31 d) (by simp [h32]) T.t.ans hF
        exact ⟨by trivial, r1, hF, ndone _ r2⟩
    · obtain ⟨d, hx, e⟩ := s2 hr1 (by omega)
      rw [show ((2 : Nat) : Int) + ((r : Int) - 1) = ((2 + (r - 1) : Nat) : Int) by omega, access_get (by omega)] at hx
      rw [e]
      clear s1 s2 s3
      refine ⟨by trivial, ⟨hF, .inr ⟨i, r + 1, ⟨rfl, rfl, rfl, hi, .inr ⟨by omega, by omega⟩, by simp [h32]⟩, fun _ => ?_⟩⟩, hF, ndone _ (fun h => by cases h)⟩
      simp only
      rw [getD_set_other d (by omega)]
      refine ⟨v1, v2, fun e j hj => ?_⟩
      by_cases hje : 1 + j = r - 1
      · rw [hje, getD_set_same _ (by omega), hx, show 2 + (r - 1) = 3 + j by omega]
      · rw [getD_set_other _ (by omega)]
        exact v3 e j (by omega)

/-! ### the whole -/
/-- All is in order: the memory, how many were written, who writes, the two who read and where they began. -/
structure QT (n k : Nat) (m : List Int) (D : Nat) (wr : FT) (F0 F1 : Nat) (T0 T1 : FT) : Prop where
  len : m.length = n + 3
  writes : WrAt n D m wr
  one : RdAt n k D m F0 T0
  two : RdAt n k D m F1 T1
variable {F0 F1 : Nat} {T0 T1 : FT}
theorem qt_zero (h : T.t.done = true) : QT n k (zeros (n + 3)) 0 T 0 0 T T := by
  refine ⟨zeros_len _, .inl ⟨h, ?_, fun j hj => ?_⟩, ⟨Nat.le_refl _, .inl h⟩, ⟨Nat.le_refl _, .inl h⟩⟩
  · simp [zeros, List.getD_eq_getElem?_getD]
  · unfold wordsQ
    rw [if_neg (by omega)]
    simp only [zeros, List.getD_eq_getElem?_getD, List.getElem?_replicate]
    rw [if_pos (by omega), if_pos hj]
/-- A step of who writes; who is done begins. -/
theorem qt_writer (h1 : 1 ≤ n) (h2 : n ≤ 28) (h : QT n k m D wr F0 F1 T0 T1) :
    let wr' := if wr.t.done then startT (writeC 2 (2 * (D : Int)) (wordsQ n ((D : Int) + 1))) else wr
    let R := stepT wr' m
    (R.1.t.done = false ∧ QT n k R.2 D R.1 F0 F1 T0 T1) ∨ (R.1.t.done = true ∧ R.1.t.ans = 1 ∧ QT n k R.2 (D + 1) R.1 F0 F1 T0 T1) := by
  obtain ⟨hm, hw, ha, hb⟩ := h
  have key : ∀ q : Nat, q ≤ n + 1 → (m.getD 2 0 = if q = 0 then 2 * (D : Int) else 2 * (D : Int) + 1) → (∀ j, j + 1 < q → j < n → m.getD (3 + j) 0 = (wordsQ n ((D : Int) + 1)).getD j 0) →
      let R := stepT ⟨wprog n D, ⟨(q : Int), zeros 32, false, 0⟩⟩ m
      (R.1.t.done = false ∧ QT n k R.2 D R.1 F0 F1 T0 T1) ∨ (R.1.t.done = true ∧ R.1.t.ans = 1 ∧ QT n k R.2 (D + 1) R.1 F0 F1 T0 T1) := by
    intro q hq hv hws
    obtain ⟨r1, r2⟩ := wr_work h1 h2 hm hq hv hws
    simp only at r1 r2 ⊢
    rcases r2 with ⟨r2, r3, r4⟩ | ⟨r2, r5, r3, r4⟩
    · exact .inl ⟨r2, r1, r3, rd_later ha (Nat.le_refl _) r4, rd_later hb (Nat.le_refl _) r4⟩
    · exact .inr ⟨r2, r5, r1, r3, rd_later ha (by omega) r4, rd_later hb (by omega) r4⟩
  simp only
  rcases hw with ⟨w1, w2, w3⟩ | ⟨q, q1, q2, rfl, w2, w3⟩
  · rw [if_pos w1, wr_start h1 h2]
    exact key 0 (by omega) (by rw [if_pos rfl]; exact w2) (fun j hj => absurd hj (by omega))
  · rw [if_neg (by simp)]
    exact key q q2 (by rw [if_neg (by omega)]; exact w2) w3
/-- A step of one who reads; who is done begins. -/
theorem qt_reader (h1 : 1 ≤ n) (h2 : n ≤ 28) (h3 : 1 ≤ k) (h4 : k ≤ 6) (hm : m.length = n + 3) (hw : WrAt n D m wr) (h : RdAt n k D m F T) :
    let T' := if T.t.done then startT (tryC 2 (n : Int) (k : Int)) else T
    let F' := if T.t.done then D else F
    let R := stepT T' m
    R.2 = m ∧ RdAt n k D m F' R.1 ∧ F' ≤ D ∧ (takenB R.1 (n : Int) = true → takenV R.1 (n : Int) = (D : Int) ∧ takenL R.1 (n : Int) = wordsQ n (D : Int)) := by
  simp only
  by_cases hd : T.t.done = true
  · rw [if_pos hd, if_pos hd]
    obtain ⟨r1, r2⟩ := rd_start (D := D) (m := m) h1 h2 h3 h4
    exact rd_step h1 h2 h4 hm hw r1 r2
  · rw [if_neg hd, if_neg hd]
    exact rd_step h1 h2 h4 hm hw h (by simpa using hd)
end
end Go.Proofs.Ytpkelneimjmmkaa

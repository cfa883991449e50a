/- Plain laws of layer 15: what a try comes to, what a write leaves. -/
import Derived.Test.YtpkelneimjmmkaaPureQ
namespace Go.Proofs.Ytpkelneimjmmkaa

theorem tryL_len (b : Int) (n k : Nat) : (tryL b n k).length = k * (n + 4) + 2 := tab_len _ _
theorem tryL_at (b : Int) {n k i r : Nat} (hi : i < k) (hr : r < n + 4) : (tryL b n k).getD (i * (n + 4) + r) insn0 = lookI b n (k * (n + 4)) (i * (n + 4)) r := by
  unfold tryL
  rw [tab_getD _ (by have := look_lt hi hr; omega), tryI_look b hi hr]
theorem tryL_none (b : Int) (n k : Nat) : (tryL b n k).getD (k * (n + 4)) insn0 = ⟨6, 0, 0, ((k * (n + 4) : Nat) : Int) + 1, 0⟩ := by
  unfold tryL
  rw [tab_getD _ (by omega)]
  unfold tryI
  rw [if_neg (by omega), if_pos rfl]
theorem tryL_yes (b : Int) (n k : Nat) : (tryL b n k).getD (k * (n + 4) + 1) insn0 = ⟨6, 0, 0, ((k * (n + 4) : Nat) : Int) + 2, 1⟩ := by
  unfold tryL
  rw [tab_getD _ (by omega)]
  unfold tryI
  rw [if_neg (by omega), if_neg (by omega)]
section
variable {b : Int} {n k : Nat}
theorem try_none (hn : n ≤ 28) (hk : k ≤ 6) (regs : List Int) (a : Int) : rest (tryL b n k) ⟨((k * (n + 4) : Nat) : Int), regs, false, a⟩ = ⟨((k * (n + 4) : Nat) : Int), regs, true, 0⟩ := by
  have hl := tryL_len b n k
  exact rest_end (x := ⟨6, 0, 0, ((k * (n + 4) : Nat) : Int) + 1, 0⟩) (tryL_sane hn hk) rfl (by simp only; omega) (by simp only; omega) (by simp only [Int.toNat_natCast]; exact tryL_none b n k) rfl
theorem try_yes (hn : n ≤ 28) (hk : k ≤ 6) (regs : List Int) (a : Int) : rest (tryL b n k) ⟨((k * (n + 4) + 1 : Nat) : Int), regs, false, a⟩ = ⟨((k * (n + 4) + 1 : Nat) : Int), regs, true, 1⟩ := by
  have hl := tryL_len b n k
  exact rest_end (x := ⟨6, 0, 0, ((k * (n + 4) : Nat) : Int) + 2, 1⟩) (tryL_sane hn hk) rfl (by simp only; omega) (by simp only; omega) (by simp only [Int.toNat_natCast]; exact tryL_yes b n k) rfl
theorem try_stay {i r : Nat} (hi : i < k) (hr : r = 0 ∨ (2 ≤ r ∧ r ≤ n + 2)) (regs : List Int) (a : Int) : rest (tryL b n k) ⟨((i * (n + 4) + r : Nat) : Int), regs, false, a⟩ = ⟨((i * (n + 4) + r : Nat) : Int), regs, false, a⟩ := by
  have hl := tryL_len b n k
  have h1 := look_lt hi (show r < n + 4 by omega)
  refine rest_at rfl (by simp only; omega) (by simp only; omega) ?_
  simp only [Int.toNat_natCast]
  rw [tryL_at b hi (by omega)]
  unfold lookI
  rcases hr with rfl | ⟨h2, h3⟩
  · rw [if_pos rfl]; simp
  · rw [if_neg (by omega), if_neg (by omega)]
    split
    · simp
    · rw [if_pos (by omega)]; simp
theorem try_odd (hn : n ≤ 28) (hk : k ≤ 6) {i : Nat} (hi : i < k) (regs : List Int) (a : Int) (ho : regs.getD 0 0 % 2 = 1) :
    rest (tryL b n k) ⟨((i * (n + 4) + 1 : Nat) : Int), regs, false, a⟩ = rest (tryL b n k) ⟨(((i + 1) * (n + 4) : Nat) : Int), regs, false, a⟩ := by
  have hl := tryL_len b n k
  have h1 := look_lt hi (show 1 < n + 4 by omega)
  have hx : (tryL b n k).getD (i * (n + 4) + 1) insn0 = ⟨4, 0, 0, ((i * (n + 4) : Nat) : Int) + ((n : Int) + 4), 0⟩ := by
    rw [tryL_at b hi (by omega)]; unfold lookI; rw [if_neg (by omega), if_pos rfl]
  have e : ((i * (n + 4) : Nat) : Int) + ((n : Int) + 4) = (((i + 1) * (n + 4) : Nat) : Int) := by rw [Nat.succ_mul]; omega
  rw [e] at hx
  exact rest_jump (x := ⟨4, 0, 0, (((i + 1) * (n + 4) : Nat) : Int), 0⟩) (tryL_sane hn hk) rfl (by simp only; omega) (by simp only; omega) (by simp only [Int.toNat_natCast]; exact hx) (by simp only; omega) (by simp only; omega)
    (by unfold jumpB; simp only [List.getD_eq_getElem?_getD] at ho; simp [ho])
theorem try_even (hn : n ≤ 28) (hk : k ≤ 6) (hn1 : 1 ≤ n) {i : Nat} (hi : i < k) (regs : List Int) (a : Int) (ho : ¬ regs.getD 0 0 % 2 = 1) :
    rest (tryL b n k) ⟨((i * (n + 4) + 1 : Nat) : Int), regs, false, a⟩ = ⟨((i * (n + 4) + 2 : Nat) : Int), regs, false, a⟩ := by
  have hl := tryL_len b n k
  have h1 := look_lt hi (show 1 < n + 4 by omega)
  have hx : (tryL b n k).getD (i * (n + 4) + 1) insn0 = ⟨4, 0, 0, ((i * (n + 4) : Nat) : Int) + ((n : Int) + 4), 0⟩ := by
    rw [tryL_at b hi (by omega)]; unfold lookI; rw [if_neg (by omega), if_pos rfl]
  refine (rest_next (x := ⟨4, 0, 0, ((i * (n + 4) : Nat) : Int) + ((n : Int) + 4), 0⟩) (tryL_sane hn hk) rfl (by simp only; omega) (by simp only; omega) (by simp only [Int.toNat_natCast]; exact hx) (by simp only; omega) (by simp only; omega)
    (by unfold jumpB; simp only [List.getD_eq_getElem?_getD] at ho; simp [ho])).trans ?_
  have h := try_stay (b := b) (n := n) hi (r := 2) (.inr ⟨by omega, by omega⟩) regs a
  have e : ((i * (n + 4) + 1 : Nat) : Int) + 1 = ((i * (n + 4) + 2 : Nat) : Int) := by omega
  simp only
  rw [e]
  exact h
theorem try_same (hn : n ≤ 28) (hk : k ≤ 6) {i : Nat} (hi : i < k) (regs : List Int) (a : Int) (ho : regs.getD 31 0 = regs.getD 0 0) :
    rest (tryL b n k) ⟨((i * (n + 4) + (n + 3) : Nat) : Int), regs, false, a⟩ = ⟨((k * (n + 4) + 1 : Nat) : Int), regs, true, 1⟩ := by
  have hl := tryL_len b n k
  have h1 := look_lt hi (show n + 3 < n + 4 by omega)
  have hx : (tryL b n k).getD (i * (n + 4) + (n + 3)) insn0 = ⟨5, 0, 31, ((k * (n + 4) + 1 : Nat) : Int), 0⟩ := by
    rw [tryL_at b hi (by omega)]; unfold lookI; rw [if_neg (by omega), if_neg (by omega), if_neg (by omega), if_neg (by omega)]; simp
  refine (rest_jump (x := ⟨5, 0, 31, ((k * (n + 4) + 1 : Nat) : Int), 0⟩) (tryL_sane hn hk) rfl (by simp only; omega) (by simp only; omega) (by simp only [Int.toNat_natCast]; exact hx) (by simp only; omega) (by simp only; omega)
    (by unfold jumpB low5; simp only [List.getD_eq_getElem?_getD] at ho; simp [ho])).trans ?_
  exact try_yes hn hk regs a
theorem try_other (hn : n ≤ 28) (hk : k ≤ 6) {i : Nat} (hi : i < k) (regs : List Int) (a : Int) (ho : ¬ regs.getD 31 0 = regs.getD 0 0) :
    rest (tryL b n k) ⟨((i * (n + 4) + (n + 3) : Nat) : Int), regs, false, a⟩ = rest (tryL b n k) ⟨(((i + 1) * (n + 4) : Nat) : Int), regs, false, a⟩ := by
  have hl := tryL_len b n k
  have h1 := look_lt hi (show n + 3 < n + 4 by omega)
  have hx : (tryL b n k).getD (i * (n + 4) + (n + 3)) insn0 = ⟨5, 0, 31, ((k * (n + 4) + 1 : Nat) : Int), 0⟩ := by
    rw [tryL_at b hi (by omega)]; unfold lookI; rw [if_neg (by omega), if_neg (by omega), if_neg (by omega), if_neg (by omega)]; simp
  refine (rest_next (x := ⟨5, 0, 31, ((k * (n + 4) + 1 : Nat) : Int), 0⟩) (tryL_sane hn hk) rfl (by simp only; omega) (by simp only; omega) (by simp only [Int.toNat_natCast]; exact hx) (by simp only; omega) (by simp only; omega)
    (by unfold jumpB low5; simp only [List.getD_eq_getElem?_getD] at ho; simp [ho])).trans ?_
  have e : ((i * (n + 4) + (n + 3) : Nat) : Int) + 1 = (((i + 1) * (n + 4) : Nat) : Int) := by rw [Nat.succ_mul]; omega
  simp only
  rw [e]
/-- The state of a try. -/
structure TryAt (b : Int) (n k : Nat) (T : FT) (i r : Nat) : Prop where
  code : T.code = tryL b n k
  done : T.t.done = false
  pc : T.t.pc = ((i * (n + 4) + r : Nat) : Int)
  look : i < k
  place : r = 0 ∨ (2 ≤ r ∧ r ≤ n + 2)
  regs : T.t.regs.length = 32
/-- What the next access of a try is, and what it comes to. -/
theorem try_step (hn1 : 1 ≤ n) (hn : n ≤ 28) (hk : k ≤ 6) {T : FT} {i r : Nat} (h : TryAt b n k T i r) {m : List Int} (hm : m.length ≤ 256) :
    (r = 0 → ∃ d, d = (access m ⟨0, b, 0, 0⟩).2 ∧ stepT T m = (⟨tryL b n k, rest (tryL b n k) ⟨((i * (n + 4) + 1 : Nat) : Int), T.t.regs.set 0 d, false, T.t.ans⟩⟩, m)) ∧
    (2 ≤ r → r ≤ n + 1 → ∃ d, d = (access m ⟨0, b + ((r : Int) - 1), 0, 0⟩).2 ∧ stepT T m = (⟨tryL b n k, ⟨((i * (n + 4) + (r + 1) : Nat) : Int), T.t.regs.set (r - 1) d, false, T.t.ans⟩⟩, m)) ∧
    (r = n + 2 → ∃ d, d = (access m ⟨0, b, 0, 0⟩).2 ∧ stepT T m = (⟨tryL b n k, rest (tryL b n k) ⟨((i * (n + 4) + (n + 3) : Nat) : Int), T.t.regs.set 31 d, false, T.t.ans⟩⟩, m)) := by
  obtain ⟨code, pc, regs, done, ans⟩ := T
  obtain ⟨hc, hd, hp, hi, hr, h32⟩ := h
  simp only at hc hd hp h32
  subst hc hd hp
  have hl := tryL_len b n k
  have hs := tryL_sane (b := b) hn hk
  refine ⟨fun hr0 => ?_, fun h2 h3 => ?_, fun hr0 => ?_⟩
  · subst hr0
    have hx : (tryL b n k).getD (i * (n + 4) + 0) insn0 = ⟨0, b, 0, ((i * (n + 4) : Nat) : Int) + 1, 0⟩ := by
      rw [tryL_at b hi (by omega)]; unfold lookI; rw [if_pos rfl]
    have h1 := look_lt hi (show 0 < n + 4 by omega)
    refine ⟨_, rfl, ?_⟩
    rw [stepT_at hs rfl (by simp only; omega) (by simp only; omega) (by simp only [Int.toNat_natCast]; exact hx) (by simp only; omega), counts_id hm]
    have e : kind 0 = 0 := rfl
    simp only [e]
    rw [access_load]
    unfold moved
    rw [if_pos rfl]
    simp
  · have hx : (tryL b n k).getD (i * (n + 4) + r) insn0 = ⟨0, b + ((r : Int) - 1), (r : Int) - 1, ((i * (n + 4) : Nat) : Int) + (r : Int) + 1, 0⟩ := by
      rw [tryL_at b hi (by omega)]; unfold lookI; rw [if_neg (by omega), if_neg (by omega), if_pos (by omega)]
    have h1 := look_lt hi (show r < n + 4 by omega)
    refine ⟨_, rfl, ?_⟩
    rw [stepT_at hs rfl (by simp only; omega) (by simp only; omega) (by simp only [Int.toNat_natCast]; exact hx) (by simp only; omega), counts_id hm]
    have e : kind 0 = 0 := rfl
    simp only [e]
    rw [access_load]
    have e2 : moved ⟨((i * (n + 4) + r : Nat) : Int), regs, false, ans⟩ ⟨0, b + ((r : Int) - 1), (r : Int) - 1, ((i * (n + 4) : Nat) : Int) + (r : Int) + 1, 0⟩ (access m ⟨0, b + ((r : Int) - 1), 0, 0⟩).2 = ⟨((i * (n + 4) + (r + 1) : Nat) : Int), regs.set (r - 1) (access m ⟨0, b + ((r : Int) - 1), 0, 0⟩).2, false, ans⟩ := by
      unfold moved
      rw [if_pos rfl]
      simp only [Tsk.mk.injEq, and_self, and_true]
      refine ⟨by omega, by rw [show ((r : Int) - 1).toNat = r - 1 by omega]⟩
    rw [e2, try_stay hi (.inr ⟨by omega, by omega⟩)]
  · subst hr0
    have hx : (tryL b n k).getD (i * (n + 4) + (n + 2)) insn0 = ⟨0, b, 31, ((i * (n + 4) : Nat) : Int) + ((n + 2 : Nat) : Int) + 1, 0⟩ := by
      rw [tryL_at b hi (by omega)]; unfold lookI; rw [if_neg (by omega), if_neg (by omega), if_neg (by omega), if_pos rfl]
    have h1 := look_lt hi (show n + 2 < n + 4 by omega)
    refine ⟨_, rfl, ?_⟩
    rw [stepT_at hs rfl (by simp only; omega) (by simp only; omega) (by simp only [Int.toNat_natCast]; exact hx) (by simp only; omega), counts_id hm]
    have e : kind 0 = 0 := rfl
    simp only [e]
    rw [access_load]
    have e2 : moved ⟨((i * (n + 4) + (n + 2) : Nat) : Int), regs, false, ans⟩ ⟨0, b, 31, ((i * (n + 4) : Nat) : Int) + ((n + 2 : Nat) : Int) + 1, 0⟩ (access m ⟨0, b, 0, 0⟩).2 = ⟨((i * (n + 4) + (n + 3) : Nat) : Int), regs.set 31 (access m ⟨0, b, 0, 0⟩).2, false, ans⟩ := by
      unfold moved
      rw [if_pos rfl]
      simp only [Tsk.mk.injEq, and_self, and_true]
      refine ⟨by omega, by simp⟩
    rw [e2]
end

/-! ### SeqEnds -/
def TryInv (b : Int) (n k s : Nat) (T : FT) : Prop :=
  (T.t.done = true ∧ (T.t.ans = 0 ∨ (T.t.ans = 1 ∧ T.t.regs.getD 0 0 = T.t.regs.getD 31 0 ∧ T.t.regs.getD 0 0 % 2 ≠ 1))) ∨
  (∃ i r, TryAt b n k T i r ∧ (2 ≤ r → T.t.regs.getD 0 0 % 2 ≠ 1) ∧ s ≤ i * (n + 2) + (if r = 0 then 0 else r - 1))
theorem try_onward {b : Int} {n k s : Nat} (hn : n ≤ 28) (hk : k ≤ 6) {i : Nat} (hi : i < k) {regs : List Int} (hr : regs.length = 32) (a : Int) (hs : s ≤ (i + 1) * (n + 2)) :
    TryInv b n k s ⟨tryL b n k, rest (tryL b n k) ⟨(((i + 1) * (n + 4) : Nat) : Int), regs, false, a⟩⟩ := by
  by_cases h : i + 1 = k
  · subst h
    rw [try_none hn hk]
    exact .inl ⟨rfl, .inl rfl⟩
  · have h1 := try_stay (b := b) (n := n) (k := k) (i := i + 1) (r := 0) (by omega) (.inl rfl) regs a
    rw [Nat.add_zero] at h1
    rw [h1]
    exact .inr ⟨i + 1, 0, ⟨rfl, rfl, rfl, by omega, .inl rfl, hr⟩, fun h => absurd h (by omega), by simpa using hs⟩
theorem try_start {b : Int} {n k : Nat} (hn : n ≤ 28) (hk1 : 1 ≤ k) (hk : k ≤ 6) : startT (tryL b n k) = ⟨tryL b n k, tsk0⟩ := by
  have hs := tryL_sane (b := b) hn hk
  have h1 := try_stay (b := b) (n := n) (k := k) (i := 0) (r := 0) (by omega) (.inl rfl) (zeros 32) 0
  unfold startT
  rw [if_pos hs]
  congr 1
  simpa [tsk0] using h1
theorem tryInv_start {b : Int} {n k : Nat} (hn : n ≤ 28) (hk1 : 1 ≤ k) (hk : k ≤ 6) : TryInv b n k 0 (startT (tryL b n k)) := by
  rw [try_start hn hk1 hk]
  exact .inr ⟨0, 0, ⟨rfl, rfl, by simp [tsk0], by omega, .inl rfl, zeros_len 32⟩, fun h => absurd h (by omega), by simp⟩
theorem tryInv_step {b : Int} {n k s : Nat} (hn1 : 1 ≤ n) (hn : n ≤ 28) (hk : k ≤ 6) {T : FT} (h : TryInv b n k s T) (hd : T.t.done = false) {m : List Int} (hm : m.length ≤ 256) : TryInv b n k (s + 1) (stepT T m).1 := by
  rcases h with ⟨h, _⟩ | ⟨i, r, h, hv, hs⟩
  · rw [hd] at h; cases h
  · obtain ⟨h1, h2, h3⟩ := try_step hn1 hn hk h hm
    have h32 := h.regs
    have hi := h.look
    have hsk : (i + 1) * (n + 2) = i * (n + 2) + (n + 2) := Nat.succ_mul _ _
    have hle : s + 1 ≤ (i + 1) * (n + 2) := by rw [hsk]; rcases h.place with hr | hr <;> split at hs <;> omega
    rcases h.place with hr | ⟨hr1, hr2⟩
    · obtain ⟨d, _, e⟩ := h1 hr
      rw [e]
      subst hr
      have hg : (T.t.regs.set 0 d).getD 0 0 = d := getD_set_same d (by omega)
      rw [if_pos rfl] at hs
      by_cases ho : d % 2 = 1
      · simp only
        rw [try_odd hn hk hi _ _ (by rw [hg]; exact ho)]
        exact try_onward hn hk hi (by simp [h32]) _ hle
      · simp only
        rw [try_even hn hk hn1 hi _ _ (by rw [hg]; exact ho)]
        exact .inr ⟨i, 2, ⟨rfl, rfl, rfl, hi, .inr ⟨by omega, by omega⟩, by simp [h32]⟩, fun _ => by simp only; rw [hg]; exact ho, by rw [if_neg (by omega)]; omega⟩
    · rw [if_neg (by omega)] at hs
      by_cases hrn : r = n + 2
      · obtain ⟨d, _, e⟩ := h3 hrn
        rw [e]
        have hg : (T.t.regs.set 31 d).getD 31 0 = d := getD_set_same d (by omega)
        have hg0 : (T.t.regs.set 31 d).getD 0 0 = T.t.regs.getD 0 0 := getD_set_other d (by omega)
        by_cases ho : d = T.t.regs.getD 0 0
        · simp only
          rw [try_same hn hk hi _ _ (by rw [hg, hg0]; exact ho)]
          exact .inl ⟨rfl, .inr ⟨rfl, by simp only; rw [hg, hg0, ho], by simp only; rw [hg0]; exact hv hr1⟩⟩
        · simp only
          rw [try_other hn hk hi _ _ (by rw [hg, hg0]; exact ho)]
          exact try_onward hn hk hi (by simp [h32]) _ hle
      · obtain ⟨d, _, e⟩ := h2 hr1 (by omega)
        rw [e]
        clear h1 h2 h3
        refine .inr ⟨i, r + 1, ⟨rfl, rfl, rfl, hi, .inr ⟨by omega, by omega⟩, by simp [h32]⟩, fun _ => ?_, by rw [if_neg (by omega)]; omega⟩
        simp only
        rw [getD_set_other d (by omega)]
        exact hv hr1
theorem tryInv_all {b : Int} {n k s : Nat} (hn1 : 1 ≤ n) {T : FT} (h : TryInv b n k s T) (hs : s = k * (n + 2)) : T.t.done = true := by
  rcases h with ⟨h, _⟩ | ⟨i, r, h, hv, h2⟩
  · exact h
  · have hsk : (i + 1) * (n + 2) ≤ k * (n + 2) := Nat.mul_le_mul_right _ h.look
    rw [Nat.succ_mul] at hsk
    have := h.place
    split at h2 <;> omega
end Go.Proofs.Ytpkelneimjmmkaa

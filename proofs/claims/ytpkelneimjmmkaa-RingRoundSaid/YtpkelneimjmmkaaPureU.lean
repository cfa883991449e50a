/- Plain laws of a step: one word at most, one register at most. -/
import Derived.Test.YtpkelneimjmmkaaPureS
import Derived.Test.YtpkelneimjmmkaaPureC
namespace Go.Proofs.Ytpkelneimjmmkaa

/-- At how many of the first k places two lists differ. -/
def diffTo (a b : List Int) : Nat → Nat
  | 0 => 0
  | k + 1 => diffTo a b k + if a.getD k 0 = b.getD k 0 then 0 else 1
theorem diffTo_same (a : List Int) (k : Nat) : diffTo a a k = 0 := by
  induction k with
  | zero => rfl
  | succ k ih => simp [diffTo, ih]
theorem diffTo_le (a b : List Int) (k : Nat) : diffTo a b k ≤ k := by
  induction k with
  | zero => exact Nat.le_refl _
  | succ k ih => simp only [diffTo]; split <;> omega
theorem diffTo_set (a : List Int) (i : Nat) (x : Int) (k : Nat) : diffTo a (a.set i x) k ≤ (if i < k then 1 else 0) := by
  induction k with
  | zero => simp [diffTo]
  | succ k ih =>
    simp only [diffTo]
    by_cases h : i = k
    · subst h
      rw [if_neg (Nat.lt_irrefl _)] at ih
      rw [if_pos (Nat.lt_succ_self _)]
      split <;> omega
    · have e : (a.set i x).getD k 0 = a.getD k 0 := getD_set_other x h
      rw [e, if_pos rfl]
      split at ih <;> split <;> omega
theorem access_diff (m : List Int) (x : Acc) (k : Nat) : diffTo m (access m x).1 k ≤ 1 := by
  have h1 : ∀ y, diffTo m (m.set x.i.toNat y) k ≤ 1 := fun y => by
    have := diffTo_set m x.i.toNat y k
    split at this <;> omega
  have h0 : diffTo m m k ≤ 1 := by rw [diffTo_same]; omega
  unfold access
  repeat' split
  all_goals first | exact h0 | exact h1 _
theorem access_load {m : List Int} {i a b : Int} : (access m ⟨0, i, a, b⟩).1 = m := by
  unfold access; repeat' split
  all_goals first | rfl | simp_all
theorem restN_regs (code : List Insn) (n : Nat) : ∀ t : Tsk, (restN code n t).regs = t.regs := by
  induction n with
  | zero => intro t; rfl
  | succ n ih =>
    intro t
    simp only [restN]
    split
    · rfl
    · split
      · rfl
      · split
        · rfl
        · rw [ih]
          unfold byItself
          split
          · rfl
          · split <;> rfl
theorem rest_regs (code : List Insn) (t : Tsk) : (rest code t).regs = t.regs := restN_regs code _ t
theorem step_len (T : FT) (m : List Int) : (stepT T m).2.length = (counts m).length := by
  unfold stepT
  split
  · rfl
  · split
    · rfl
    · split
      · rfl
      · exact access_len _ _
theorem step_words (T : FT) {m : List Int} (hm : m.length ≤ 256) (k : Nat) : diffTo m (stepT T m).2 k ≤ 1 := by
  have h0 : diffTo m m k ≤ 1 := by rw [diffTo_same]; omega
  unfold stepT
  rw [counts_id hm]
  split
  · exact h0
  · split
    · exact h0
    · split
      · exact h0
      · exact access_diff _ _ _
/-- Of a program: a word or a register, not both. -/
theorem step_one {T : FT} {m : List Int} (hs : Sane T.code) (hm : m.length ≤ 256) (k : Nat) : diffTo T.t.regs (stepT T m).1.t.regs 32 + diffTo m (stepT T m).2 k ≤ 1 := by
  by_cases hd : T.t.done = true
  · have e : stepT T m = (T, counts m) := by unfold stepT; rw [if_pos hd]
    rw [e, counts_id hm]; simp only [diffTo_same]; omega
  · by_cases hr : (rest T.code T.t).done = true
    · have e : stepT T m = (⟨T.code, rest T.code T.t⟩, counts m) := by unfold stepT; rw [if_neg hd, if_neg (show ¬ ¬ Sane T.code from fun h => h hs), if_pos hr]
      rw [e, counts_id hm]; simp only [rest_regs, diffTo_same]; omega
    · unfold stepT
      rw [if_neg hd, if_neg (show ¬ ¬ Sane T.code from fun h => h hs), if_neg hr, counts_id hm]
      simp only [rest_regs]
      generalize T.code.getD (rest T.code T.t).pc.toNat insn0 = x
      by_cases hk : x.k = 0
      · have hk' : kind x.k = 0 := by unfold kind; rw [if_pos hk]
        rw [hk', access_load, diffTo_same]
        have := diffTo_set T.t.regs x.r.toNat (access m ⟨0, x.i, x.a, 0⟩).2 32
        unfold moved
        rw [if_pos hk]
        simp only [rest_regs]
        split at this <;> omega
      · have := access_diff m ⟨kind x.k, x.i, x.a, 0⟩ k
        unfold moved
        rw [if_neg hk]
        simp only [rest_regs, diffTo_same]
        omega
theorem step_still {T : FT} {m : List Int} (h : T.t.done = true) : stepT T m = (T, counts m) := by
  unfold stepT; rw [if_pos h]
end Go.Proofs.Ytpkelneimjmmkaa

/- Plain laws of accesses: what is added does not hang on the order; unlike places do not touch. -/
import Derived.Test.YtpkelneimjmmkaaPure
namespace Go.Proofs.Ytpkelneimjmmkaa

theorem access_out {m : List Int} {x : Acc} (h : x.i < 0 ∨ x.i ≥ (m.length : Int)) : access m x = (m, 0) := by
  unfold access; rw [if_pos h]
theorem access_more {m : List Int} {i a b : Int} (h : ¬ (i < 0 ∨ i ≥ (m.length : Int))) :
    access m ⟨3, i, a, b⟩ = (m.set i.toNat ((m.getD i.toNat 0 + a) % 18446744073709551616), (m.getD i.toNat 0 + a) % 18446744073709551616) := by
  unfold access; rw [if_neg h]; simp
theorem getD_set_same {m : List Int} {j : Nat} (x : Int) (h : j < m.length) : (m.set j x).getD j 0 = x := by
  simp [List.getD_eq_getElem?_getD, h]
theorem getD_set_other {m : List Int} {j k : Nat} (x : Int) (h : j ≠ k) : (m.set j x).getD k 0 = m.getD k 0 := by
  simp [List.getD_eq_getElem?_getD, h]
theorem more_two (m : List Int) (i a b c d e : Int) : (accesses m [⟨3, i, a, c⟩, ⟨3, i, b, d⟩]).1 = (access m ⟨3, i, (a + b) % 18446744073709551616, e⟩).1 := by
  simp only [accesses]
  by_cases h : i < 0 ∨ i ≥ (m.length : Int)
  · rw [access_out (x := ⟨3, i, a, c⟩) h, access_out (x := ⟨3, i, b, d⟩) h, access_out (x := ⟨3, i, (a + b) % 18446744073709551616, e⟩) h]
  · rw [access_more h, access_more h, access_more (by simpa using h)]
    simp only [List.set_set]
    rw [getD_set_same _ (by omega)]
    congr 1
    omega
theorem more_comm (m : List Int) (i a b : Int) : (accesses m [⟨3, i, a, 0⟩, ⟨3, i, b, 0⟩]).1 = (accesses m [⟨3, i, b, 0⟩, ⟨3, i, a, 0⟩]).1 := by
  rw [more_two m i a b 0 0 0, more_two m i b a 0 0 0, Int.add_comm]

/-- An access by the word at its place alone: what is there behind it, and what is told. -/
def word (k a b r : Int) : Int × Int :=
  if k = 0 then (r, r) else if k = 1 then (a, 0) else if k = 2 then (if r = a then (b, 1) else (r, 0)) else if k = 3 then ((r + a) % 18446744073709551616, (r + a) % 18446744073709551616) else (r, 0)
theorem set_getD (m : List Int) (j : Nat) : m.set j (m.getD j 0) = m := by
  apply List.ext_getElem?
  intro k
  by_cases h : j = k
  · subst h
    by_cases hl : j < m.length
    · simp [List.getD_eq_getElem?_getD, hl]
    · simp [hl]
  · simp [h]
theorem access_word {m : List Int} {x : Acc} (h : ¬ (x.i < 0 ∨ x.i ≥ (m.length : Int))) :
    access m x = (m.set x.i.toNat (word x.k x.a x.b (m.getD x.i.toNat 0)).1, (word x.k x.a x.b (m.getD x.i.toNat 0)).2) := by
  unfold access word
  rw [if_neg h]
  repeat' split
  all_goals simp_all
theorem access_apart (m : List Int) (x y : Acc) (h : x.i ≠ y.i) :
    (access (access m x).1 y).1 = (access (access m y).1 x).1 ∧ (access m x).2 = (access (access m y).1 x).2 ∧ (access (access m x).1 y).2 = (access m y).2 := by
  by_cases hx : x.i < 0 ∨ x.i ≥ (m.length : Int)
  · have hx' : x.i < 0 ∨ x.i ≥ ((access m y).1.length : Int) := by rw [access_len]; exact hx
    rw [access_out hx, access_out hx']
    simp
  by_cases hy : y.i < 0 ∨ y.i ≥ (m.length : Int)
  · have hy' : y.i < 0 ∨ y.i ≥ ((access m x).1.length : Int) := by rw [access_len]; exact hy
    rw [access_out hy, access_out hy']
    simp
  have hx' : ¬ (x.i < 0 ∨ x.i ≥ ((access m y).1.length : Int)) := by rw [access_len]; exact hx
  have hy' : ¬ (y.i < 0 ∨ y.i ≥ ((access m x).1.length : Int)) := by rw [access_len]; exact hy
  have hne : x.i.toNat ≠ y.i.toNat := by omega
  rw [access_word hx', access_word hy', access_word hx, access_word hy]
  simp only [getD_set_other _ hne, getD_set_other _ (Ne.symm hne)]
  exact ⟨List.set_comm _ _ hne, trivial, trivial⟩
end Go.Proofs.Ytpkelneimjmmkaa

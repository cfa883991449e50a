/- The plain laws: what the program computes, over lists of integers, with no program and no memory in sight. -/
namespace Go.Proofs.Ytpkelneimjmmkaa

def W64 (x : Int) : Prop := 0 ≤ x ∧ x < 18446744073709551616
def I64 (x : Int) : Prop := -9223372036854775808 ≤ x ∧ x ≤ 9223372036854775807

/-- An access: its kind, its place, two words. -/
structure Acc where
  k : Int
  i : Int
  a : Int
  b : Int
def Acc.ok (x : Acc) : Prop := I64 x.k ∧ I64 x.i ∧ W64 x.a ∧ W64 x.b

/-- What an access does to the words, and what it tells. -/
def access (m : List Int) (x : Acc) : List Int × Int :=
  if x.i < 0 ∨ x.i ≥ (m.length : Int) then (m, 0)
  else if x.k = 0 then (m, m.getD x.i.toNat 0)
  else if x.k = 1 then (m.set x.i.toNat x.a, 0)
  else if x.k = 2 then (if m.getD x.i.toNat 0 = x.a then (m.set x.i.toNat x.b, 1) else (m, 0))
  else if x.k = 3 then (m.set x.i.toNat ((m.getD x.i.toNat 0 + x.a) % 18446744073709551616), (m.getD x.i.toNat 0 + x.a) % 18446744073709551616)
  else (m, 0)

theorem access_len (m : List Int) (x : Acc) : (access m x).1.length = m.length := by
  unfold access; repeat' split
  all_goals simp
theorem getD_mem {m : List Int} {i : Nat} (h : i < m.length) : m.getD i 0 ∈ m := by
  rw [List.getD_eq_getElem?_getD, List.getElem?_eq_getElem h]; exact List.getElem_mem h
theorem mem_set {m : List Int} {i : Nat} {y x : Int} (h : x ∈ m.set i y) : x ∈ m ∨ x = y := by
  rcases List.mem_or_eq_of_mem_set h with h | h
  · exact .inl h
  · exact .inr h
theorem access_ok {m : List Int} {x : Acc} (hm : ∀ y ∈ m, W64 y) (hx : x.ok) : (∀ y ∈ (access m x).1, W64 y) ∧ W64 (access m x).2 := by
  obtain ⟨_, _, ha, hb⟩ := hx
  have h0 : W64 0 := ⟨by omega, by omega⟩
  have h1 : W64 1 := ⟨by omega, by omega⟩
  have hs : ∀ z : Int, W64 z → ∀ y ∈ m.set x.i.toNat z, W64 y := fun z hz y hy => by
    rcases mem_set hy with h | h
    · exact hm y h
    · rw [h]; exact hz
  unfold access
  split
  · exact ⟨hm, h0⟩
  · have hi : x.i.toNat < m.length := by omega
    have hw := hm _ (getD_mem hi)
    have hmod : W64 ((m.getD x.i.toNat 0 + x.a) % 18446744073709551616) := ⟨by omega, by omega⟩
    split
    · exact ⟨hm, hw⟩
    split
    · exact ⟨hs _ ha, h0⟩
    split
    · split
      · exact ⟨hs _ hb, h1⟩
      · exact ⟨hm, h0⟩
    split
    · exact ⟨hs _ hmod, hmod⟩
    · exact ⟨hm, h0⟩

/-- Accesses one behind the other: the words behind all, and what each told. -/
def accesses (m : List Int) : List Acc → List Int × List Int
  | [] => (m, [])
  | x :: l => ((accesses (access m x).1 l).1, (access m x).2 :: (accesses (access m x).1 l).2)

theorem accesses_append (l l' : List Acc) : ∀ m, accesses m (l ++ l') = ((accesses (accesses m l).1 l').1, (accesses m l).2 ++ (accesses (accesses m l).1 l').2) := by
  induction l with
  | nil => intro m; simp [accesses]
  | cons x l ih => intro m; simp [accesses, ih]
theorem accesses_snoc (m : List Int) (l : List Acc) (x : Acc) :
    (accesses m (l ++ [x])).1 = (access (accesses m l).1 x).1 ∧ (accesses m (l ++ [x])).2 = (accesses m l).2 ++ [(access (accesses m l).1 x).2] := by
  rw [accesses_append]; simp [accesses]
theorem accesses_len (l : List Acc) : ∀ m, (accesses m l).1.length = m.length ∧ (accesses m l).2.length = l.length := by
  induction l with
  | nil => intro m; simp [accesses]
  | cons x l ih => intro m; simp [accesses, ih, access_len]
theorem take_snoc {α : Type} (l : List α) (k : Nat) (h : k < l.length) : l.take (k + 1) = l.take k ++ [l[k]] := by
  rw [List.take_succ_eq_append_getElem h]

/-- What the memory counts. -/
def counts (m : List Int) : List Int := m.take 256
/-- So many words 0. -/
def zeros (n : Nat) : List Int := List.replicate n 0
/-- How many words New makes. -/
def newLen (n : Int) : Nat := if n ≤ 0 then 0 else if n ≤ 256 then n.toNat else 256
theorem zeros_len (n : Nat) : (zeros n).length = n := by simp [zeros]
theorem zeros_ok (n : Nat) : ∀ x ∈ zeros n, W64 x := by
  intro x hx
  have : x = 0 := by simp [zeros] at hx; exact hx.2
  subst this
  exact ⟨by omega, by omega⟩
theorem zeros_succ (n : Nat) : zeros (n + 1) = zeros n ++ [0] := by simp [zeros, List.replicate_succ']
theorem counts_counts (m : List Int) : counts (counts m) = counts m := by simp [counts, List.take_take]
theorem counts_id {m : List Int} (h : m.length ≤ 256) : counts m = m := by simp [counts, List.take_of_length_le h]

end Go.Proofs.Ytpkelneimjmmkaa

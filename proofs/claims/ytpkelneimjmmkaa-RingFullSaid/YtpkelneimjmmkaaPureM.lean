/- The plain laws: what the program computes, over lists of integers, with no program and no memory in sight. -/
namespace Go.Proofs.Ytpkelneimjmmkaa

def W64 (x : Int) : Prop := 0 ≤ x ∧ x < 18446744073709551616
def I64 (x : Int) : Prop := -9223372036854775808 ≤ x ∧ x ≤ 9223372036854775807

/-- An access: its kind, its place, two words. -/
structure Acc where
  k : Int
  i : Int
  a : Int
  b : Int
def Acc.ok (x : Acc) : Prop := I64 x.k ∧ I64 x.i ∧ W64 x.a ∧ W64 x.b

/-- What an access does to the words, and what it tells. -/
def access (m : List Int) (x : Acc) : List Int × Int :=
  if x.i < 0 ∨ x.i ≥ (m.length : Int) then (m, 0)
  else if x.k = 0 then (m, m.getD x.i.toNat 0)
  else if x.k = 1 then (m.set x.i.toNat x.a, 0)
  else if x.k = 2 then (if m.getD x.i.toNat 0 = x.a then (m.set x.i.toNat x.b, 1) else (m, 0))
  else if x.k = 3 then (m.set x.i.toNat ((m.getD x.i.toNat 0 + x.a) % 18446744073709551616), (m.getD x.i.toNat 0 + x.a) % 18446744073709551616)
  else (m, 0)

theorem access_len (m : List Int) (x : Acc) : (access m x).1.length = m.length := by
  unfold access; repeat' split
  all_goals simp
theorem getD_mem {m : List Int} {i : Nat} (h : i < m.length) : m.getD i 0 ∈ m := by
  rw [List.getD_eq_getElem?_getD, List.getElem?_eq_getElem h]; exact List.getElem_mem h
theorem mem_set {m : List Int} {i : Nat} {y x : Int} (h : x ∈ m.set i y) : x ∈ m ∨ x = y := by
  rcases List.mem_or_eq_of_mem_set h with h | h
  · exact .inl h
  · exact .inr h
theorem access_ok {m : List Int} {x : Acc} (hm : ∀ y ∈ m, W64 y) (hx : x.ok) : (∀ y ∈ (access m x).1, W64 y) ∧ W64 (access m x).2 := by
  obtain ⟨_, _, ha, hb⟩ := hx
  have h0 : W64 0 := ⟨by omega, by omega⟩
  have h1 : W64 1 := ⟨by omega, by omega⟩
  have hs : ∀ z : Int, W64 z → ∀ y ∈ m.set x.i.toNat z, W64 y := fun z hz y hy => by
    rcases mem_set hy with h | h
    · exact hm y h
    · rw [h]; exact hz
  unfold access
  split
  · exact ⟨hm, h0⟩
  · have hi : x.i.toNat < m.length := by omega
    have hw := hm _ (getD_mem hi)
    have hmod : W64 ((m.getD x.i.toNat 0 + x.a) % 18446744073709551616) := ⟨by omega, by omega⟩
    split
    · exact ⟨hm, hw⟩
    split
    · exact ⟨hs _ ha, h0⟩
    split
    · split
      · exact ⟨hs _ hb, h1⟩
      · exact ⟨hm, h0⟩
    split
    · exact ⟨hs _ hmod, hmod⟩
    · exact ⟨hm, h0⟩

/-- Accesses one behind the other: the words behind all, and what each told. -/
def accesses (m : List Int) : List Acc → List Int × List Int
  | [] => (m, [])
  | x :: l => ((accesses (access m x).1 l).1, (access m x).2 :: (accesses (access m x).1 l).2)

theorem accesses_append (l l' : List Acc) : ∀ m, accesses m (l ++ l') = ((accesses (accesses m l).1 l').1, (accesses m l).2 ++ (accesses (accesses m l).1 l').2) := by
  induction l with
  | nil => intro m; simp [accesses]
  | cons x l ih => intro m; simp [accesses, ih]
theorem accesses_snoc (m : List Int) (l : List Acc) (x : Acc) :
    (accesses m (l ++ [x])).1 = (access (accesses m l).1 x).1 ∧ (accesses m (l ++ [x])).2 = (accesses m l).2 ++ [(access (accesses m l).1 x).2] := by
  rw [accesses_append]; simp [accesses]
theorem accesses_len (l : List Acc) : ∀ m, (accesses m l).1.length = m.length ∧ (accesses m l).2.length = l.length := by
  induction l with
  | nil => intro m; simp [accesses]
  | cons x l ih => intro m; simp [accesses, ih, access_len]
theorem take_snoc {α : Type} (l : List α) (k : Nat) (h : k < l.length) : l.take (k + 1) = l.take k ++ [l[k]] := by
  rw [List.take_succ_eq_append_getElem h]

/-- What the memory counts. -/
def counts (m : List Int) : List Int := m.take 256
/-- So many words 0. -/
def zeros (n : Nat) : List Int := List.replicate n 0
/-- How many words New makes. -/
def newLen (n : Int) : Nat := if n ≤ 0 then 0 else if n ≤ 256 then n.toNat else 256
theorem zeros_len (n : Nat) : (zeros n).length = n := by simp [zeros]
theorem zeros_ok (n : Nat) : ∀ x ∈ zeros n, W64 x := by
  intro x hx
  have : x = 0 := by simp [zeros] at hx; exact hx.2
  subst this
  exact ⟨by omega, by omega⟩
theorem zeros_succ (n : Nat) : zeros (n + 1) = zeros n ++ [0] := by simp [zeros, List.replicate_succ']
theorem counts_counts (m : List Int) : counts (counts m) = counts m := by simp [counts, List.take_take]
theorem counts_id {m : List Int} (h : m.length ≤ 256) : counts m = m := by simp [counts, List.take_of_length_le h]

end Go.Proofs.Ytpkelneimjmmkaa

/- Plain laws of accesses: what is added does not hang on the order; unlike places do not touch. -/
namespace Go.Proofs.Ytpkelneimjmmkaa

theorem access_out {m : List Int} {x : Acc} (h : x.i < 0 ∨ x.i ≥ (m.length : Int)) : access m x = (m, 0) := by
  unfold access; rw [if_pos h]
theorem access_more {m : List Int} {i a b : Int} (h : ¬ (i < 0 ∨ i ≥ (m.length : Int))) :
    access m ⟨3, i, a, b⟩ = (m.set i.toNat ((m.getD i.toNat 0 + a) % 18446744073709551616), (m.getD i.toNat 0 + a) % 18446744073709551616) := by
  unfold access; rw [if_neg h]; simp
theorem getD_set_same {m : List Int} {j : Nat} (x : Int) (h : j < m.length) : (m.set j x).getD j 0 = x := by
  simp [List.getD_eq_getElem?_getD, h]
theorem getD_set_other {m : List Int} {j k : Nat} (x : Int) (h : j ≠ k) : (m.set j x).getD k 0 = m.getD k 0 := by
  simp [List.getD_eq_getElem?_getD, h]
theorem more_two (m : List Int) (i a b c d e : Int) : (accesses m [⟨3, i, a, c⟩, ⟨3, i, b, d⟩]).1 = (access m ⟨3, i, (a + b) % 18446744073709551616, e⟩).1 := by
  simp only [accesses]
  by_cases h : i < 0 ∨ i ≥ (m.length : Int)
  · rw [access_out (x := ⟨3, i, a, c⟩) h, access_out (x := ⟨3, i, b, d⟩) h, access_out (x := ⟨3, i, (a + b) % 18446744073709551616, e⟩) h]
  · rw [access_more h, access_more h, access_more (by simpa using h)]
    simp only [List.set_set]
    rw [getD_set_same _ (by omega)]
    congr 1
    omega
theorem more_comm (m : List Int) (i a b : Int) : (accesses m [⟨3, i, a, 0⟩, ⟨3, i, b, 0⟩]).1 = (accesses m [⟨3, i, b, 0⟩, ⟨3, i, a, 0⟩]).1 := by
  rw [more_two m i a b 0 0 0, more_two m i b a 0 0 0, Int.add_comm]

/-- An access by the word at its place alone: what is there behind it, and what is told. -/
def word (k a b r : Int) : Int × Int :=
  if k = 0 then (r, r) else if k = 1 then (a, 0) else if k = 2 then (if r = a then (b, 1) else (r, 0)) else if k = 3 then ((r + a) % 18446744073709551616, (r + a) % 18446744073709551616) else (r, 0)
theorem set_getD (m : List Int) (j : Nat) : m.set j (m.getD j 0) = m := by
  apply List.ext_getElem?
  intro k
  by_cases h : j = k
  · subst h
    by_cases hl : j < m.length
    · simp [List.getD_eq_getElem?_getD, hl]
    · simp [hl]
  · simp [h]
theorem access_word {m : List Int} {x : Acc} (h : ¬ (x.i < 0 ∨ x.i ≥ (m.length : Int))) :
    access m x = (m.set x.i.toNat (word x.k x.a x.b (m.getD x.i.toNat 0)).1, (word x.k x.a x.b (m.getD x.i.toNat 0)).2) := by
  unfold access word
  rw [if_neg h]
  repeat' split
  all_goals simp_all
theorem access_apart (m : List Int) (x y : Acc) (h : x.i ≠ y.i) :
    (access (access m x).1 y).1 = (access (access m y).1 x).1 ∧ (access m x).2 = (access (access m y).1 x).2 ∧ (access (access m x).1 y).2 = (access m y).2 := by
  by_cases hx : x.i < 0 ∨ x.i ≥ (m.length : Int)
  · have hx' : x.i < 0 ∨ x.i ≥ ((access m y).1.length : Int) := by rw [access_len]; exact hx
    rw [access_out hx, access_out hx']
    simp
  by_cases hy : y.i < 0 ∨ y.i ≥ (m.length : Int)
  · have hy' : y.i < 0 ∨ y.i ≥ ((access m x).1.length : Int) := by rw [access_len]; exact hy
    rw [access_out hy, access_out hy']
    simp
  have hx' : ¬ (x.i < 0 ∨ x.i ≥ ((access m y).1.length : Int)) := by rw [access_len]; exact hx
  have hy' : ¬ (y.i < 0 ∨ y.i ≥ ((access m x).1.length : Int)) := by rw [access_len]; exact hy
  have hne : x.i.toNat ≠ y.i.toNat := by omega
  rw [access_word hx', access_word hy', access_word hx, access_word hy]
  simp only [getD_set_other _ hne, getD_set_other _ (Ne.symm hne)]
  exact ⟨List.set_comm _ _ hne, trivial, trivial⟩
end Go.Proofs.Ytpkelneimjmmkaa

/- Plain laws of tasks: instructions, what comes to rest, a step. -/
namespace Go.Proofs.Ytpkelneimjmmkaa

/-- An instruction. -/
structure Insn where
  k : Int
  i : Int
  r : Int
  to : Int
  a : Int
def Insn.ok (x : Insn) : Prop := I64 x.k ∧ I64 x.i ∧ I64 x.r ∧ I64 x.to ∧ W64 x.a

/-- A task's fields but its code: where it is, its registers, whether it is done, what it answers. -/
structure Tsk where
  pc : Int
  regs : List Int
  done : Bool
  ans : Int
def Tsk.ok (t : Tsk) : Prop := t.regs.length = 32 ∧ (∀ x ∈ t.regs, W64 x) ∧ I64 t.pc ∧ I64 t.ans

/-- Is an instruction at its place one of a program of n instructions? -/
def saneAt (n i : Nat) (x : Insn) : Prop := 0 ≤ x.k ∧ x.k ≤ 6 ∧ 0 ≤ x.r ∧ x.r ≤ 31 ∧ (i : Int) < x.to ∧ x.to ≤ (n : Int)
instance (n i : Nat) (x : Insn) : Decidable (saneAt n i x) := by unfold saneAt; exact inferInstance
def insn0 : Insn := ⟨0, 0, 0, 0, 0⟩
/-- Are these instructions a program? -/
def Sane (l : List Insn) : Prop := (∀ i, i < l.length → saneAt l.length i (l.getD i insn0)) ∧ 1 ≤ l.length ∧ l.length ≤ 200
instance (l : List Insn) : Decidable (Sane l) := by unfold Sane; exact inferInstance

/-- An int's lowest five bits. -/
def low5 (i : Int) : Nat := (i % 32).toNat
theorem low5_lt (i : Int) : low5 i < 32 := by unfold low5; omega
/-- A word as an int. -/
def s64 (a : Int) : Int := (a + 9223372036854775808) % 18446744073709551616 - 9223372036854775808
theorem s64_ok (a : Int) : I64 (s64 a) := by unfold s64 I64; omega

def jumpB (regs : List Int) (x : Insn) : Bool :=
  if x.k = 3 then decide (regs.getD x.r.toNat 0 = x.a)
  else if x.k = 4 then decide (regs.getD x.r.toNat 0 % 2 = 1)
  else decide (regs.getD x.r.toNat 0 = regs.getD (low5 x.i) 0)

/-- One thing that a task does by itself. -/
def byItself (t : Tsk) (x : Insn) : Tsk :=
  if x.k = 6 then { t with done := true, ans := s64 x.a }
  else if jumpB t.regs x then { t with pc := x.to } else { t with pc := t.pc + 1 }

/-- A task goes on by what it does by itself, at most so many times. -/
def restN (code : List Insn) : Nat → Tsk → Tsk
  | 0, t => t
  | n + 1, t =>
    if t.done then t
    else if t.pc < 0 ∨ t.pc ≥ (code.length : Int) then { t with done := true, ans := -1 }
    else if (code.getD t.pc.toNat insn0).k ≤ 2 then t
    else restN code n (byItself t (code.getD t.pc.toNat insn0))
def left (code : List Insn) (t : Tsk) : Nat := if t.done then 0 else ((code.length : Int) - t.pc).toNat
/-- A task come to rest. -/
def rest (code : List Insn) (t : Tsk) : Tsk := restN code (left code t + 2) t

theorem byItself_left {code : List Insn} {t : Tsk} (hs : Sane code) (h0 : 0 ≤ t.pc) (h1 : t.pc < (code.length : Int)) (hd : t.done = false) :
    left code (byItself t (code.getD t.pc.toNat insn0)) < left code t := by
  have hx := hs.1 t.pc.toNat (by omega)
  unfold saneAt at hx
  generalize code.getD t.pc.toNat insn0 = x at *
  unfold byItself left
  rw [hd]
  split
  · simp only [if_true, Bool.false_eq_true, if_false]; omega
  · split
    · simp only [Bool.false_eq_true, if_false]; omega
    · simp only [Bool.false_eq_true, if_false]; omega
theorem restN_enough {code : List Insn} (hs : Sane code) (n : Nat) : ∀ (t : Tsk) (m : Nat), left code t + 2 ≤ n → left code t + 2 ≤ m → restN code n t = restN code m t := by
  induction n with
  | zero => intro t m h; omega
  | succ n ih =>
    intro t m hn hm
    obtain ⟨m, rfl⟩ : ∃ k, m = k + 1 := ⟨m - 1, by omega⟩
    simp only [restN]
    split
    · rfl
    · rename_i hd
      simp only [Bool.not_eq_true] at hd
      split
      · rfl
      · rename_i hp
        split
        · rfl
        · have := byItself_left hs (by omega) (by omega) hd
          by_cases h0 : left code t + 2 ≤ n + 1 ∧ left code t + 2 ≤ m + 1
          · exact ih _ _ (by omega) (by omega)
          · omega
theorem rest_done {code : List Insn} {t : Tsk} (h : t.done = true) : rest code t = t := by
  unfold rest; simp only [restN]; rw [if_pos h]
theorem rest_out {code : List Insn} {t : Tsk} (h : t.done = false) (hp : t.pc < 0 ∨ t.pc ≥ (code.length : Int)) : rest code t = { t with done := true, ans := -1 } := by
  unfold rest; simp only [restN]; rw [if_neg (by simp [h]), if_pos hp]
theorem rest_at {code : List Insn} {t : Tsk} (h : t.done = false) (h0 : 0 ≤ t.pc) (h1 : t.pc < (code.length : Int)) (hk : (code.getD t.pc.toNat insn0).k ≤ 2) : rest code t = t := by
  unfold rest; simp only [restN]; rw [if_neg (by simp [h]), if_neg (by omega), if_pos hk]
theorem rest_on {code : List Insn} {t : Tsk} (hs : Sane code) (h : t.done = false) (h0 : 0 ≤ t.pc) (h1 : t.pc < (code.length : Int)) (hk : ¬ (code.getD t.pc.toNat insn0).k ≤ 2) :
    rest code t = rest code (byItself t (code.getD t.pc.toNat insn0)) := by
  have hl := byItself_left hs h0 h1 h
  conv => lhs; unfold rest; simp only [restN]
  rw [if_neg (by simp [h]), if_neg (by omega), if_neg hk]
  exact restN_enough hs (left code t + 1) (byItself t (code.getD t.pc.toNat insn0)) (left code (byItself t (code.getD t.pc.toNat insn0)) + 2) (by omega) (by omega)
theorem byItself_ok {t : Tsk} {x : Insn} (ht : t.ok) (hx : x.ok) (hp : t.pc < 9223372036854775807) : (byItself t x).ok := by
  obtain ⟨h1, h2, h3, h4⟩ := ht
  unfold byItself
  split
  · exact ⟨h1, h2, h3, s64_ok _⟩
  · split
    · exact ⟨h1, h2, hx.2.2.2.1, h4⟩
    · exact ⟨h1, h2, by unfold I64 at *; constructor <;> (simp only; omega), h4⟩
theorem restN_ok {code : List Insn} (hc : ∀ x ∈ code, x.ok) (hl : (code.length : Int) ≤ 9223372036854775807) (n : Nat) : ∀ t : Tsk, t.ok → (restN code n t).ok := by
  induction n with
  | zero => intro t h; exact h
  | succ n ih =>
    intro t h
    simp only [restN]
    split
    · exact h
    · split
      · exact ⟨h.1, h.2.1, h.2.2.1, by unfold I64; constructor <;> (simp only; omega)⟩
      · split
        · exact h
        · rename_i hp hk
          refine ih _ (byItself_ok h (hc _ ?_) (by omega))
          rw [List.getD_eq_getElem?_getD, List.getElem?_eq_getElem (by omega)]
          exact List.getElem_mem _
theorem rest_ok {code : List Insn} (hc : ∀ x ∈ code, x.ok) (hl : (code.length : Int) ≤ 9223372036854775807) {t : Tsk} (h : t.ok) : (rest code t).ok := restN_ok hc hl _ t h
end Go.Proofs.Ytpkelneimjmmkaa

/- Plain laws of tasks: starting, a step, steps. -/
namespace Go.Proofs.Ytpkelneimjmmkaa

/-- A task with its code. -/
structure FT where
  code : List Insn
  t : Tsk
def FT.ok (T : FT) : Prop := T.t.ok ∧ ∀ x ∈ T.code, x.ok

def tsk0 : Tsk := ⟨0, zeros 32, false, 0⟩
theorem tsk0_ok : tsk0.ok := ⟨by simp [tsk0, zeros], zeros_ok 32, by simp [tsk0, I64], by simp [tsk0, I64]⟩
def startT (l : List Insn) : FT := if Sane l then ⟨l, rest l tsk0⟩ else ⟨[], { tsk0 with done := true, ans := -1 }⟩

/-- What an instruction's access is called. -/
def kind (k : Int) : Int := if k = 0 then 0 else if k = 1 then 1 else 3
/-- A task at rest that has done the access of its instruction, which told d. -/
def moved (r : Tsk) (x : Insn) (d : Int) : Tsk := if x.k = 0 then { r with regs := r.regs.set x.r.toNat d, pc := r.pc + 1 } else { r with pc := r.pc + 1 }
def stepT (T : FT) (m : List Int) : FT × List Int :=
  if T.t.done then (T, counts m)
  else if ¬ Sane T.code then (startT T.code, counts m)
  else if (rest T.code T.t).done then (⟨T.code, rest T.code T.t⟩, counts m)
  else
    (⟨T.code, rest T.code (moved (rest T.code T.t) (T.code.getD (rest T.code T.t).pc.toNat insn0)
      (access (counts m) ⟨kind (T.code.getD (rest T.code T.t).pc.toNat insn0).k, (T.code.getD (rest T.code T.t).pc.toNat insn0).i, (T.code.getD (rest T.code T.t).pc.toNat insn0).a, 0⟩).2)⟩,
     (access (counts m) ⟨kind (T.code.getD (rest T.code T.t).pc.toNat insn0).k, (T.code.getD (rest T.code T.t).pc.toNat insn0).i, (T.code.getD (rest T.code T.t).pc.toNat insn0).a, 0⟩).1)

/-- One that has come to rest and is not done stands before an access. -/
theorem restN_rests {code : List Insn} (hs : Sane code) (n : Nat) : ∀ t : Tsk, left code t + 2 ≤ n → (restN code n t).done = false →
    0 ≤ (restN code n t).pc ∧ (restN code n t).pc < (code.length : Int) ∧ (code.getD (restN code n t).pc.toNat insn0).k ≤ 2 := by
  induction n with
  | zero => intro t h; omega
  | succ n ih =>
    intro t h
    simp only [restN]
    split
    · rename_i hd; intro h1; rw [hd] at h1; cases h1
    · rename_i hd
      simp only [Bool.not_eq_true] at hd
      split
      · intro h1; simp at h1
      · rename_i hp
        split
        · rename_i hk; intro _; exact ⟨by omega, by omega, hk⟩
        · rename_i hk
          have := byItself_left hs (by omega) (by omega) hd
          exact ih _ (by omega)
theorem rest_rests {code : List Insn} {t : Tsk} (hs : Sane code) (h : (rest code t).done = false) :
    0 ≤ (rest code t).pc ∧ (rest code t).pc < (code.length : Int) ∧ (code.getD (rest code t).pc.toNat insn0).k ≤ 2 := restN_rests hs _ t (Nat.le_refl _) h
theorem moved_ok {r : Tsk} {x : Insn} {d : Int} (hr : r.ok) (hd : W64 d) (hp : 0 ≤ r.pc) (hp1 : r.pc < 9223372036854775807) : (moved r x d).ok := by
  obtain ⟨h1, h2, h3, h4⟩ := hr
  have hpc : I64 (r.pc + 1) := ⟨by omega, by omega⟩
  unfold moved
  split
  · refine ⟨by simp [h1], fun y hy => ?_, hpc, h4⟩
    rcases mem_set hy with h | h
    · exact h2 y h
    · rw [h]; exact hd
  · exact ⟨h1, h2, hpc, h4⟩
theorem startT_ok {l : List Insn} (h : ∀ x ∈ l, x.ok) : (startT l).ok := by
  unfold startT
  split
  · rename_i hs
    exact ⟨rest_ok h (by have := hs.2.2; omega) tsk0_ok, h⟩
  · obtain ⟨h1, h2, h3, h4⟩ := tsk0_ok
    exact ⟨⟨h1, h2, h3, by simp [I64]⟩, fun x hx => by simp at hx⟩
theorem counts_mem {m : List Int} (h : ∀ x ∈ m, W64 x) : ∀ x ∈ counts m, W64 x := fun x hx => h x (List.mem_of_mem_take hx)
theorem insn_in {l : List Insn} (h : ∀ x ∈ l, x.ok) (k : Nat) (hk : k < l.length) : (l.getD k insn0).ok := by
  rw [List.getD_eq_getElem?_getD, List.getElem?_eq_getElem hk]
  exact h _ (List.getElem_mem hk)
theorem kind_ok {x : Insn} (h : x.ok) : (Acc.mk (kind x.k) x.i x.a 0).ok := by
  refine ⟨?_, h.2.1, h.2.2.2.2, by simp [W64]⟩
  unfold kind; split
  · simp [I64]
  · split <;> simp [I64]
theorem stepT_ok {T : FT} {m : List Int} (hT : T.ok) (hm : ∀ x ∈ m, W64 x) : (stepT T m).1.ok ∧ (∀ x ∈ (stepT T m).2, W64 x) := by
  have hc := counts_mem hm
  unfold stepT
  split
  · exact ⟨hT, hc⟩
  · split
    · exact ⟨startT_ok hT.2, hc⟩
    · rename_i hs
      simp only [Decidable.not_not] at hs
      have hr := rest_ok hT.2 (by have := hs.2.2; omega) hT.1
      split
      · exact ⟨⟨hr, hT.2⟩, hc⟩
      · rename_i hd
        simp only [Bool.not_eq_true] at hd
        obtain ⟨p0, p1, p2⟩ := rest_rests hs hd
        have hx := insn_in hT.2 (rest T.code T.t).pc.toNat (by omega)
        have ha := access_ok hc (kind_ok hx)
        have hl := hs.2.2
        exact ⟨⟨rest_ok hT.2 (by omega) (moved_ok hr ha.2 p0 (by omega)), hT.2⟩, ha.1⟩

/-- Steps, at most so many, until it is done: the task, the words, how many there were. -/
def stepsN : Nat → FT → List Int → FT × List Int × Nat
  | 0, T, m => (T, m, 0)
  | n + 1, T, m => if T.t.done then (T, m, 0) else ((stepsN n (stepT T m).1 (stepT T m).2).1, (stepsN n (stepT T m).1 (stepT T m).2).2.1, (stepsN n (stepT T m).1 (stepT T m).2).2.2 + 1)
/-- How many steps 'most' lets. -/
def atMost (most : Int) : Nat := (min most 1000).toNat
def stepsT (T : FT) (m : List Int) (most : Int) : FT × List Int × Nat := stepsN (atMost most) T (counts m)
theorem stepsN_done {T : FT} (h : T.t.done = true) (n : Nat) (m : List Int) : stepsN n T m = (T, m, 0) := by
  cases n with
  | zero => rfl
  | succ n => simp only [stepsN]; rw [if_pos h]
theorem stepsN_le (n : Nat) : ∀ (T : FT) (m : List Int), (stepsN n T m).2.2 ≤ n := by
  induction n with
  | zero => intro T m; exact Nat.le_refl _
  | succ n ih =>
    intro T m
    simp only [stepsN]
    split
    · exact Nat.zero_le _
    · have := ih (stepT T m).1 (stepT T m).2; simp only; omega
end Go.Proofs.Ytpkelneimjmmkaa

/- Plain laws of a step: one word at most, one register at most. -/
namespace Go.Proofs.Ytpkelneimjmmkaa

/-- At how many of the first k places two lists differ. -/
def diffTo (a b : List Int) : Nat → Nat
  | 0 => 0
  | k + 1 => diffTo a b k + if a.getD k 0 = b.getD k 0 then 0 else 1
theorem diffTo_same (a : List Int) (k : Nat) : diffTo a a k = 0 := by
  induction k with
  | zero => rfl
  | succ k ih => simp [diffTo, ih]
theorem diffTo_le (a b : List Int) (k : Nat) : diffTo a b k ≤ k := by
  induction k with
  | zero => exact Nat.le_refl _
  | succ k ih => simp only [diffTo]; split <;> omega
theorem diffTo_set (a : List Int) (i : Nat) (x : Int) (k : Nat) : diffTo a (a.set i x) k ≤ (if i < k then 1 else 0) := by
  induction k with
  | zero => simp [diffTo]
  | succ k ih =>
    simp only [diffTo]
    by_cases h : i = k
    · subst h
      rw [if_neg (Nat.lt_irrefl _)] at ih
      rw [if_pos (Nat.lt_succ_self _)]
      split <;> omega
    · have e : (a.set i x).getD k 0 = a.getD k 0 := getD_set_other x h
      rw [e, if_pos rfl]
      split at ih <;> split <;> omega
theorem access_diff (m : List Int) (x : Acc) (k : Nat) : diffTo m (access m x).1 k ≤ 1 := by
  have h1 : ∀ y, diffTo m (m.set x.i.toNat y) k ≤ 1 := fun y => by
    have := diffTo_set m x.i.toNat y k
    split at this <;> omega
  have h0 : diffTo m m k ≤ 1 := by rw [diffTo_same]; omega
  unfold access
  repeat' split
  all_goals first | exact h0 | exact h1 _
theorem access_load {m : List Int} {i a b : Int} : (access m ⟨0, i, a, b⟩).1 = m := by
  unfold access; repeat' split
  all_goals first | rfl | simp_all
theorem restN_regs (code : List Insn) (n : Nat) : ∀ t : Tsk, (restN code n t).regs = t.regs := by
  induction n with
  | zero => intro t; rfl
  | succ n ih =>
    intro t
    simp only [restN]
    split
    · rfl
    · split
      · rfl
      · split
        · rfl
        · rw [ih]
          unfold byItself
          split
          · rfl
          · split <;> rfl
theorem rest_regs (code : List Insn) (t : Tsk) : (rest code t).regs = t.regs := restN_regs code _ t
theorem step_len (T : FT) (m : List Int) : (stepT T m).2.length = (counts m).length := by
  unfold stepT
  split
  · rfl
  · split
    · rfl
    · split
      · rfl
      · exact access_len _ _
theorem step_words (T : FT) {m : List Int} (hm : m.length ≤ 256) (k : Nat) : diffTo m (stepT T m).2 k ≤ 1 := by
  have h0 : diffTo m m k ≤ 1 := by rw [diffTo_same]; omega
  unfold stepT
  rw [counts_id hm]
  split
  · exact h0
  · split
    · exact h0
    · split
      · exact h0
      · exact access_diff _ _ _
/-- Of a program: a word or a register, not both. -/
theorem step_one {T : FT} {m : List Int} (hs : Sane T.code) (hm : m.length ≤ 256) (k : Nat) : diffTo T.t.regs (stepT T m).1.t.regs 32 + diffTo m (stepT T m).2 k ≤ 1 := by
  by_cases hd : T.t.done = true
  · have e : stepT T m = (T, counts m) := by unfold stepT; rw [if_pos hd]
    rw [e, counts_id hm]; simp only [diffTo_same]; omega
  · by_cases hr : (rest T.code T.t).done = true
    · have e : stepT T m = (⟨T.code, rest T.code T.t⟩, counts m) := by unfold stepT; rw [if_neg hd, if_neg (show ¬ ¬ Sane T.code from fun h => h hs), if_pos hr]
      rw [e, counts_id hm]; simp only [rest_regs, diffTo_same]; omega
    · unfold stepT
      rw [if_neg hd, if_neg (show ¬ ¬ Sane T.code from fun h => h hs), if_neg hr, counts_id hm]
      simp only [rest_regs]
      generalize T.code.getD (rest T.code T.t).pc.toNat insn0 = x
      by_cases hk : x.k = 0
      · have hk' : kind x.k = 0 := by unfold kind; rw [if_pos hk]
        rw [hk', access_load, diffTo_same]
        have := diffTo_set T.t.regs x.r.toNat (access m ⟨0, x.i, x.a, 0⟩).2 32
        unfold moved
        rw [if_pos hk]
        simp only [rest_regs]
        split at this <;> omega
      · have := access_diff m ⟨kind x.k, x.i, x.a, 0⟩ k
        unfold moved
        rw [if_neg hk]
        simp only [rest_regs, diffTo_same]
        omega
theorem step_still {T : FT} {m : List Int} (h : T.t.done = true) : stepT T m = (T, counts m) := by
  unfold stepT; rw [if_pos h]
end Go.Proofs.Ytpkelneimjmmkaa

/- Plain laws of steps: so many and so many more; each is done in time; what is laid is loaded. -/
namespace Go.Proofs.Ytpkelneimjmmkaa

theorem stepsN_succ {T : FT} (hd : T.t.done = false) (n : Nat) (m : List Int) :
    stepsN (n + 1) T m = ((stepsN n (stepT T m).1 (stepT T m).2).1, (stepsN n (stepT T m).1 (stepT T m).2).2.1, (stepsN n (stepT T m).1 (stepT T m).2).2.2 + 1) := by
  simp only [stepsN]; rw [if_neg (by simp [hd])]
theorem stepsN_add (a : Nat) : ∀ (b : Nat) (T : FT) (m : List Int),
    stepsN (a + b) T m = ((stepsN b (stepsN a T m).1 (stepsN a T m).2.1).1, (stepsN b (stepsN a T m).1 (stepsN a T m).2.1).2.1, (stepsN a T m).2.2 + (stepsN b (stepsN a T m).1 (stepsN a T m).2.1).2.2) := by
  induction a with
  | zero => intro b T m; simp [stepsN]
  | succ a ih =>
    intro b T m
    by_cases hd : T.t.done = true
    · rw [stepsN_done hd (a + 1 + b), stepsN_done hd (a + 1), stepsN_done hd b]; simp
    · have hd' : T.t.done = false := by simpa using hd
      rw [show a + 1 + b = (a + b) + 1 by omega, stepsN_succ hd', stepsN_succ hd', ih]
      refine Prod.ext rfl (Prod.ext rfl ?_)
      simp only
      omega
theorem stepsN_len (n : Nat) : ∀ (T : FT) (m : List Int), m.length ≤ 256 → (stepsN n T m).2.1.length = m.length := by
  induction n with
  | zero => intro T m _; rfl
  | succ n ih =>
    intro T m hm
    simp only [stepsN]
    split
    · rfl
    · have h1 : (stepT T m).2.length = m.length := by rw [step_len, counts_id hm]
      simp only
      rw [ih _ _ (by omega), h1]
theorem stepsN_stop (n : Nat) : ∀ (T : FT) (m : List Int), (stepsN n T m).2.2 = n ∨ (stepsN n T m).1.t.done = true := by
  induction n with
  | zero => intro T m; exact .inl rfl
  | succ n ih =>
    intro T m
    by_cases hd : T.t.done = true
    · rw [stepsN_done hd]; exact .inr hd
    · rw [stepsN_succ (by simpa using hd)]
      rcases ih (stepT T m).1 (stepT T m).2 with h | h
      · left; simp only; omega
      · right; exact h
theorem counts_le (m : List Int) : (counts m).length ≤ 256 := by simp [counts]; omega
theorem steps_parts (T : FT) (m : List Int) {a b : Int} (ha : 0 ≤ a) (ha' : a ≤ 300) (hb : 0 ≤ b) (hb' : b ≤ 300) :
    stepsT T m (a + b) = ((stepsT (stepsT T m a).1 (stepsT T m a).2.1 b).1, (stepsT (stepsT T m a).1 (stepsT T m a).2.1 b).2.1, (stepsT T m a).2.2 + (stepsT (stepsT T m a).1 (stepsT T m a).2.1 b).2.2) := by
  have e : atMost (a + b) = atMost a + atMost b := by unfold atMost; omega
  have h := counts_le m
  have h2 : (stepsN (atMost a) T (counts m)).2.1.length ≤ 256 := by rw [stepsN_len _ _ _ h]; exact h
  unfold stepsT
  rw [e, stepsN_add, counts_id h2]
theorem steps_most (T : FT) (m : List Int) {a : Int} (ha : 0 ≤ a) (ha' : a ≤ 300) : ((stepsT T m a).2.2 : Int) ≤ a ∧ (((stepsT T m a).2.2 : Int) = a ∨ (stepsT T m a).1.t.done = true) := by
  have e : (atMost a : Int) = a := by unfold atMost; omega
  unfold stepsT
  have h1 := stepsN_le (atMost a) T (counts m)
  have h2 := stepsN_stop (atMost a) T (counts m)
  refine ⟨by omega, ?_⟩
  rcases h2 with h2 | h2
  · left; omega
  · exact .inr h2

/-! ### done in time -/
theorem restN_mono {code : List Insn} (hs : Sane code) (n : Nat) : ∀ t : Tsk, (restN code n t).done = false → t.done = false ∧ t.pc ≤ (restN code n t).pc := by
  induction n with
  | zero => intro t h; exact ⟨h, Int.le_refl _⟩
  | succ n ih =>
    intro t
    simp only [restN]
    split
    · rename_i hd; intro h1; rw [hd] at h1; cases h1
    · rename_i hd
      simp only [Bool.not_eq_true] at hd
      split
      · intro h1; simp at h1
      · rename_i hp
        split
        · intro _; exact ⟨hd, Int.le_refl _⟩
        · intro h1
          refine ⟨hd, ?_⟩
          have h2 := (ih _ h1).2
          have hx := hs.1 t.pc.toNat (by omega)
          unfold saneAt at hx
          generalize code.getD t.pc.toNat insn0 = x at *
          have h3 : t.pc ≤ (byItself t x).pc := by
            unfold byItself
            split
            · exact Int.le_refl _
            · split
              · simp only; omega
              · simp only; omega
          omega
theorem rest_mono {code : List Insn} {t : Tsk} (hs : Sane code) (h : (rest code t).done = false) : t.pc ≤ (rest code t).pc := (restN_mono hs _ t h).2
theorem rest_end {code : List Insn} {t : Tsk} (hs : Sane code) (hd : t.done = false) (h0 : 0 ≤ t.pc) (h1 : t.pc < (code.length : Int)) {x : Insn} (hx : code.getD t.pc.toNat insn0 = x) (hk : x.k = 6) :
    rest code t = { t with done := true, ans := s64 x.a } := by
  rw [rest_on hs hd h0 h1 (by rw [hx]; omega), hx]
  unfold byItself
  rw [if_pos hk]
  exact rest_done rfl
theorem stepT_at {code : List Insn} {t : Tsk} {m : List Int} {x : Insn} (hs : Sane code) (hd : t.done = false) (h0 : 0 ≤ t.pc) (h1 : t.pc < (code.length : Int)) (hx : code.getD t.pc.toNat insn0 = x) (hk : x.k ≤ 2) :
    stepT ⟨code, t⟩ m = (⟨code, rest code (moved t x (access (counts m) ⟨kind x.k, x.i, x.a, 0⟩).2)⟩, (access (counts m) ⟨kind x.k, x.i, x.a, 0⟩).1) := by
  unfold stepT
  have e : rest code t = t := rest_at hd h0 h1 (by rw [hx]; exact hk)
  simp only
  rw [if_neg (by simp [hd]), if_neg (by simpa using hs), e, if_neg (by simp [hd]), hx]

/-- A task of a program behind so many steps, whatever the memories. -/
def EndsInv (c : List Insn) (i : Nat) (T : FT) : Prop :=
  (Sane c ∧ T.code = c ∧ (T.t.done = true ∨ (T.t.done = false ∧ (i : Int) ≤ T.t.pc ∧ 0 ≤ T.t.pc ∧ T.t.pc < (c.length : Int) ∧ (c.getD T.t.pc.toNat insn0).k ≤ 2))) ∨
  (¬ Sane c ∧ T.t.done = true ∧ T.t.ans = -1)
theorem ends_rest {c : List Insn} (hs : Sane c) (t : Tsk) (i : Nat) (h : (i : Int) ≤ t.pc) : EndsInv c i ⟨c, rest c t⟩ := by
  refine .inl ⟨hs, rfl, ?_⟩
  by_cases hd : (rest c t).done = true
  · exact .inl hd
  · have hd' : (rest c t).done = false := by simpa using hd
    obtain ⟨p0, p1, p2⟩ := rest_rests hs hd'
    have := rest_mono hs hd'
    exact .inr ⟨hd', by simp only; omega, p0, p1, p2⟩
theorem ends_start (c : List Insn) : EndsInv c 0 (startT c) := by
  unfold startT
  split
  · rename_i hs; exact ends_rest hs _ _ (by simp [tsk0])
  · rename_i hs; exact .inr ⟨hs, rfl, rfl⟩
theorem ends_step {c : List Insn} {i : Nat} {T : FT} (h : EndsInv c i T) (m : List Int) :
    EndsInv c (i + 1) (stepT T m).1 ∧ (T.t.done = false → (stepT T m).1.t.done = false → T.t.pc < (stepT T m).1.t.pc) := by
  rcases h with ⟨hs, hc, hd | ⟨hd, h1, h2, h3, h4⟩⟩ | ⟨hs, hd, ha⟩
  · rw [step_still hd]
    exact ⟨.inl ⟨hs, hc, .inl hd⟩, fun h => by rw [hd] at h; cases h⟩
  · obtain ⟨code, t⟩ := T
    simp only at hc hd h1 h2 h3 h4
    subst hc
    rw [stepT_at hs hd h2 h3 rfl h4]
    have hp : (moved t (code.getD t.pc.toNat insn0) (access (counts m) ⟨kind (code.getD t.pc.toNat insn0).k, (code.getD t.pc.toNat insn0).i, (code.getD t.pc.toNat insn0).a, 0⟩).2).pc = t.pc + 1 := by
      unfold moved; split <;> rfl
    refine ⟨ends_rest hs _ _ (by rw [hp]; omega), fun _ hn => ?_⟩
    have := rest_mono hs hn
    rw [hp] at this
    simp only
    omega
  · rw [step_still hd]
    exact ⟨.inr ⟨hs, hd, ha⟩, fun h => by rw [hd] at h; cases h⟩
theorem ends_all {c : List Insn} {T : FT} (h : EndsInv c c.length T) : T.t.done = true ∧ (¬ Sane c → T.t.ans = -1) := by
  rcases h with ⟨hs, hc, hd | ⟨hd, h1, h2, h3, h4⟩⟩ | ⟨hs, hd, ha⟩
  · exact ⟨hd, fun h => absurd hs h⟩
  · omega
  · exact ⟨hd, fun _ => ha⟩

/-! ### what is laid is loaded -/
def putsC (ws : List Int) (k : Nat) : List Insn := (List.range k).map fun (i : Nat) => ⟨1, (i : Int), 0, (i : Int) + 1, ws.getD i 0⟩
def loadsC (n k : Nat) : List Insn := (List.range k).map fun (i : Nat) => ⟨0, (i : Int), (i : Int), (n : Int) + (i : Int) + 1, 0⟩
def laidC (ws : List Int) (k : Nat) : List Insn := putsC ws k ++ loadsC k k ++ [⟨6, 0, 0, 2 * (k : Int) + 1, 7⟩]
theorem putsC_len (ws : List Int) (k : Nat) : (putsC ws k).length = k := by simp [putsC]
theorem loadsC_len (n k : Nat) : (loadsC n k).length = k := by simp [loadsC]
theorem putsC_succ (ws : List Int) (k : Nat) : putsC ws (k + 1) = putsC ws k ++ [⟨1, (k : Int), 0, (k : Int) + 1, ws.getD k 0⟩] := by simp [putsC, List.range_succ]
theorem loadsC_succ (n k : Nat) : loadsC n (k + 1) = loadsC n k ++ [⟨0, (k : Int), (k : Int), (n : Int) + (k : Int) + 1, 0⟩] := by simp [loadsC, List.range_succ]
theorem laidC_len (ws : List Int) (k : Nat) : (laidC ws k).length = 2 * k + 1 := by simp [laidC, putsC_len, loadsC_len]; omega
theorem laidC_put (ws : List Int) (k j : Nat) (h : j < k) : (laidC ws k).getD j insn0 = ⟨1, (j : Int), 0, (j : Int) + 1, ws.getD j 0⟩ := by
  unfold laidC
  rw [List.getD_eq_getElem?_getD, List.getElem?_append_left (by simp [putsC_len, loadsC_len]; omega), List.getElem?_append_left (by simp [putsC_len]; omega)]
  simp [putsC, h]
theorem laidC_load (ws : List Int) (k j : Nat) (h : j < k) : (laidC ws k).getD (k + j) insn0 = ⟨0, (j : Int), (j : Int), (k : Int) + (j : Int) + 1, 0⟩ := by
  unfold laidC
  rw [List.getD_eq_getElem?_getD, List.getElem?_append_left (by simp [putsC_len, loadsC_len]; omega), List.getElem?_append_right (by simp [putsC_len]), putsC_len]
  simp [loadsC, h]
theorem laidC_end (ws : List Int) (k : Nat) : (laidC ws k).getD (2 * k) insn0 = ⟨6, 0, 0, 2 * (k : Int) + 1, 7⟩ := by
  unfold laidC
  rw [List.getD_eq_getElem?_getD, List.getElem?_append_right (by simp [putsC_len, loadsC_len]; omega)]
  simp [putsC_len, loadsC_len, show 2 * k - (k + k) = 0 by omega]
theorem laidC_sane (ws : List Int) {k : Nat} (hk : k ≤ 20) : Sane (laidC ws k) := by
  refine ⟨fun i hi => ?_, by rw [laidC_len]; omega, by rw [laidC_len]; omega⟩
  rw [laidC_len] at hi ⊢
  unfold saneAt
  by_cases h1 : i < k
  · rw [laidC_put ws k i h1]; simp only; omega
  · by_cases h2 : i < 2 * k
    · obtain ⟨j, rfl⟩ : ∃ j, i = k + j := ⟨i - k, by omega⟩
      rw [laidC_load ws k j (by omega)]; simp only; omega
    · have : i = 2 * k := by omega
      subst this
      rw [laidC_end]; simp only; omega
theorem laidC_ok {ws : List Int} {k : Nat} (hw : ∀ x ∈ ws, W64 x) (hk : k ≤ 20) : ∀ x ∈ laidC ws k, x.ok := by
  intro x hx
  unfold laidC at hx
  rcases List.mem_append.1 hx with hx | hx
  · rcases List.mem_append.1 hx with hx | hx
    · simp only [putsC, List.mem_map, List.mem_range] at hx
      obtain ⟨i, hi, rfl⟩ := hx
      refine ⟨by simp [I64], by simp only [I64]; omega, by simp [I64], by simp only [I64]; omega, ?_⟩
      simp only
      by_cases h : i < ws.length
      · exact hw _ (getD_mem h)
      · rw [List.getD_eq_getElem?_getD, List.getElem?_eq_none (by omega)]; simp [W64]
    · simp only [loadsC, List.mem_map, List.mem_range] at hx
      obtain ⟨i, hi, rfl⟩ := hx
      refine ⟨by simp [I64], by simp only [I64]; omega, by simp only [I64]; omega, by simp only [I64]; omega, by simp [W64]⟩
  · simp only [List.mem_singleton] at hx
    subst hx
    refine ⟨by simp [I64], by simp [I64], by simp [I64], by simp only [I64]; omega, by simp [W64]⟩
/-- What holds behind the steps. -/
def Laid (ws : List Int) (k d : Nat) (R : FT × List Int × Nat) : Prop :=
  R.1.t.done = true ∧ R.1.t.ans = 7 ∧ R.2.2 = d ∧ R.2.1.length = k ∧ (∀ i, i < k → R.2.1.getD i 0 = ws.getD i 0) ∧ (∀ i, i < k → R.1.t.regs.getD i 0 = ws.getD i 0)
theorem laid_run (ws : List Int) {k : Nat} (hk : k ≤ 20) (d : Nat) : ∀ (j : Nat) (regs m : List Int) (n : Nat), j + d = 2 * k → d ≤ n → regs.length = 32 → m.length = k →
    (∀ i, i < j → i < k → m.getD i 0 = ws.getD i 0) → (∀ i, k + i < j → regs.getD i 0 = ws.getD i 0) →
    Laid ws k d (stepsN n ⟨laidC ws k, rest (laidC ws k) ⟨j, regs, false, 0⟩⟩ m) := by
  have hs := laidC_sane ws hk
  have hl := laidC_len ws k
  induction d with
  | zero =>
    intro j regs m n hj hn hr hm h1 h2
    have e : j = 2 * k := by omega
    subst e
    rw [rest_end (t := ⟨((2 * k : Nat) : Int), regs, false, 0⟩) (x := ⟨6, 0, 0, 2 * (k : Int) + 1, 7⟩) hs rfl (by simp only; omega) (by simp only; omega) (by simp only [Int.toNat_natCast]; exact laidC_end ws k) rfl, stepsN_done rfl]
    exact ⟨rfl, by show s64 7 = 7; decide, rfl, hm, fun i hi => h1 i (by omega) hi, fun i hi => h2 i (by omega)⟩
  | succ d ih =>
    intro j regs m n hj hn hr hm h1 h2
    obtain ⟨n, rfl⟩ : ∃ p, n = p + 1 := ⟨n - 1, by omega⟩
    have hc : counts m = m := counts_id (by omega)
    by_cases hjk : j < k
    · have hx := laidC_put ws k j hjk
      rw [rest_at rfl (by simp only; omega) (by simp only; omega) (by simp only [Int.toNat_natCast]; rw [hx]; simp only; omega), stepsN_succ rfl,
        stepT_at hs rfl (by simp only; omega) (by simp only; omega) (by simp only [Int.toNat_natCast]; exact hx) (by simp only; omega), hc]
      have ha : access m ⟨kind 1, (j : Int), ws.getD j 0, 0⟩ = (m.set j (ws.getD j 0), 0) := by
        unfold access kind
        rw [if_neg (by simp only; omega)]
        simp
      have hmv : moved ⟨(j : Int), regs, false, 0⟩ ⟨1, (j : Int), 0, (j : Int) + 1, ws.getD j 0⟩ 0 = ⟨((j + 1 : Nat) : Int), regs, false, 0⟩ := by
        unfold moved; rw [if_neg (by simp)]; simp
      simp only
      rw [ha]
      simp only
      rw [hmv]
      obtain ⟨r1, r2, r3, r4, r5, r6⟩ := ih (j + 1) regs (m.set j (ws.getD j 0)) n (by omega) (by omega) hr (by simp [hm]) (fun i hi hik => by
        by_cases he : i = j
        · subst he; exact getD_set_same _ (by omega)
        · rw [getD_set_other _ (Ne.symm he)]; exact h1 i (by omega) hik) (fun i hi => h2 i (by omega))
      exact ⟨r1, r2, by simp only; omega, r4, r5, r6⟩
    · obtain ⟨i, rfl⟩ : ∃ i, j = k + i := ⟨j - k, by omega⟩
      have hik : i < k := by omega
      have hx := laidC_load ws k i hik
      rw [rest_at rfl (by simp only; omega) (by simp only; omega) (by simp only [Int.toNat_natCast]; rw [hx]; simp only; omega), stepsN_succ rfl,
        stepT_at hs rfl (by simp only; omega) (by simp only; omega) (by simp only [Int.toNat_natCast]; exact hx) (by simp only; omega), hc]
      have ha : access m ⟨kind 0, (i : Int), 0, 0⟩ = (m, m.getD i 0) := by
        unfold access kind
        rw [if_neg (by simp only; omega)]
        simp
      have hmv : moved ⟨((k + i : Nat) : Int), regs, false, 0⟩ ⟨0, (i : Int), (i : Int), (k : Int) + (i : Int) + 1, 0⟩ (m.getD i 0) = ⟨((k + i + 1 : Nat) : Int), regs.set i (m.getD i 0), false, 0⟩ := by
        unfold moved; rw [if_pos rfl]; simp
      simp only
      rw [ha]
      simp only
      rw [hmv]
      obtain ⟨r1, r2, r3, r4, r5, r6⟩ := ih (k + i + 1) (regs.set i (m.getD i 0)) m n (by omega) (by omega) (by simp [hr]) hm (fun q hq hqk => h1 q (by omega) hqk) (fun q hq => by
        by_cases he : q = i
        · subst he; rw [getD_set_same _ (by omega)]; exact h1 q (by omega) hik
        · rw [getD_set_other _ (Ne.symm he)]; exact h2 q (by omega))
      exact ⟨r1, r2, by simp only; omega, r4, r5, r6⟩
theorem laid_steps (ws : List Int) {k : Nat} (hk : k ≤ 20) : Laid ws k (2 * k) (stepsT (startT (laidC ws k)) (zeros k) 100) := by
  have hs := laidC_sane ws hk
  have e1 : startT (laidC ws k) = ⟨laidC ws k, rest (laidC ws k) ⟨((0 : Nat) : Int), zeros 32, false, 0⟩⟩ := by
    unfold startT; rw [if_pos hs]; rfl
  have e2 : stepsT (startT (laidC ws k)) (zeros k) 100 = stepsN 100 (startT (laidC ws k)) (zeros k) := by
    unfold stepsT; rw [counts_id (by rw [zeros_len]; omega)]; rfl
  rw [e2, e1]
  exact laid_run ws hk (2 * k) 0 (zeros 32) (zeros k) 100 (by omega) (by omega) (zeros_len _) (zeros_len _) (fun i hi => absurd hi (by omega)) (fun i hi => absurd hi (by omega))
end Go.Proofs.Ytpkelneimjmmkaa

/- Plain laws of programs that run: an access, a jump, what never changes. -/
namespace Go.Proofs.Ytpkelneimjmmkaa

/-- One step more. -/
def bump (R : FT × List Int × Nat) : FT × List Int × Nat := (R.1, R.2.1, R.2.2 + 1)
theorem run_at {c : List Insn} {t : Tsk} {m : List Int} {x : Insn} (hs : Sane c) (hm : m.length ≤ 256) (hd : t.done = false) (h0 : 0 ≤ t.pc) (h1 : t.pc < (c.length : Int)) (hx : c.getD t.pc.toNat insn0 = x) (hk : x.k ≤ 2) (n : Nat) :
    stepsN (n + 1) ⟨c, rest c t⟩ m = bump (stepsN n ⟨c, rest c (moved t x (access m ⟨kind x.k, x.i, x.a, 0⟩).2)⟩ (access m ⟨kind x.k, x.i, x.a, 0⟩).1) := by
  have e : rest c t = t := rest_at hd h0 h1 (by rw [hx]; exact hk)
  rw [e, stepsN_succ hd, stepT_at hs hd h0 h1 hx hk, counts_id hm]
  rfl
theorem rest_jump {c : List Insn} {t : Tsk} {x : Insn} (hs : Sane c) (hd : t.done = false) (h0 : 0 ≤ t.pc) (h1 : t.pc < (c.length : Int)) (hx : c.getD t.pc.toNat insn0 = x) (hk : 3 ≤ x.k) (hk' : x.k ≤ 5) (hj : jumpB t.regs x = true) :
    rest c t = rest c { t with pc := x.to } := by
  rw [rest_on hs hd h0 h1 (by rw [hx]; omega), hx]
  unfold byItself
  rw [if_neg (by omega), if_pos hj]
theorem rest_next {c : List Insn} {t : Tsk} {x : Insn} (hs : Sane c) (hd : t.done = false) (h0 : 0 ≤ t.pc) (h1 : t.pc < (c.length : Int)) (hx : c.getD t.pc.toNat insn0 = x) (hk : 3 ≤ x.k) (hk' : x.k ≤ 5) (hj : jumpB t.regs x = false) :
    rest c t = rest c { t with pc := t.pc + 1 } := by
  rw [rest_on hs hd h0 h1 (by rw [hx]; omega), hx]
  unfold byItself
  rw [if_neg (by omega), if_neg (by simp [hj])]

/-- What no access of the code changes stays. -/
def Keeps (P : List Int → Prop) (c : List Insn) : Prop := ∀ x ∈ c, x.k ≤ 2 → ∀ m : List Int, P m → P (access m ⟨kind x.k, x.i, x.a, 0⟩).1
theorem startT_keeps {P : List Int → Prop} {c : List Insn} (h : Keeps P c) : Keeps P (startT c).code := by
  unfold startT
  split
  · exact h
  · intro x hx; simp at hx
theorem stepT_keeps {P : List Int → Prop} {T : FT} {m : List Int} (h : Keeps P T.code) (hm : P (counts m)) : P (stepT T m).2 ∧ Keeps P (stepT T m).1.code := by
  unfold stepT
  split
  · exact ⟨hm, h⟩
  · split
    · exact ⟨hm, startT_keeps h⟩
    · rename_i hs
      simp only [Decidable.not_not] at hs
      split
      · exact ⟨hm, h⟩
      · rename_i hd
        simp only [Bool.not_eq_true] at hd
        obtain ⟨p0, p1, p2⟩ := rest_rests hs hd
        refine ⟨h _ ?_ p2 _ hm, h⟩
        rw [List.getD_eq_getElem?_getD, List.getElem?_eq_getElem (by omega)]
        exact List.getElem_mem _
theorem stepsN_keeps {P : List Int → Prop} (n : Nat) : ∀ (T : FT) (m : List Int), Keeps P T.code → m.length ≤ 256 → P m → P (stepsN n T m).2.1 := by
  induction n with
  | zero => intro T m _ _ h; exact h
  | succ n ih =>
    intro T m hk hm h
    simp only [stepsN]
    split
    · exact h
    · have h1 : (stepT T m).2.length = m.length := by rw [step_len, counts_id hm]
      have h2 := stepT_keeps (m := m) hk (by rw [counts_id hm]; exact h)
      exact ih _ _ h2.2 (by omega) h2.1
theorem steps_keeps {P : List Int → Prop} {c : List Insn} (h : Keeps P c) {m : List Int} (hm : m.length ≤ 256) (hP : P m) (most : Int) : P (stepsT (startT c) m most).2.1 := by
  unfold stepsT
  rw [counts_id hm]
  exact stepsN_keeps _ _ _ (startT_keeps h) hm hP
/-- Where words may be changed. -/
def SameBut (m0 : List Int) (A : Int → Prop) (m : List Int) : Prop := m.length = m0.length ∧ ∀ i : Nat, ¬ A (i : Int) → m.getD i 0 = m0.getD i 0
theorem sameBut_refl (m0 : List Int) (A : Int → Prop) : SameBut m0 A m0 := ⟨rfl, fun _ _ => rfl⟩
theorem sameBut_access {m0 m : List Int} {A : Int → Prop} (h : SameBut m0 A m) (x : Acc) (hx : x.k = 0 ∨ A x.i) : SameBut m0 A (access m x).1 := by
  refine ⟨by rw [access_len]; exact h.1, fun i hi => ?_⟩
  have key : ∀ y, x.i ≥ 0 → x.k ≠ 0 → (m.set x.i.toNat y).getD i 0 = m0.getD i 0 := fun y h0 hk => by
    rw [getD_set_other _ (fun e => ?_)]
    · exact h.2 i hi
    · have : x.i = (i : Int) := by omega
      rcases hx with hx | hx
      · exact hk hx
      · rw [this] at hx; exact hi hx
  unfold access
  split
  · exact h.2 i hi
  · split
    · exact h.2 i hi
    split
    · exact key _ (by omega) (by assumption)
    split
    · split
      · exact key _ (by omega) (by assumption)
      · exact h.2 i hi
    split
    · exact key _ (by omega) (by assumption)
    · exact h.2 i hi
theorem keeps_sameBut {m0 : List Int} {A : Int → Prop} {c : List Insn} (h : ∀ x ∈ c, x.k ≤ 2 → x.k = 0 ∨ A x.i) : Keeps (SameBut m0 A) c := by
  intro x hx hk m hm
  refine sameBut_access hm _ ?_
  rcases h x hx hk with h | h
  · left; simp only [kind]; rw [if_pos h]
  · right; exact h
end Go.Proofs.Ytpkelneimjmmkaa

/- Plain laws of layer 15: the programs that write and that try. -/
namespace Go.Proofs.Ytpkelneimjmmkaa

/-- Instructions by their places. -/
def tab (n : Nat) (f : Nat → Insn) : List Insn := (List.range n).map f
theorem tab_len (n : Nat) (f : Nat → Insn) : (tab n f).length = n := by simp [tab]
theorem tab_getD {n q : Nat} (f : Nat → Insn) (h : q < n) : (tab n f).getD q insn0 = f q := by simp [tab, List.getD_eq_getElem?_getD, h]
theorem tab_succ (n : Nat) (f : Nat → Insn) : tab (n + 1) f = tab n f ++ [f n] := by simp [tab, List.range_succ]
theorem tab_mem {n : Nat} {f : Nat → Insn} {x : Insn} (h : x ∈ tab n f) : ∃ q, q < n ∧ x = f q := by
  simp only [tab, List.mem_map, List.mem_range] at h
  obtain ⟨q, h1, h2⟩ := h
  exact ⟨q, h1, h2.symm⟩
theorem tab_ok {n : Nat} {f : Nat → Insn} (h : ∀ q, q < n → (f q).ok) : ∀ x ∈ tab n f, x.ok := fun x hx => by
  obtain ⟨q, h1, rfl⟩ := tab_mem hx
  exact h q h1
theorem tab_sane {n : Nat} {f : Nat → Insn} (h : ∀ q, q < n → saneAt n q (f q)) (h1 : 1 ≤ n) (h2 : n ≤ 200) : Sane (tab n f) := by
  refine ⟨fun i hi => ?_, by rw [tab_len]; exact h1, by rw [tab_len]; exact h2⟩
  rw [tab_len] at hi ⊢
  rw [tab_getD f hi]
  exact h i hi
theorem tab_eq {n : Nat} {f g : Nat → Insn} (h : ∀ q, q < n → f q = g q) : tab n f = tab n g := by
  unfold tab
  exact List.map_congr_left fun q hq => h q (List.mem_range.1 hq)
/-- An instruction that goes nowhere else goes to the next one. -/
def onI (i : Nat) (x : Insn) : Insn := if x.to = 0 then { x with to := (i : Int) + 1 } else x
def onL (l : List Insn) : List Insn := tab l.length fun i => onI i (l.getD i insn0)
theorem onL_tab {n : Nat} {f g : Nat → Insn} (h : ∀ q, q < n → onI q (f q) = g q) : onL (tab n f) = tab n g := by
  unfold onL
  rw [tab_len]
  exact tab_eq fun q hq => by rw [tab_getD f hq]; exact h q hq

/-- The program that writes: its instruction at a place. -/
def writeI (b ver : Int) (ws : List Int) (q : Nat) : Insn :=
  if q = 0 then ⟨1, b, 0, 1, ver + 1⟩
  else if q ≤ ws.length then ⟨1, b + (q : Int), 0, (q : Int) + 1, ws.getD (q - 1) 0⟩
  else if q = ws.length + 1 then ⟨1, b, 0, (ws.length : Int) + 2, ver + 2⟩
  else ⟨6, 0, 0, (ws.length : Int) + 3, 1⟩
def writeL (b ver : Int) (ws : List Int) : List Insn := tab (ws.length + 3) (writeI b ver ws)
def mayW (b ver : Int) (n : Nat) : Prop := 0 ≤ b ∧ b ≤ 255 ∧ 1 ≤ n ∧ n ≤ 28 ∧ 0 ≤ ver ∧ ver % 2 = 0
instance (b ver : Int) (n : Nat) : Decidable (mayW b ver n) := by unfold mayW; exact inferInstance
def writeC (b ver : Int) (ws : List Int) : List Insn := if mayW b ver ws.length then writeL b ver ws else []
theorem writeI_ok {b ver : Int} {ws : List Int} (h : mayW b ver ws.length) (hv : I64 ver) (hw : ∀ x ∈ ws, W64 x) (q : Nat) (_ : q < ws.length + 3) : (writeI b ver ws q).ok := by
  obtain ⟨h1, h2, h3, h4, h5, h6⟩ := h
  unfold I64 at hv
  unfold writeI
  split
  · exact ⟨by simp [I64], by simp only [I64]; omega, by simp [I64], by simp [I64], by simp only [W64]; omega⟩
  · split
    · refine ⟨by simp [I64], by simp only [I64]; omega, by simp [I64], by simp only [I64]; omega, ?_⟩
      exact hw _ (getD_mem (by omega))
    · split
      · exact ⟨by simp [I64], by simp only [I64]; omega, by simp [I64], by simp only [I64]; omega, by simp only [W64]; omega⟩
      · exact ⟨by simp [I64], by simp [I64], by simp [I64], by simp only [I64]; omega, by simp [W64]⟩
theorem writeC_ok {b ver : Int} {ws : List Int} (hv : I64 ver) (hw : ∀ x ∈ ws, W64 x) : ∀ x ∈ writeC b ver ws, x.ok := by
  unfold writeC
  split
  · rename_i h; exact tab_ok (writeI_ok h hv hw)
  · simp
theorem writeL_sane {b ver : Int} {ws : List Int} (h3 : 1 ≤ ws.length) (h4 : ws.length ≤ 28) : Sane (writeL b ver ws) := by
  refine tab_sane (fun q hq => ?_) (by omega) (by omega)
  unfold saneAt writeI
  split
  · simp only; omega
  · split
    · simp only; omega
    · split
      · simp only; omega
      · simp only; omega

/-- The program that tries: its instruction at a place of a look; at a place. -/
def lookI (b : Int) (n e p r : Nat) : Insn :=
  if r = 0 then ⟨0, b, 0, (p : Int) + 1, 0⟩
  else if r = 1 then ⟨4, 0, 0, (p : Int) + ((n : Int) + 4), 0⟩
  else if r ≤ n + 1 then ⟨0, b + ((r : Int) - 1), (r : Int) - 1, (p : Int) + (r : Int) + 1, 0⟩
  else if r = n + 2 then ⟨0, b, 31, (p : Int) + (r : Int) + 1, 0⟩
  else ⟨5, 0, 31, (e : Int) + 1, 0⟩
def tryI (b : Int) (n k q : Nat) : Insn :=
  if q < k * (n + 4) then lookI b n (k * (n + 4)) (q / (n + 4) * (n + 4)) (q % (n + 4))
  else if q = k * (n + 4) then ⟨6, 0, 0, ((k * (n + 4) : Nat) : Int) + 1, 0⟩
  else ⟨6, 0, 0, ((k * (n + 4) : Nat) : Int) + 2, 1⟩
def tryL (b : Int) (n k : Nat) : List Insn := tab (k * (n + 4) + 2) (tryI b n k)
def mayT (b n k : Int) : Prop := 0 ≤ b ∧ b ≤ 255 ∧ 1 ≤ n ∧ n ≤ 28 ∧ 1 ≤ k ∧ k ≤ 6
instance (b n k : Int) : Decidable (mayT b n k) := by unfold mayT; exact inferInstance
def tryC (b n k : Int) : List Insn := if mayT b n k then tryL b n.toNat k.toNat else []
theorem look_lt {n k i r : Nat} (hi : i < k) (hr : r < n + 4) : i * (n + 4) + r < k * (n + 4) := by
  have : (i + 1) * (n + 4) ≤ k * (n + 4) := Nat.mul_le_mul_right _ hi
  rw [Nat.succ_mul] at this
  omega
theorem tryI_look (b : Int) {n k i r : Nat} (hi : i < k) (hr : r < n + 4) : tryI b n k (i * (n + 4) + r) = lookI b n (k * (n + 4)) (i * (n + 4)) r := by
  unfold tryI
  rw [if_pos (look_lt hi hr)]
  have h1 : (i * (n + 4) + r) / (n + 4) = i := by rw [Nat.add_comm, Nat.add_mul_div_right _ _ (by omega), Nat.div_eq_of_lt hr]; omega
  have h2 : (i * (n + 4) + r) % (n + 4) = r := by rw [Nat.add_comm, Nat.add_mul_mod_self_right]; exact Nat.mod_eq_of_lt hr
  rw [h1, h2]
theorem try_split {n k q : Nat} (h : q < k * (n + 4)) : ∃ i r, i < k ∧ r < n + 4 ∧ q = i * (n + 4) + r := by
  refine ⟨q / (n + 4), q % (n + 4), Nat.div_lt_of_lt_mul (by rw [Nat.mul_comm]; exact h), Nat.mod_lt _ (by omega), ?_⟩
  have := Nat.div_add_mod q (n + 4)
  rw [Nat.mul_comm] at this
  exact this.symm
theorem try_size {n k : Nat} (hn : n ≤ 28) (hk : k ≤ 6) : k * (n + 4) ≤ 192 := by
  have := Nat.mul_le_mul hk (show n + 4 ≤ 32 by omega)
  omega
theorem tryL_sane {b : Int} {n k : Nat} (hn : n ≤ 28) (hk : k ≤ 6) : Sane (tryL b n k) := by
  have hE := try_size hn hk
  refine tab_sane (fun q hq => ?_) (by omega) (by omega)
  by_cases h : q < k * (n + 4)
  · obtain ⟨i, r, hi, hr, rfl⟩ := try_split h
    rw [tryI_look b hi hr]
    have h1 := look_lt hi hr
    have h2 := look_lt hi (show n + 3 < n + 4 by omega)
    generalize k * (n + 4) = e at *
    generalize i * (n + 4) = p at *
    unfold saneAt lookI
    split
    · simp only; omega
    · split
      · simp only; omega
      · split
        · simp only; omega
        · split
          · simp only; omega
          · simp only; omega
  · generalize he : k * (n + 4) = e at *
    unfold saneAt tryI
    rw [he, if_neg h]
    split
    · simp only; omega
    · simp only; omega
theorem tryL_ok {b : Int} {n k : Nat} (hb : 0 ≤ b) (hb' : b ≤ 255) (hn : n ≤ 28) (hk : k ≤ 6) : ∀ x ∈ tryL b n k, x.ok := by
  have hE := try_size hn hk
  refine tab_ok fun q hq => ?_
  by_cases h : q < k * (n + 4)
  · obtain ⟨i, r, hi, hr, rfl⟩ := try_split h
    rw [tryI_look b hi hr]
    have h1 := look_lt hi hr
    generalize k * (n + 4) = e at *
    generalize i * (n + 4) = p at *
    unfold lookI
    repeat' split
    all_goals exact ⟨by simp [I64], by simp only [I64]; omega, by simp only [I64]; omega, by simp only [I64]; omega, by simp [W64]⟩
  · generalize he : k * (n + 4) = e at *
    unfold tryI
    rw [he, if_neg h]
    split
    all_goals exact ⟨by simp [I64], by simp [I64], by simp [I64], by simp only [I64]; omega, by simp [W64]⟩
theorem tryC_ok {b n k : Int} : ∀ x ∈ tryC b n k, x.ok := by
  unfold tryC
  split
  · rename_i h
    obtain ⟨h1, h2, h3, h4, h5, h6⟩ := h
    exact tryL_ok h1 h2 (by omega) (by omega)
  · simp
/-- A try changes nothing. -/
theorem tryL_loads {b : Int} {n k : Nat} : ∀ x ∈ tryL b n k, x.k ≤ 2 → x.k = 0 := by
  intro x hx
  obtain ⟨q, hq, rfl⟩ := tab_mem hx
  unfold tryI lookI
  repeat' split
  all_goals simp
theorem writeL_board {b ver : Int} {ws : List Int} : ∀ x ∈ writeL b ver ws, x.k ≤ 2 → b ≤ x.i ∧ x.i ≤ b + (ws.length : Int) := by
  intro x hx
  obtain ⟨q, hq, rfl⟩ := tab_mem hx
  unfold writeI
  split
  · simp only; omega
  · split
    · simp only; omega
    · split
      · simp only; omega
      · simp
theorem try_still {b n k : Int} {m : List Int} (hm : m.length ≤ 256) (most : Int) : (stepsT (startT (tryC b n k)) m most).2.1 = m := by
  have hk : Keeps (fun x => x = m) (tryC b n k) := by
    unfold tryC
    split
    · intro x hx hk m' hm'
      have := tryL_loads x hx hk
      have e : kind x.k = 0 := by unfold kind; rw [if_pos this]
      rw [e, access_load]; exact hm'
    · intro x hx; simp at hx
  exact steps_keeps hk hm rfl most
theorem write_apart {b ver : Int} {ws : List Int} {m : List Int} (hm : m.length ≤ 256) (most : Int) :
    SameBut m (fun i => b ≤ i ∧ i ≤ b + (ws.length : Int)) (stepsT (startT (writeC b ver ws)) m most).2.1 := by
  have hk : Keeps (SameBut m (fun i => b ≤ i ∧ i ≤ b + (ws.length : Int))) (writeC b ver ws) := by
    unfold writeC
    split
    · exact keeps_sameBut fun x hx hk => .inr (writeL_board x hx hk)
    · intro x hx; simp at hx
  exact steps_keeps hk hm (sameBut_refl _ _) most
end Go.Proofs.Ytpkelneimjmmkaa

/- Plain laws of layer 15: what a try comes to, what a write leaves. -/
namespace Go.Proofs.Ytpkelneimjmmkaa

theorem tryL_len (b : Int) (n k : Nat) : (tryL b n k).length = k * (n + 4) + 2 := tab_len _ _
theorem tryL_at (b : Int) {n k i r : Nat} (hi : i < k) (hr : r < n + 4) : (tryL b n k).getD (i * (n + 4) + r) insn0 = lookI b n (k * (n + 4)) (i * (n + 4)) r := by
  unfold tryL
  rw [tab_getD _ (by have := look_lt hi hr; omega), tryI_look b hi hr]
theorem tryL_none (b : Int) (n k : Nat) : (tryL b n k).getD (k * (n + 4)) insn0 = ⟨6, 0, 0, ((k * (n + 4) : Nat) : Int) + 1, 0⟩ := by
  unfold tryL
  rw [tab_getD _ (by omega)]
  unfold tryI
  rw [if_neg (by omega), if_pos rfl]
theorem tryL_yes (b : Int) (n k : Nat) : (tryL b n k).getD (k * (n + 4) + 1) insn0 = ⟨6, 0, 0, ((k * (n + 4) : Nat) : Int) + 2, 1⟩ := by
  unfold tryL
  rw [tab_getD _ (by omega)]
  unfold tryI
  rw [if_neg (by omega), if_neg (by omega)]
section
variable {b : Int} {n k : Nat}
theorem try_none (hn : n ≤ 28) (hk : k ≤ 6) (regs : List Int) (a : Int) : rest (tryL b n k) ⟨((k * (n + 4) : Nat) : Int), regs, false, a⟩ = ⟨((k * (n + 4) : Nat) : Int), regs, true, 0⟩ := by
  have hl := tryL_len b n k
  exact rest_end (x := ⟨6, 0, 0, ((k * (n + 4) : Nat) : Int) + 1, 0⟩) (tryL_sane hn hk) rfl (by simp only; omega) (by simp only; omega) (by simp only [Int.toNat_natCast]; exact tryL_none b n k) rfl
theorem try_yes (hn : n ≤ 28) (hk : k ≤ 6) (regs : List Int) (a : Int) : rest (tryL b n k) ⟨((k * (n + 4) + 1 : Nat) : Int), regs, false, a⟩ = ⟨((k * (n + 4) + 1 : Nat) : Int), regs, true, 1⟩ := by
  have hl := tryL_len b n k
  exact rest_end (x := ⟨6, 0, 0, ((k * (n + 4) : Nat) : Int) + 2, 1⟩) (tryL_sane hn hk) rfl (by simp only; omega) (by simp only; omega) (by simp only [Int.toNat_natCast]; exact tryL_yes b n k) rfl
theorem try_stay {i r : Nat} (hi : i < k) (hr : r = 0 ∨ (2 ≤ r ∧ r ≤ n + 2)) (regs : List Int) (a : Int) : rest (tryL b n k) ⟨((i * (n + 4) + r : Nat) : Int), regs, false, a⟩ = ⟨((i * (n + 4) + r : Nat) : Int), regs, false, a⟩ := by
  have hl := tryL_len b n k
  have h1 := look_lt hi (show r < n + 4 by omega)
  refine rest_at rfl (by simp only; omega) (by simp only; omega) ?_
  simp only [Int.toNat_natCast]
  rw [tryL_at b hi (by omega)]
  unfold lookI
  rcases hr with rfl | ⟨h2, h3⟩
  · rw [if_pos rfl]; simp
  · rw [if_neg (by omega), if_neg (by omega)]
    split
    · simp
    · rw [if_pos (by omega)]; simp
theorem try_odd (hn : n ≤ 28) (hk : k ≤ 6) {i : Nat} (hi : i < k) (regs : List Int) (a : Int) (ho : regs.getD 0 0 % 2 = 1) :
    rest (tryL b n k) ⟨((i * (n + 4) + 1 : Nat) : Int), regs, false, a⟩ = rest (tryL b n k) ⟨(((i + 1) * (n + 4) : Nat) : Int), regs, false, a⟩ := by
  have hl := tryL_len b n k
  have h1 := look_lt hi (show 1 < n + 4 by omega)
  have hx : (tryL b n k).getD (i * (n + 4) + 1) insn0 = ⟨4, 0, 0, ((i * (n + 4) : Nat) : Int) + ((n : Int) + 4), 0⟩ := by
    rw [tryL_at b hi (by omega)]; unfold lookI; rw [if_neg (by omega), if_pos rfl]
  have e : ((i * (n + 4) : Nat) : Int) + ((n : Int) + 4) = (((i + 1) * (n + 4) : Nat) : Int) := by rw [Nat.succ_mul]; omega
  rw [e] at hx
  exact rest_jump (x := ⟨4, 0, 0, (((i + 1) * (n + 4) : Nat) : Int), 0⟩) (tryL_sane hn hk) rfl (by simp only; omega) (by simp only; omega) (by simp only [Int.toNat_natCast]; exact hx) (by simp only; omega) (by simp only; omega)
    (by unfold jumpB; simp only [List.getD_eq_getElem?_getD] at ho; simp [ho])
theorem try_even (hn : n ≤ 28) (hk : k ≤ 6) (hn1 : 1 ≤ n) {i : Nat} (hi : i < k) (regs : List Int) (a : Int) (ho : ¬ regs.getD 0 0 % 2 = 1) :
    rest (tryL b n k) ⟨((i * (n + 4) + 1 : Nat) : Int), regs, false, a⟩ = ⟨((i * (n + 4) + 2 : Nat) : Int), regs, false, a⟩ := by
  have hl := tryL_len b n k
  have h1 := look_lt hi (show 1 < n + 4 by omega)
  have hx : (tryL b n k).getD (i * (n + 4) + 1) insn0 = ⟨4, 0, 0, ((i * (n + 4) : Nat) : Int) + ((n : Int) + 4), 0⟩ := by
    rw [tryL_at b hi (by omega)]; unfold lookI; rw [if_neg (by omega), if_pos rfl]
  refine (rest_next (x := ⟨4, 0, 0, ((i * (n + 4) : Nat) : Int) + ((n : Int) + 4), 0⟩) (tryL_sane hn hk) rfl (by simp only; omega) (by simp only; omega) (by simp only [Int.toNat_natCast]; exact hx) (by simp only; omega) (by simp only; omega)
    (by unfold jumpB; simp only [List.getD_eq_getElem?_getD] at ho; simp [ho])).trans ?_
  have h := try_stay (b := b) (n := n) hi (r := 2) (.inr ⟨by omega, by omega⟩) regs a
  have e : ((i * (n + 4) + 1 : Nat) : Int) + 1 = ((i * (n + 4) + 2 : Nat) : Int) := by omega
  simp only
  rw [e]
  exact h
theorem try_same (hn : n ≤ 28) (hk : k ≤ 6) {i : Nat} (hi : i < k) (regs : List Int) (a : Int) (ho : regs.getD 31 0 = regs.getD 0 0) :
    rest (tryL b n k) ⟨((i * (n + 4) + (n + 3) : Nat) : Int), regs, false, a⟩ = ⟨((k * (n + 4) + 1 : Nat) : Int), regs, true, 1⟩ := by
  have hl := tryL_len b n k
  have h1 := look_lt hi (show n + 3 < n + 4 by omega)
  have hx : (tryL b n k).getD (i * (n + 4) + (n + 3)) insn0 = ⟨5, 0, 31, ((k * (n + 4) + 1 : Nat) : Int), 0⟩ := by
    rw [tryL_at b hi (by omega)]; unfold lookI; rw [if_neg (by omega), if_neg (by omega), if_neg (by omega), if_neg (by omega)]; simp
  refine (rest_jump (x := ⟨5, 0, 31, ((k * (n + 4) + 1 : Nat) : Int), 0⟩) (tryL_sane hn hk) rfl (by simp only; omega) (by simp only; omega) (by simp only [Int.toNat_natCast]; exact hx) (by simp only; omega) (by simp only; omega)
    (by unfold jumpB low5; simp only [List.getD_eq_getElem?_getD] at ho; simp [ho])).trans ?_
  exact try_yes hn hk regs a
theorem try_other (hn : n ≤ 28) (hk : k ≤ 6) {i : Nat} (hi : i < k) (regs : List Int) (a : Int) (ho : ¬ regs.getD 31 0 = regs.getD 0 0) :
    rest (tryL b n k) ⟨((i * (n + 4) + (n + 3) : Nat) : Int), regs, false, a⟩ = rest (tryL b n k) ⟨(((i + 1) * (n + 4) : Nat) : Int), regs, false, a⟩ := by
  have hl := tryL_len b n k
  have h1 := look_lt hi (show n + 3 < n + 4 by omega)
  have hx : (tryL b n k).getD (i * (n + 4) + (n + 3)) insn0 = ⟨5, 0, 31, ((k * (n + 4) + 1 : Nat) : Int), 0⟩ := by
    rw [tryL_at b hi (by omega)]; unfold lookI; rw [if_neg (by omega), if_neg (by omega), if_neg (by omega), if_neg (by omega)]; simp
  refine (rest_next (x := ⟨5, 0, 31, ((k * (n + 4) + 1 : Nat) : Int), 0⟩) (tryL_sane hn hk) rfl (by simp only; omega) (by simp only; omega) (by simp only [Int.toNat_natCast]; exact hx) (by simp only; omega) (by simp only; omega)
    (by unfold jumpB low5; simp only [List.getD_eq_getElem?_getD] at ho; simp [ho])).trans ?_
  have e : ((i * (n + 4) + (n + 3) : Nat) : Int) + 1 = (((i + 1) * (n + 4) : Nat) : Int) := by rw [Nat.succ_mul]; omega
  simp only
  rw [e]
/-- The state of a try. -/
structure TryAt (b : Int) (n k : Nat) (T : FT) (i r : Nat) : Prop where
  code : T.code = tryL b n k
  done : T.t.done = false
  pc : T.t.pc = ((i * (n + 4) + r : Nat) : Int)
  look : i < k
  place : r = 0 ∨ (2 ≤ r ∧ r ≤ n + 2)
  regs : T.t.regs.length = 32
/-- What the next access of a try is, and what it comes to. -/
theorem try_step (hn1 : 1 ≤ n) (hn : n ≤ 28) (hk : k ≤ 6) {T : FT} {i r : Nat} (h : TryAt b n k T i r) {m : List Int} (hm : m.length ≤ 256) :
    (r = 0 → ∃ d, d = (access m ⟨0, b, 0, 0⟩).2 ∧ stepT T m = (⟨tryL b n k, rest (tryL b n k) ⟨((i * (n + 4) + 1 : Nat) : Int), T.t.regs.set 0 d, false, T.t.ans⟩⟩, m)) ∧
    (2 ≤ r → r ≤ n + 1 → ∃ d, d = (access m ⟨0, b + ((r : Int) - 1), 0, 0⟩).2 ∧ stepT T m = (⟨tryL b n k, ⟨((i * (n + 4) + (r + 1) : Nat) : Int), T.t.regs.set (r - 1) d, false, T.t.ans⟩⟩, m)) ∧
    (r = n + 2 → ∃ d, d = (access m ⟨0, b, 0, 0⟩).2 ∧ stepT T m = (⟨tryL b n k, rest (tryL b n k) ⟨((i * (n + 4) + (n + 3) : Nat) : Int), T.t.regs.set 31 d, false, T.t.ans⟩⟩, m)) := by
  obtain ⟨code, pc, regs, done, ans⟩ := T
  obtain ⟨hc, hd, hp, hi, hr, h32⟩ := h
  simp only at hc hd hp h32
  subst hc hd hp
  have hl := tryL_len b n k
  have hs := tryL_sane (b := b) hn hk
  refine ⟨fun hr0 => ?_, fun h2 h3 => ?_, fun hr0 => ?_⟩
  · subst hr0
    have hx : (tryL b n k).getD (i * (n + 4) + 0) insn0 = ⟨0, b, 0, ((i * (n + 4) : Nat) : Int) + 1, 0⟩ := by
      rw [tryL_at b hi (by omega)]; unfold lookI; rw [if_pos rfl]
    have h1 := look_lt hi (show 0 < n + 4 by omega)
    refine ⟨_, rfl, ?_⟩
    rw [stepT_at hs rfl (by simp only; omega) (by simp only; omega) (by simp only [Int.toNat_natCast]; exact hx) (by simp only; omega), counts_id hm]
    have e : kind 0 = 0 := rfl
    simp only [e]
    rw [access_load]
    unfold moved
    rw [if_pos rfl]
    simp
  · have hx : (tryL b n k).getD (i * (n + 4) + r) insn0 = ⟨0, b + ((r : Int) - 1), (r : Int) - 1, ((i * (n + 4) : Nat) : Int) + (r : Int) + 1, 0⟩ := by
      rw [tryL_at b hi (by omega)]; unfold lookI; rw [if_neg (by omega), if_neg (by omega), if_pos (by omega)]
    have h1 := look_lt hi (show r < n + 4 by omega)
    refine ⟨_, rfl, ?_⟩
    rw [stepT_at hs rfl (by simp only; omega) (by simp only; omega) (by simp only [Int.toNat_natCast]; exact hx) (by simp only; omega), counts_id hm]
    have e : kind 0 = 0 := rfl
    simp only [e]
    rw [access_load]
    have e2 : moved ⟨((i * (n + 4) + r : Nat) : Int), regs, false, ans⟩ ⟨0, b + ((r : Int) - 1), (r : Int) - 1, ((i * (n + 4) : Nat) : Int) + (r : Int) + 1, 0⟩ (access m ⟨0, b + ((r : Int) - 1), 0, 0⟩).2 = ⟨((i * (n + 4) + (r + 1) : Nat) : Int), regs.set (r - 1) (access m ⟨0, b + ((r : Int) - 1), 0, 0⟩).2, false, ans⟩ := by
      unfold moved
      rw [if_pos rfl]
      simp only [Tsk.mk.injEq, and_self, and_true]
      refine ⟨by omega, by rw [show ((r : Int) - 1).toNat = r - 1 by omega]⟩
    rw [e2, try_stay hi (.inr ⟨by omega, by omega⟩)]
  · subst hr0
    have hx : (tryL b n k).getD (i * (n + 4) + (n + 2)) insn0 = ⟨0, b, 31, ((i * (n + 4) : Nat) : Int) + ((n + 2 : Nat) : Int) + 1, 0⟩ := by
      rw [tryL_at b hi (by omega)]; unfold lookI; rw [if_neg (by omega), if_neg (by omega), if_neg (by omega), if_pos rfl]
    have h1 := look_lt hi (show n + 2 < n + 4 by omega)
    refine ⟨_, rfl, ?_⟩
    rw [stepT_at hs rfl (by simp only; omega) (by simp only; omega) (by simp only [Int.toNat_natCast]; exact hx) (by simp only; omega), counts_id hm]
    have e : kind 0 = 0 := rfl
    simp only [e]
    rw [access_load]
    have e2 : moved ⟨((i * (n + 4) + (n + 2) : Nat) : Int), regs, false, ans⟩ ⟨0, b, 31, ((i * (n + 4) : Nat) : Int) + ((n + 2 : Nat) : Int) + 1, 0⟩ (access m ⟨0, b, 0, 0⟩).2 = ⟨((i * (n + 4) + (n + 3) : Nat) : Int), regs.set 31 (access m ⟨0, b, 0, 0⟩).2, false, ans⟩ := by
      unfold moved
      rw [if_pos rfl]
      simp only [Tsk.mk.injEq, and_self, and_true]
      refine ⟨by omega, by simp⟩
    rw [e2]
end

/-! ### SeqEnds -/
def TryInv (b : Int) (n k s : Nat) (T : FT) : Prop :=
  (T.t.done = true ∧ (T.t.ans = 0 ∨ (T.t.ans = 1 ∧ T.t.regs.getD 0 0 = T.t.regs.getD 31 0 ∧ T.t.regs.getD 0 0 % 2 ≠ 1))) ∨
  (∃ i r, TryAt b n k T i r ∧ (2 ≤ r → T.t.regs.getD 0 0 % 2 ≠ 1) ∧ s ≤ i * (n + 2) + (if r = 0 then 0 else r - 1))
theorem try_onward {b : Int} {n k s : Nat} (hn : n ≤ 28) (hk : k ≤ 6) {i : Nat} (hi : i < k) {regs : List Int} (hr : regs.length = 32) (a : Int) (hs : s ≤ (i + 1) * (n + 2)) :
    TryInv b n k s ⟨tryL b n k, rest (tryL b n k) ⟨(((i + 1) * (n + 4) : Nat) : Int), regs, false, a⟩⟩ := by
  by_cases h : i + 1 = k
  · subst h
    rw [try_none hn hk]
    exact .inl ⟨rfl, .inl rfl⟩
  · have h1 := try_stay (b := b) (n := n) (k := k) (i := i + 1) (r := 0) (by omega) (.inl rfl) regs a
    rw [Nat.add_zero] at h1
    rw [h1]
    exact .inr ⟨i + 1, 0, ⟨rfl, rfl, rfl, by omega, .inl rfl, hr⟩, fun h => absurd h (by omega), by simpa using hs⟩
theorem try_start {b : Int} {n k : Nat} (hn : n ≤ 28) (hk1 : 1 ≤ k) (hk : k ≤ 6) : startT (tryL b n k) = ⟨tryL b n k, tsk0⟩ := by
  have hs := tryL_sane (b := b) hn hk
  have h1 := try_stay (b := b) (n := n) (k := k) (i := 0) (r := 0) (by omega) (.inl rfl) (zeros 32) 0
  unfold startT
  rw [if_pos hs]
  congr 1
  simpa [tsk0] using h1
theorem tryInv_start {b : Int} {n k : Nat} (hn : n ≤ 28) (hk1 : 1 ≤ k) (hk : k ≤ 6) : TryInv b n k 0 (startT (tryL b n k)) := by
  rw [try_start hn hk1 hk]
  exact .inr ⟨0, 0, ⟨rfl, rfl, by simp [tsk0], by omega, .inl rfl, zeros_len 32⟩, fun h => absurd h (by omega), by simp⟩
theorem tryInv_step {b : Int} {n k s : Nat} (hn1 : 1 ≤ n) (hn : n ≤ 28) (hk : k ≤ 6) {T : FT} (h : TryInv b n k s T) (hd : T.t.done = false) {m : List Int} (hm : m.length ≤ 256) : TryInv b n k (s + 1) (stepT T m).1 := by
  rcases h with ⟨h, _⟩ | ⟨i, r, h, hv, hs⟩
  · rw [hd] at h; cases h
  · obtain ⟨h1, h2, h3⟩ := try_step hn1 hn hk h hm
    have h32 := h.regs
    have hi := h.look
    have hsk : (i + 1) * (n + 2) = i * (n + 2) + (n + 2) := Nat.succ_mul _ _
    have hle : s + 1 ≤ (i + 1) * (n + 2) := by rw [hsk]; rcases h.place with hr | hr <;> split at hs <;> omega
    rcases h.place with hr | ⟨hr1, hr2⟩
    · obtain ⟨d, _, e⟩ := h1 hr
      rw [e]
      subst hr
      have hg : (T.t.regs.set 0 d).getD 0 0 = d := getD_set_same d (by omega)
      rw [if_pos rfl] at hs
      by_cases ho : d % 2 = 1
      · simp only
        rw [try_odd hn hk hi _ _ (by rw [hg]; exact ho)]
        exact try_onward hn hk hi (by simp [h32]) _ hle
      · simp only
        rw [try_even hn hk hn1 hi _ _ (by rw [hg]; exact ho)]
        exact .inr ⟨i, 2, ⟨rfl, rfl, rfl, hi, .inr ⟨by omega, by omega⟩, by simp [h32]⟩, fun _ => by simp only; rw [hg]; exact ho, by rw [if_neg (by omega)]; omega⟩
    · rw [if_neg (by omega)] at hs
      by_cases hrn : r = n + 2
      · obtain ⟨d, _, e⟩ := h3 hrn
        rw [e]
        have hg : (T.t.regs.set 31 d).getD 31 0 = d := getD_set_same d (by omega)
        have hg0 : (T.t.regs.set 31 d).getD 0 0 = T.t.regs.getD 0 0 := getD_set_other d (by omega)
        by_cases ho : d = T.t.regs.getD 0 0
        · simp only
          rw [try_same hn hk hi _ _ (by rw [hg, hg0]; exact ho)]
          exact .inl ⟨rfl, .inr ⟨rfl, by simp only; rw [hg, hg0, ho], by simp only; rw [hg0]; exact hv hr1⟩⟩
        · simp only
          rw [try_other hn hk hi _ _ (by rw [hg, hg0]; exact ho)]
          exact try_onward hn hk hi (by simp [h32]) _ hle
      · obtain ⟨d, _, e⟩ := h2 hr1 (by omega)
        rw [e]
        clear h1 h2 h3
        refine .inr ⟨i, r + 1, ⟨rfl, rfl, rfl, hi, .inr ⟨by omega, by omega⟩, by simp [h32]⟩, fun _ => ?_, by rw [if_neg (by omega)]; omega⟩
        simp only
        rw [getD_set_other d (by omega)]
        exact hv hr1
theorem tryInv_all {b : Int} {n k s : Nat} (hn1 : 1 ≤ n) {T : FT} (h : TryInv b n k s T) (hs : s = k * (n + 2)) : T.t.done = true := by
  rcases h with ⟨h, _⟩ | ⟨i, r, h, hv, h2⟩
  · exact h
  · have hsk : (i + 1) * (n + 2) ≤ k * (n + 2) := Nat.mul_le_mul_right _ h.look
    rw [Nat.succ_mul] at hsk
    have := h.place
    split at h2 <;> omega
end Go.Proofs.Ytpkelneimjmmkaa

/- Plain laws of many tasks: steps of some of them. -/
namespace Go.Proofs.Ytpkelneimjmmkaa

def ft0 : FT := ⟨[], tsk0⟩
/-- Whom a pick names. -/
def pickAt (n : Nat) (p : Int) : Nat := (p % (n : Int)).toNat
theorem pickAt_lt {n : Nat} (h : 0 < n) (p : Int) : pickAt n p < n := by
  have h1 := Int.emod_lt_of_pos p (show (0 : Int) < (n : Int) by omega)
  unfold pickAt; omega
theorem pickAt_cast {n : Nat} (h : 0 < n) (p : Int) : (pickAt n p : Int) = p % (n : Int) := by
  have h1 := Int.emod_nonneg p (show (n : Int) ≠ 0 by omega)
  unfold pickAt; omega
theorem pick_tmod {n : Nat} (h : 0 < n) (p : Int) : -(n : Int) < p.tmod n ∧ p.tmod n < n ∧ (p.tmod n + n).tmod n = (pickAt n p : Int) ∧ (p.tmod n < 0 → p.tmod n + n = (pickAt n p : Int)) ∧ (¬ p.tmod n < 0 → p.tmod n = (pickAt n p : Int)) := by
  have h0 := Int.emod_nonneg p (show (n : Int) ≠ 0 by omega)
  have h1 := Int.emod_lt_of_pos p (show (0 : Int) < (n : Int) by omega)
  have hc := pickAt_cast h p
  have he : p.tmod (n : Int) = p % (n : Int) ∨ (p.tmod (n : Int) = p % (n : Int) - n ∧ p % (n : Int) ≠ 0) := by
    rw [Int.tmod_eq_emod]
    split
    · left; omega
    · rename_i hh
      right
      refine ⟨by omega, fun e => hh (.inr (Int.dvd_of_emod_eq_zero e))⟩
  have hneg : p.tmod (n : Int) = p % (n : Int) - n → p.tmod (n : Int) < 0 := fun e => by omega
  have hm : (p.tmod n + n).tmod n = p % (n : Int) := by
    rcases he with e | ⟨e, _⟩
    · rw [e, Int.tmod_eq_emod_of_nonneg (by omega), Int.add_emod_right]; exact Int.emod_eq_of_lt h0 h1
    · rw [e, show p % (n : Int) - (n : Int) + (n : Int) = p % (n : Int) by omega, Int.tmod_eq_emod_of_nonneg h0]; exact Int.emod_eq_of_lt h0 h1
  refine ⟨by omega, by omega, by omega, fun hn => by omega, fun hn => by omega⟩
/-- Steps of some of them. -/
def runT (l : List FT) (m : List Int) : List Int → List FT × List Int
  | [] => (l, m)
  | p :: ps => if l.length = 0 then (l, m) else
      runT (l.set (pickAt l.length p) (stepT (l.getD (pickAt l.length p) ft0) m).1) (stepT (l.getD (pickAt l.length p) ft0) m).2 ps
theorem runT_nil {l : List FT} (h : l.length = 0) (m ps : List Int) : runT l m ps = (l, m) := by
  cases ps with
  | nil => rfl
  | cons p ps => simp only [runT]; rw [if_pos h]
theorem runT_cons {l : List FT} (h : 0 < l.length) (m : List Int) (p : Int) (ps : List Int) :
    runT l m (p :: ps) = runT (l.set (pickAt l.length p) (stepT (l.getD (pickAt l.length p) ft0) m).1) (stepT (l.getD (pickAt l.length p) ft0) m).2 ps := by
  simp only [runT]; rw [if_neg (by omega)]
theorem runT_len (ps : List Int) : ∀ (l : List FT) (m : List Int), (runT l m ps).1.length = l.length := by
  induction ps with
  | nil => intro l m; rfl
  | cons p ps ih =>
    intro l m
    simp only [runT]
    split
    · rfl
    · rw [ih]; simp
/-- Whom no pick names stays. -/
theorem runT_stays (i : Nat) (ps : List Int) : ∀ (l : List FT) (m : List Int), (∀ p ∈ ps, pickAt l.length p ≠ i) → (runT l m ps).1.getD i ft0 = l.getD i ft0 := by
  induction ps with
  | nil => intro l m _; rfl
  | cons p ps ih =>
    intro l m h
    simp only [runT]
    split
    · rfl
    · rw [ih _ _ (fun q hq => by rw [List.length_set]; exact h q (by simp [hq]))]
      have hne := h p (by simp)
      rw [List.getD_eq_getElem?_getD, List.getElem?_set_ne hne, ← List.getD_eq_getElem?_getD]
/-- Picked alone. -/
theorem runT_alone (i : Nat) (ps : List Int) : ∀ (l : List FT) (m : List Int), i < l.length → m.length ≤ 256 → ps.length ≤ 1000 → (∀ p ∈ ps, pickAt l.length p = i) →
    (runT l m ps).1.getD i ft0 = (stepsN ps.length (l.getD i ft0) m).1 ∧ (runT l m ps).2 = (stepsN ps.length (l.getD i ft0) m).2.1 := by
  induction ps with
  | nil => intro l m _ _ _ _; exact ⟨rfl, rfl⟩
  | cons p ps ih =>
    intro l m hi hm hp h
    have hpi := h p (by simp)
    rw [runT_cons (by omega), hpi]
    have hlen : (stepT (l.getD i ft0) m).2.length = m.length := by rw [step_len, counts_id hm]
    have h2 := ih (l.set i (stepT (l.getD i ft0) m).1) (stepT (l.getD i ft0) m).2 (by simpa using hi) (by omega) (by simp at hp; omega) (fun q hq => by rw [List.length_set]; exact h q (by simp [hq]))
    have hg : (l.set i (stepT (l.getD i ft0) m).1).getD i ft0 = (stepT (l.getD i ft0) m).1 := by
      rw [List.getD_eq_getElem?_getD, List.getElem?_set_self hi]; rfl
    rw [hg] at h2
    rw [h2.1, h2.2, List.length_cons]
    by_cases hd : (l.getD i ft0).t.done = true
    · rw [step_still hd, counts_id hm, stepsN_done hd, stepsN_done hd]
      exact ⟨rfl, rfl⟩
    · rw [stepsN_succ (by simpa using hd)]
      exact ⟨rfl, rfl⟩
end Go.Proofs.Ytpkelneimjmmkaa

/- Plain laws of layer 15: what a write leaves; what a try comes to where nobody writes. -/
namespace Go.Proofs.Ytpkelneimjmmkaa

theorem writeL_len (b ver : Int) (ws : List Int) : (writeL b ver ws).length = ws.length + 3 := tab_len _ _
theorem writeL_at (b ver : Int) (ws : List Int) {q : Nat} (h : q < ws.length + 3) : (writeL b ver ws).getD q insn0 = writeI b ver ws q := tab_getD _ h
/-- What the memory has when so many words were laid. -/
def WP (b : Nat) (ver : Int) (ws : List Int) (q : Nat) (m : List Int) : Prop := (1 ≤ q → m.getD b 0 = ver + 1) ∧ ∀ j, j + 1 < q → j < ws.length → m.getD (b + 1 + j) 0 = ws.getD j 0
section
variable {b : Nat} {ver : Int} {ws : List Int}
theorem write_stay {q : Nat} (hq : q ≤ ws.length + 1) (regs : List Int) (a : Int) : rest (writeL b ver ws) ⟨(q : Int), regs, false, a⟩ = ⟨(q : Int), regs, false, a⟩ := by
  have hl := writeL_len b ver ws
  refine rest_at rfl (by simp only; omega) (by simp only; omega) ?_
  simp only [Int.toNat_natCast]
  rw [writeL_at _ _ _ (by omega)]
  unfold writeI
  split
  · simp
  · split
    · simp
    · rw [if_pos (by omega)]; simp
theorem access_put {m : List Int} {i : Nat} (h : i < m.length) (a : Int) : access m ⟨1, (i : Int), a, 0⟩ = (m.set i a, 0) := by
  unfold access
  rw [if_neg (by simp only; omega)]
  simp
theorem write_put (h1 : 1 ≤ ws.length) (h2 : ws.length ≤ 28) {m : List Int} (hm : m.length ≤ 256) (hb : b + ws.length < m.length) {q : Nat} (hq : q ≤ ws.length + 1) (regs : List Int) (a : Int) :
    stepT ⟨writeL b ver ws, ⟨(q : Int), regs, false, a⟩⟩ m =
      (⟨writeL b ver ws, rest (writeL b ver ws) ⟨((q + 1 : Nat) : Int), regs, false, a⟩⟩, if q = 0 then m.set b (ver + 1) else if q ≤ ws.length then m.set (b + q) (ws.getD (q - 1) 0) else m.set b (ver + 2)) := by
  have hl := writeL_len b ver ws
  have hx := writeL_at (b : Int) ver ws (q := q) (by omega)
  have hs := writeL_sane (b := (b : Int)) (ver := ver) h1 h2
  rw [stepT_at (x := writeI b ver ws q) hs rfl (by simp only; omega) (by simp only; omega) (by simp only [Int.toNat_natCast]; exact hx) (by unfold writeI; split; (· simp); split; (· simp); rw [if_pos (by omega)]; simp), counts_id hm]
  have hmv : ∀ x : Insn, x.k = 1 → ∀ d, moved ⟨(q : Int), regs, false, a⟩ x d = ⟨((q + 1 : Nat) : Int), regs, false, a⟩ := fun x hk d => by
    unfold moved
    rw [if_neg (by omega)]
    simp
  unfold writeI
  split
  · rename_i h0
    subst h0
    rw [hmv _ rfl]
    have : access m ⟨kind 1, (b : Int), ver + 1, 0⟩ = (m.set b (ver + 1), 0) := access_put (by omega) _
    simp only
    rw [this]
    all_goals simp
  · rename_i h0
    split
    · rename_i h3
      rw [hmv _ rfl]
      have : access m ⟨kind 1, (b : Int) + (q : Int), ws.getD (q - 1) 0, 0⟩ = (m.set (b + q) (ws.getD (q - 1) 0), 0) := by
        rw [show (b : Int) + (q : Int) = ((b + q : Nat) : Int) by push_cast; rfl]
        exact access_put (by omega) _
      simp only
      rw [this]
      all_goals simp [h0, h3]
    · rename_i h3
      rw [if_pos (by omega), hmv _ rfl]
      have : access m ⟨kind 1, (b : Int), ver + 2, 0⟩ = (m.set b (ver + 2), 0) := access_put (by omega) _
      simp only
      rw [this]
      all_goals simp [h0, h3]
theorem write_run (h1 : 1 ≤ ws.length) (h2 : ws.length ≤ 28) (d : Nat) : ∀ (q : Nat) (m : List Int), m.length ≤ 256 → b + ws.length < m.length → q + d ≤ ws.length + 1 → WP b ver ws q m →
    ∃ m2, stepsN d ⟨writeL b ver ws, ⟨(q : Int), zeros 32, false, 0⟩⟩ m = (⟨writeL b ver ws, ⟨((q + d : Nat) : Int), zeros 32, false, 0⟩⟩, m2, d) ∧ m2.length = m.length ∧ WP b ver ws (q + d) m2 := by
  induction d with
  | zero => intro q m _ _ _ hp; exact ⟨m, rfl, rfl, hp⟩
  | succ d ih =>
    intro q m hm hb hq hp
    have hst := write_put (ver := ver) h1 h2 hm hb (q := q) (by omega) (zeros 32) 0
    rw [write_stay (by omega)] at hst
    have key : ∀ m1 : List Int, m1.length = m.length → stepT ⟨writeL b ver ws, ⟨(q : Int), zeros 32, false, 0⟩⟩ m = (⟨writeL b ver ws, ⟨((q + 1 : Nat) : Int), zeros 32, false, 0⟩⟩, m1) → WP b ver ws (q + 1) m1 →
        ∃ m2, stepsN (d + 1) ⟨writeL b ver ws, ⟨(q : Int), zeros 32, false, 0⟩⟩ m = (⟨writeL b ver ws, ⟨((q + (d + 1) : Nat) : Int), zeros 32, false, 0⟩⟩, m2, d + 1) ∧ m2.length = m.length ∧ WP b ver ws (q + (d + 1)) m2 := by
      intro m1 hl1 he hw
      obtain ⟨m2, e2, l2, w2⟩ := ih (q + 1) m1 (by omega) (by omega) (by omega) hw
      refine ⟨m2, ?_, by omega, ?_⟩
      · rw [stepsN_succ rfl, he]
        simp only
        rw [e2, show q + 1 + d = q + (d + 1) by omega]
      · rw [show q + (d + 1) = q + 1 + d by omega]; exact w2
    by_cases h0 : q = 0
    · subst h0
      rw [if_pos rfl] at hst
      refine key _ (by simp) hst ⟨fun _ => getD_set_same _ (by omega), fun j hj => absurd hj (by omega)⟩
    · rw [if_neg h0, if_pos (by omega)] at hst
      refine key _ (by simp) hst ⟨fun _ => by rw [getD_set_other _ (by omega)]; exact hp.1 (by omega), fun j hj hjn => ?_⟩
      by_cases hje : j + 1 = q
      · subst hje
        rw [show b + 1 + j = b + (j + 1) by omega, getD_set_same _ (by omega)]
        simp
      · rw [getD_set_other _ (by omega)]
        exact hp.2 j (by omega) hjn
theorem write_start (h1 : 1 ≤ ws.length) (h2 : ws.length ≤ 28) : startT (writeL b ver ws) = ⟨writeL b ver ws, ⟨((0 : Nat) : Int), zeros 32, false, 0⟩⟩ := by
  have hs := writeL_sane (b := (b : Int)) (ver := ver) h1 h2
  have := write_stay (b := b) (ver := ver) (ws := ws) (q := 0) (by omega) (zeros 32) 0
  unfold startT
  rw [if_pos hs]
  congr 1
/-- A part of a write. -/
theorem write_part (h1 : 1 ≤ ws.length) (h2 : ws.length ≤ 28) {m : List Int} (hm : m.length ≤ 256) (hb : b + ws.length < m.length) {d : Nat} (hd1 : 1 ≤ d) (hd : d ≤ ws.length + 1) :
    (stepsT (startT (writeL b ver ws)) m (d : Int)).2.1.length = m.length ∧ (stepsT (startT (writeL b ver ws)) m (d : Int)).2.1.getD b 0 = ver + 1 := by
  obtain ⟨m2, e2, l2, w2⟩ := write_run (ver := ver) h1 h2 d 0 m hm hb (by omega) ⟨fun h => absurd h (by omega), fun j hj => absurd hj (by omega)⟩
  have e : stepsT (startT (writeL b ver ws)) m (d : Int) = stepsN d (startT (writeL b ver ws)) m := by
    unfold stepsT; rw [counts_id hm, show atMost (d : Int) = d by unfold atMost; omega]
  rw [e, write_start h1 h2, e2]
  exact ⟨l2, w2.1 (by omega)⟩
/-- A whole write. -/
theorem write_all (h1 : 1 ≤ ws.length) (h2 : ws.length ≤ 28) {m : List Int} (hm : m.length ≤ 256) (hb : b + ws.length < m.length) :
    let R := stepsT (startT (writeL b ver ws)) m 99
    R.1.t.done = true ∧ R.1.t.ans = 1 ∧ R.2.2 = ws.length + 2 ∧ R.2.1.length = m.length ∧ R.2.1.getD b 0 = ver + 2 ∧ ∀ j, j < ws.length → R.2.1.getD (b + 1 + j) 0 = ws.getD j 0 := by
  obtain ⟨m2, e2, l2, w2⟩ := write_run (ver := ver) h1 h2 (ws.length + 1) 0 m hm hb (by omega) ⟨fun h => absurd h (by omega), fun j hj => absurd hj (by omega)⟩
  have e : stepsT (startT (writeL b ver ws)) m 99 = stepsN ((ws.length + 1) + ((97 - ws.length) + 1)) (startT (writeL b ver ws)) m := by
    unfold stepsT; rw [counts_id hm, show (ws.length + 1) + ((97 - ws.length) + 1) = atMost 99 by unfold atMost; omega]
  have hput := write_put (b := b) (ver := ver) h1 h2 (m := m2) (by omega) (by omega) (q := ws.length + 1) (by omega) (zeros 32) 0
  rw [if_neg (by omega), if_neg (by omega)] at hput
  have hs := writeL_sane (b := (b : Int)) (ver := ver) h1 h2
  have hl := writeL_len b ver ws
  have hend : rest (writeL b ver ws) ⟨((ws.length + 1 + 1 : Nat) : Int), zeros 32, false, 0⟩ = ⟨((ws.length + 1 + 1 : Nat) : Int), zeros 32, true, 1⟩ := by
    refine rest_end (x := ⟨6, 0, 0, (ws.length : Int) + 3, 1⟩) hs rfl (by simp only; omega) (by simp only; omega) ?_ rfl
    simp only [Int.toNat_natCast]
    rw [writeL_at _ _ _ (by omega)]
    unfold writeI
    rw [if_neg (by omega), if_neg (by omega), if_neg (by omega)]
  rw [hend] at hput
  have e3 : stepsN ((97 - ws.length) + 1) ⟨writeL b ver ws, ⟨((0 + (ws.length + 1) : Nat) : Int), zeros 32, false, 0⟩⟩ m2 = (⟨writeL b ver ws, ⟨((ws.length + 1 + 1 : Nat) : Int), zeros 32, true, 1⟩⟩, m2.set b (ver + 2), 1) := by
    rw [stepsN_succ rfl, Nat.zero_add, hput]
    simp only
    rw [stepsN_done rfl]
  simp only
  rw [e, write_start h1 h2, stepsN_add, e2]
  simp only
  rw [e3]
  refine ⟨rfl, rfl, rfl, by simp [l2], getD_set_same _ (by omega), fun j hj => ?_⟩
  simp only
  rw [getD_set_other _ (by omega)]
  exact w2.2 j (by omega) hj
end

/-! ### a try where nobody writes -/
theorem access_get {m : List Int} {i : Nat} (h : i < m.length) (a c : Int) : (access m ⟨0, (i : Int), a, c⟩).2 = m.getD i 0 := by
  unfold access
  rw [if_neg (by simp only; omega)]
  simp
section
variable {b n k : Nat}
/-- In vain: whoever writes has begun. -/
theorem try_vain (hn1 : 1 ≤ n) (hn : n ≤ 28) (hk : k ≤ 6) {m : List Int} (hm : m.length ≤ 256) (hb : b < m.length) (ho : m.getD b 0 % 2 = 1) (d : Nat) : ∀ (i : Nat) (regs : List Int) (N : Nat), regs.length = 32 → i + (d + 1) = k → d + 1 ≤ N →
    (stepsN N ⟨tryL b n k, ⟨((i * (n + 4) + 0 : Nat) : Int), regs, false, 0⟩⟩ m).1.t.done = true ∧ (stepsN N ⟨tryL b n k, ⟨((i * (n + 4) + 0 : Nat) : Int), regs, false, 0⟩⟩ m).1.t.ans = 0 ∧
    (stepsN N ⟨tryL b n k, ⟨((i * (n + 4) + 0 : Nat) : Int), regs, false, 0⟩⟩ m).2.2 = d + 1 := by
  induction d with
  | zero =>
    intro i regs N hr hi hN
    obtain ⟨N, rfl⟩ : ∃ p, N = p + 1 := ⟨N - 1, by omega⟩
    obtain ⟨x, hx, e⟩ := (try_step (b := (b : Int)) hn1 hn hk (T := ⟨tryL b n k, ⟨((i * (n + 4) + 0 : Nat) : Int), regs, false, 0⟩⟩) (i := i) (r := 0) ⟨rfl, rfl, rfl, by omega, .inl rfl, hr⟩ hm).1 rfl
    rw [access_get hb] at hx
    rw [stepsN_succ rfl, e]
    simp only
    rw [try_odd hn hk (by omega) _ _ (by rw [getD_set_same _ (by omega), hx]; exact ho), hi, try_none hn hk, stepsN_done rfl]
    exact ⟨rfl, rfl, rfl⟩
  | succ d ih =>
    intro i regs N hr hi hN
    obtain ⟨N, rfl⟩ : ∃ p, N = p + 1 := ⟨N - 1, by omega⟩
    obtain ⟨x, hx, e⟩ := (try_step (b := (b : Int)) hn1 hn hk (T := ⟨tryL b n k, ⟨((i * (n + 4) + 0 : Nat) : Int), regs, false, 0⟩⟩) (i := i) (r := 0) ⟨rfl, rfl, rfl, by omega, .inl rfl, hr⟩ hm).1 rfl
    rw [access_get hb] at hx
    rw [stepsN_succ rfl, e]
    simp only
    rw [try_odd hn hk (by omega) _ _ (by rw [getD_set_same _ (by omega), hx]; exact ho)]
    have hst := try_stay (b := (b : Int)) (n := n) (k := k) (i := i + 1) (r := 0) (by omega) (.inl rfl) (regs.set 0 x) 0
    rw [Nat.add_zero] at hst
    rw [hst]
    obtain ⟨r1, r2, r3⟩ := ih (i + 1) (regs.set 0 x) N (by simp [hr]) (by omega) (by omega)
    rw [Nat.add_zero] at r1 r2 r3
    exact ⟨r1, r2, by rw [r3]⟩
/-- What has been read, from a place of a look on. -/
theorem try_read (hn1 : 1 ≤ n) (hn : n ≤ 28) (hk : k ≤ 6) {m : List Int} (hm : m.length ≤ 256) (hb : b + n < m.length) {i : Nat} (hi : i < k) (d : Nat) : ∀ (r : Nat) (regs : List Int) (N : Nat), regs.length = 32 → r + d = n + 2 → 2 ≤ r → d + 1 ≤ N →
    regs.getD 0 0 = m.getD b 0 → (∀ j, j + 2 < r → regs.getD (1 + j) 0 = m.getD (b + 1 + j) 0) →
    let R := stepsN N ⟨tryL b n k, ⟨((i * (n + 4) + r : Nat) : Int), regs, false, 0⟩⟩ m
    R.1.t.done = true ∧ R.1.t.ans = 1 ∧ R.2.2 = d + 1 ∧ R.1.t.regs.getD 0 0 = m.getD b 0 ∧ R.1.t.regs.length = 32 ∧ ∀ j, j < n → R.1.t.regs.getD (1 + j) 0 = m.getD (b + 1 + j) 0 := by
  induction d with
  | zero =>
    intro r regs N hr hrd hr2 hN h0 hw
    obtain ⟨N, rfl⟩ : ∃ p, N = p + 1 := ⟨N - 1, by omega⟩
    obtain ⟨x, hx, e⟩ := (try_step (b := (b : Int)) hn1 hn hk (T := ⟨tryL b n k, ⟨((i * (n + 4) + r : Nat) : Int), regs, false, 0⟩⟩) (i := i) (r := r) ⟨rfl, rfl, rfl, hi, .inr ⟨hr2, by omega⟩, hr⟩ hm).2.2 (by omega)
    rw [access_get (by omega)] at hx
    have g31 : (regs.set 31 x).getD 31 0 = x := getD_set_same _ (by omega)
    have g0 : (regs.set 31 x).getD 0 0 = m.getD b 0 := by rw [getD_set_other _ (by omega)]; exact h0
    simp only
    rw [stepsN_succ rfl, e]
    simp only
    rw [try_same hn hk hi _ _ (by rw [g31, g0]; exact hx), stepsN_done rfl]
    refine ⟨rfl, rfl, rfl, g0, by simp [hr], fun j hj => ?_⟩
    simp only
    rw [getD_set_other _ (by omega)]
    exact hw j (by omega)
  | succ d ih =>
    intro r regs N hr hrd hr2 hN h0 hw
    obtain ⟨N, rfl⟩ : ∃ p, N = p + 1 := ⟨N - 1, by omega⟩
    obtain ⟨x, hx, e⟩ := (try_step (b := (b : Int)) hn1 hn hk (T := ⟨tryL b n k, ⟨((i * (n + 4) + r : Nat) : Int), regs, false, 0⟩⟩) (i := i) (r := r) ⟨rfl, rfl, rfl, hi, .inr ⟨hr2, by omega⟩, hr⟩ hm).2.1 hr2 (by omega)
    rw [show (b : Int) + ((r : Int) - 1) = ((b + (r - 1) : Nat) : Int) by omega, access_get (by omega)] at hx
    have hrec := ih (r + 1) (regs.set (r - 1) x) N (by simp [hr]) (by omega) (by omega) (by omega) (by rw [getD_set_other _ (by omega)]; exact h0) (fun j hj => by
      by_cases hje : 1 + j = r - 1
      · rw [hje, getD_set_same _ (by omega), hx, show b + (r - 1) = b + 1 + j by omega]
      · rw [getD_set_other _ (by omega)]
        exact hw j (by omega))
    simp only at hrec ⊢
    rw [stepsN_succ rfl, e]
    obtain ⟨r1, r2, r3, r4, r5, r6⟩ := hrec
    exact ⟨r1, r2, by simp only; omega, r4, r5, r6⟩
/-- Where nobody writes a look is enough. -/
theorem try_once (hn1 : 1 ≤ n) (hn : n ≤ 28) (hk1 : 1 ≤ k) (hk : k ≤ 6) {m : List Int} (hm : m.length ≤ 256) (hb : b + n < m.length) (ho : ¬ m.getD b 0 % 2 = 1) :
    let R := stepsT (startT (tryL b n k)) m 999
    R.1.t.done = true ∧ R.1.t.ans = 1 ∧ R.2.2 = n + 2 ∧ R.1.t.regs.getD 0 0 = m.getD b 0 ∧ R.1.t.regs.length = 32 ∧ ∀ j, j < n → R.1.t.regs.getD (1 + j) 0 = m.getD (b + 1 + j) 0 := by
  obtain ⟨N, hN⟩ : ∃ N : Nat, N + 1 = atMost 999 ∧ 29 ≤ N ∧ N ≤ 2000 := ⟨998, by unfold atMost; omega, by omega, by omega⟩
  have e : stepsT (startT (tryL b n k)) m 999 = stepsN (N + 1) (startT (tryL b n k)) m := by
    unfold stepsT; rw [counts_id hm, hN.1]
  have h0 : startT (tryL (b : Int) n k) = ⟨tryL b n k, ⟨((0 * (n + 4) + 0 : Nat) : Int), zeros 32, false, 0⟩⟩ := by
    rw [try_start hn hk1 hk]; simp [tsk0]
  obtain ⟨x, hx, e1⟩ := (try_step (b := (b : Int)) hn1 hn hk (T := ⟨tryL b n k, ⟨((0 * (n + 4) + 0 : Nat) : Int), zeros 32, false, 0⟩⟩) (i := 0) (r := 0) ⟨rfl, rfl, rfl, by omega, .inl rfl, zeros_len 32⟩ hm).1 rfl
  rw [access_get (by omega)] at hx
  have g0 : ((zeros 32).set 0 x).getD 0 0 = x := getD_set_same _ (by simp [zeros])
  rw [try_even hn hk hn1 (by omega) _ _ (by rw [g0, hx]; exact ho)] at e1
  have hrec := try_read (k := k) hn1 hn hk hm hb (i := 0) (by omega) n 2 ((zeros 32).set 0 x) N (by simp [zeros]) (by omega) (by omega) (by omega) (by rw [g0, hx]) (fun j hj => absurd hj (by omega))
  simp only at hrec ⊢
  rw [e, h0, stepsN_succ rfl, e1]
  obtain ⟨r1, r2, r3, r4, r5, r6⟩ := hrec
  exact ⟨r1, r2, by simp only; omega, r4, r5, r6⟩
theorem try_vain_all (hn1 : 1 ≤ n) (hn : n ≤ 28) (hk1 : 1 ≤ k) (hk : k ≤ 6) {m : List Int} (hm : m.length ≤ 256) (hb : b < m.length) (ho : m.getD b 0 % 2 = 1) :
    let R := stepsT (startT (tryL b n k)) m 999
    R.1.t.done = true ∧ R.1.t.ans = 0 ∧ R.2.2 = k := by
  have e : stepsT (startT (tryL b n k)) m 999 = stepsN 999 (startT (tryL b n k)) m := by
    unfold stepsT; rw [counts_id hm, show 999 = atMost 999 by unfold atMost; omega]
  have h0 : startT (tryL (b : Int) n k) = ⟨tryL b n k, ⟨((0 * (n + 4) + 0 : Nat) : Int), zeros 32, false, 0⟩⟩ := by
    rw [try_start hn hk1 hk]; simp [tsk0]
  have := try_vain (b := b) hn1 hn hk hm hb ho (k - 1) 0 (zeros 32) 999 (zeros_len 32) (by omega) (by omega)
  simp only
  rw [e, h0]
  exact ⟨this.1, this.2.1, by rw [this.2.2]; omega⟩
end
end Go.Proofs.Ytpkelneimjmmkaa

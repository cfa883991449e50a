/- Words for a play: memory where only some blocks may be written, and what stays in the others. -/
import Derived.Test.YtpkelneimjmmkaaTaskN
import Derived.Test.YtpkelneimjmmkaaSeqB
namespace Go.Proofs.Ytpkelneimjmmkaa
open Go.RowKit

theorem take_at {P : Program} {md : Region.Mode} {ops : Array Oper} {Q : Exit → Act → World → Prop} {S : World → Prop} {i d : Nat} {oi : Oper} {v : Value} {fuel : Nat} {listed : Array Bool} {tmps : Array Value} {ds : List Deferred} {w : World} (hi : ops[i]? = some oi) (hd : oi.dst = some d)
    (hs : Region.noSelect ops = true) (hf : Region.free md ops listed i = true) (hr : (Region.ready md ops listed).contains i = true)
    (hQ : ∀ c a w, Q (.panic c) (a.put oi.dst v) w → Q (.panic c) a w) (hy : YieldsIf P ops S oi v ⟨tmps, ds⟩) (hS : S w)
    (h : wpAnyH P md ops Q S fuel (listed.setIfInBounds i true) ⟨tmps.setIfInBounds d v, ds⟩ w) : wpAnyH P md ops Q S (fuel + 1) listed ⟨tmps, ds⟩ w :=
  wpAnyH_take hi hs hf hr hQ hy hS (by rw [hd]; exact h)
theorem any_at {P : Program} {md : Region.Mode} {ops : Array Oper} {Q : Exit → Act → World → Prop} {S : World → Prop} {fuel : Nat} {listed : Array Bool} {a : Act} {w : World} (h : ∀ W0, W0 = w → wpAnyH P md ops Q S fuel listed a W0) : wpAnyH P md ops Q S fuel listed a w := h w rfl

/-- From one world to a later one, where no block but those of X was written. -/
structure Chg (X : Nat → Prop) (w w' : World) : Prop where
  os : w'.os = w.os
  tape : w'.tape = w.tape
  output : w'.output = w.output
  size : w.heap.size ≤ w'.heap.size
  block : ∀ k, k < w.heap.size → ¬ X k → w'.heap[k]? = w.heap[k]?
section
variable {X : Nat → Prop} {w w' w'' : World}
theorem Chg.refl (X : Nat → Prop) (w : World) : Chg X w w := ⟨rfl, rfl, rfl, Nat.le_refl _, fun _ _ _ => rfl⟩
theorem Chg.of (h : Below w.heap.size w w') : Chg X w w' := ⟨h.os, h.tape, h.output, h.size, fun k hk _ => h.block k hk⟩
theorem Chg.trans (h : Chg X w w') (h' : Chg X w' w'') : Chg X w w'' :=
  ⟨h'.os.trans h.os, h'.tape.trans h.tape, h'.output.trans h.output, Nat.le_trans h.size h'.size, fun k hk hx => (h'.block k (Nat.lt_of_lt_of_le hk h.size) hx).trans (h.block k hk hx)⟩
theorem Chg.drew (h : Chg X w w') : Chg X w w'.drew := ⟨h.os, h.tape, h.output, h.size, h.block⟩
theorem Chg.setCell {p : Addr} (h : X p.block) (u : Value) : Chg X w (w.setCell p u) :=
  ⟨rfl, rfl, rfl, by simp, fun k _ hx => Below.heap_setCell w p u k (fun e => hx (e ▸ h))⟩
theorem Chg.setCells {g : Nat} (h : X g) (o : Nat) (vs : List Value) : Chg X w (w.setCells g o vs) := by
  have hg := grown_setCells g vs o w
  exact ⟨hg.os, hg.tape, hg.output, hg.size, fun k hk hx => hg.block k hk (fun e => by injection e with e; exact hx (e ▸ h))⟩
theorem Chg.grown {row : Option Nat} (h : w.grownBy w' row) (hr : ∀ k, row = some k → X k) : Chg X w w' :=
  ⟨h.os, h.tape, h.output, h.size, fun k hk hx => h.block k hk (fun e => hx (hr k e.symm))⟩
theorem Chg.below {B : Nat} {a : World} (h : Chg X w w') (ha : Below B a w) (hB : B ≤ a.heap.size) (hX : ∀ k, X k → B ≤ k) : Below B a w' :=
  ⟨h.os.trans ha.os, h.tape.trans ha.tape, h.output.trans ha.output, Nat.le_trans ha.size h.size, fun k hk =>
    (h.block k (Nat.lt_of_lt_of_le hk (Nat.le_trans hB ha.size)) (fun hx => by have := hX k hx; omega)).trans (ha.block k hk)⟩
theorem Chg.mono {Y : Nat → Prop} (h : Chg X w w') (hX : ∀ k, k < w.heap.size → X k → Y k) : Chg Y w w' :=
  ⟨h.os, h.tape, h.output, h.size, fun k hk hy => h.block k hk (fun hx => hy (hX k hk hx))⟩
theorem Box.chg {g : Nat} {t : TypeId} {cs : Array Value} (hb : Box w g t cs) (h : Chg X w w') (hg : ¬ X g) : Box w' g t cs := (h.block g hb.lt hg).trans hb

/-- The row of a slice value lies in none of these blocks. -/
def Off (X : Nat → Prop) (v : Value) : Prop := ∀ k, v.ownBlock = some k → ¬ X k
theorem row_chg {base : Nat} {e : TypeId} {sz n : Nat} {v : Value} {xs : List Value} (hr : w.ownsRow base e sz v n xs) (h : Chg X w w') (ho : Off X v) : w'.ownsRow base e sz v n xs := by
  obtain ⟨h1, h2⟩ := hr
  refine ⟨h1, ?_⟩
  rcases h2 with h2 | ⟨g', cap, cur, rfl, hg', hh, r⟩
  · exact .inl h2
  · exact .inr ⟨g', cap, cur, rfl, hg', (h.block g' (Array.getElem?_eq_some_iff.1 hh).1 (ho g' rfl)).trans hh, r⟩
theorem row_base {base base' : Nat} {e : TypeId} {sz n : Nat} {v : Value} {xs : List Value} (hr : w.ownsRow base e sz v n xs) (hb : base' ≤ base) : w.ownsRow base' e sz v n xs := by
  obtain ⟨h1, h2⟩ := hr
  refine ⟨h1, ?_⟩
  rcases h2 with h2 | ⟨g', cap, cur, rfl, hg', r⟩
  · exact .inl h2
  · exact .inr ⟨g', cap, cur, rfl, by omega, r⟩
/-- What is new lies off. -/
theorem off_new {base : Nat} {e : TypeId} {sz n : Nat} {v : Value} {xs : List Value} (hr : w.ownsRow base e sz v n xs) (hX : ∀ k, X k → k < base) : Off X v := fun k hk hx => by
  have := hr.lt k hk
  have := hX k hx
  omega

/-- Words off these blocks. -/
def OffW (X : Nat → Prop) (w : World) (v : Value) (ms : List Int) : Prop := Own w 0 v ms ∧ Off X v
theorem OffW.words {v : Value} {ms : List Int} (h : OffW X w v ms) : Words w v ms := h.1.words
theorem OffW.chg {v : Value} {ms : List Int} (h : OffW X w v ms) (hc : Chg X w w') : OffW X w' v ms := ⟨⟨row_chg h.1.1 hc h.2, h.1.2⟩, h.2⟩
theorem OffW.new {base : Nat} {v : Value} {ms : List Int} (h : Own w base v ms) (hX : ∀ k, X k → k < base) : OffW X w v ms := ⟨⟨row_base h.1 (Nat.zero_le _), h.2⟩, off_new h.1 hX⟩
/-- A task whose instructions lie off these blocks. -/
def OffT (X : Nat → Prop) (w : World) (cl : List Value) (T : FT) : Prop := ∃ cv code, OwnI w 0 cv code ∧ Off X cv ∧ ∀ W, Inss W cv code → IsTask W (.agg cl.toArray) T
theorem OffT.task {cl : List Value} {T : FT} (h : OffT X w cl T) : IsTask w (.agg cl.toArray) T := by
  obtain ⟨cv, code, h1, h2, h3⟩ := h
  exact h3 w h1.inss
theorem OffT.chg {cl : List Value} {T : FT} (h : OffT X w cl T) (hc : Chg X w w') : OffT X w' cl T := by
  obtain ⟨cv, code, h1, h2, h3⟩ := h
  exact ⟨cv, code, ⟨row_chg h1.1 hc h2, h1.2⟩, h2, h3⟩
theorem OffT.step {cl cl' : List Value} {T T' : FT} (h : OffT X w cl T) (hs : ∀ W, IsTask W (.agg cl.toArray) T → IsTask W (.agg cl'.toArray) T') : OffT X w cl' T' := by
  obtain ⟨cv, code, h1, h2, h3⟩ := h
  exact ⟨cv, code, h1, h2, fun W hW => hs W (h3 W hW)⟩
theorem OffT.size {cl : List Value} {T : FT} (h : OffT X w cl T) : cl.length = 36 ∧ cl.toArray.all (·.oneCell') = true ∧ cl[34]? = some (.bool T.t.done) ∧ cl[35]? = some (.int .i64 T.t.ans) := by
  obtain ⟨C, he, h1, h2, h3, h4⟩ := h.task.parts
  obtain rfl : cl.toArray = C := by injection he
  exact ⟨by simpa using h1, h2, by simpa using h3, by simpa using h4⟩
/-- A program that was begun. -/
theorem OffT.start {base : Nat} {cv : Value} {code : List Insn} {C : Array Value} (h : OwnI w base cv code) (hX : ∀ k, X k → k < base) (hC : C = tcells (startCv code cv) (startT code).t) :
    OffT X w C.toList (startT code) := by
  refine ⟨cv, code, ⟨row_base h.1 (Nat.zero_le _), h.2⟩, off_new h.1 hX, fun W hW => ?_⟩
  subst hC
  have := isTask_of hW (Below.refl _ W)
  simpa using this
theorem OffT.mono {Y : Nat → Prop} {cl : List Value} {T : FT} (h : OffT X w cl T) (hY : ∀ k, k < w.heap.size → Y k → X k) : OffT Y w cl T := by
  obtain ⟨cv, code, h1, h2, h3⟩ := h
  exact ⟨cv, code, h1, fun k hk hy => h2 k hk (hY k (h1.1.lt k hk).2 hy), h3⟩
theorem OffW.mono {Y : Nat → Prop} {v : Value} {ms : List Int} (h : OffW X w v ms) (hY : ∀ k, k < w.heap.size → Y k → X k) : OffW Y w v ms :=
  ⟨h.1, fun k hk hy => h.2 k hk (hY k (h.1.1.lt k hk).2 hy)⟩

theorem OffW.move {Y : Nat → Prop} {v : Value} {ms : List Int} (h : OffW X w v ms) (hc : Chg X w w') (hY : ∀ k, k < w.heap.size → Y k → X k) : OffW Y w' v ms := ⟨(h.chg hc).1, (h.mono hY).2⟩

/-- Cells in the middle of a block are written anew. -/
theorem Box.midSet {g o : Nat} {t : TypeId} {A B C vs : List Value} (h : Box w g t (A ++ B ++ C).toArray) (ho : A.length = o) (hl : B.length = vs.length) :
    Box (w.setCells g o vs) g t (A ++ vs ++ C).toArray := by
  subst ho
  obtain ⟨cur', h1, h2, h3⟩ := setCells_heap vs A.length _ h (by simp; omega)
  have e : cur' = (A ++ vs ++ C).toArray := by
    apply Array.ext_getElem?
    intro j
    rw [h3 j]
    simp only [List.getElem?_toArray, List.getElem?_append, List.length_append]
    by_cases h1 : j < A.length
    · rw [if_neg (by omega), if_pos (by omega), if_pos h1, if_pos (by omega), if_pos h1]
    · by_cases h2 : j < A.length + vs.length
      · rw [if_pos (by omega), if_pos (by omega), if_neg h1]
      · rw [if_neg (by omega), if_neg (by omega), if_neg (by omega), hl]
  rw [← e]
  exact h1
theorem Box.midRange {g o : Nat} {t : TypeId} {A B C : List Value} (h : Box w g t (A ++ B ++ C).toArray) (ho : A.length = o) : w.rangeAt g o B := fun j v hv => by
  subst ho
  rw [h.cell]
  have hj : j < B.length := (List.getElem?_eq_some_iff.1 hv).1
  simp only [List.getElem?_toArray]
  rw [List.getElem?_append_left (by simp; omega), List.getElem?_append_right (by omega)]
  simpa using hv
theorem Box.midThere {g o n : Nat} {t : TypeId} {cs : Array Value} (h : Box w g t cs) (hn : o + n ≤ cs.size) : w.there g o n := fun j hj =>
  ⟨by rw [h.cell, Array.getElem?_eq_getElem (by omega)]; rfl, h.frozen _⟩
end

/-! ### what 'build' lays -/
theorem put_fold (off : Nat) : ∀ (vs : List Value) (k : Nat) (A B C : List Value), A.length = off + k → B.length = vs.length →
    (vs.zipIdx k).foldl (fun (cs : Array Value) (x : Value × Nat) => match x with | (c, j) => cs.setIfInBounds (off + j) c) (A ++ B ++ C).toArray = (A ++ vs ++ C).toArray := by
  intro vs
  induction vs with
  | nil => intro k A B C hA hB; obtain rfl : B = [] := List.eq_nil_of_length_eq_zero hB; rfl
  | cons v vs ih =>
    intro k A B C hA hB
    obtain ⟨b, B, rfl⟩ : ∃ b B', B = b :: B' := by cases B with
      | nil => simp at hB
      | cons b B => exact ⟨b, B, rfl⟩
    have h := ih (k + 1) (A ++ [v]) B C (by simp; omega) (by simpa using hB)
    simp only [List.zipIdx_cons, List.foldl_cons]
    have e : ((A ++ b :: B ++ C).toArray.setIfInBounds (off + k) v) = (A ++ [v] ++ B ++ C).toArray := by
      rw [List.setIfInBounds_toArray]
      congr 1
      rw [List.append_assoc, List.set_append_right _ _ (by omega), hA]
      simp
    rw [e, h]
    simp
theorem put_mid {off : Nat} {A B C vs : List Value} (ho : A.length = off) (hl : B.length = vs.length) :
    (vs.toArray.zipIdx.foldl (fun (cs : Array Value) (x : Value × Nat) => match x with | (c, j) => cs.setIfInBounds (off + j) c) (A ++ B ++ C).toArray) = (A ++ vs ++ C).toArray := by
  rw [← Array.foldl_toList, Array.toList_zipIdx]
  exact put_fold off vs 0 A B C (by omega) hl
/-- A part of 'build' that is laid into the middle. -/
theorem fill_mid {place : Nat → Option (Nat × Nat)} {i off n : Nat} {v : Value} {vs : List Value} {rest : List (Nat × Value)} (hp : place i = some (off, n)) (hv : v.cells = vs.toArray) (hn : vs.length = n) (A B C : List Value) (ho : A.length = off) (hl : B.length = n) :
    Instr.fill place (A ++ B ++ C).toArray ((i, v) :: rest) = Instr.fill place (A ++ vs ++ C).toArray rest := by
  simp only [Instr.fill, hp, hv]
  rw [if_neg (by simp; omega)]
  congr 1
  exact put_mid ho (by omega)
/-- 'build' of a struct: its places, its zero. -/
theorem run_build {P : Program} {t : TypeId} {fs : Array Field} {PL : Array (Nat × Nat)} {Z X : Array Value} {parts : Array (Nat × Value)} {w : World} (hz : (zeroValue t).run P w = .ok (.agg Z) w) (h2 : P.underlying t = some (.struct fs))
    (h3 : (fs.mapM fun (f : Field) => do pure (f.offset, ← sizeOf f.type) : Sem (Array (Nat × Nat))).run P w = .ok PL w) (h : Instr.fill (PL[·]?) Z parts.toList = some X) : (Instr.build t parts).run P w = .ok (.agg X) w := by
  unfold Instr.build
  simp only [Sem.run_bind, hz, run_underlying h2, h3, Result.andThen_ok]
  show Sem.run _ (match Instr.fill (fun x => PL[x]?) Z parts.toList with | some cells => _ | x => _) w = _
  rw [h]
  rfl
/-- Where the walk stops at a 'build', and goes on from what it lays. -/
def AtBuild (P : Program) (ops : Array Oper) (Q : Exit → Act → World → Prop) (rest : List Oper) (o : Oper) (t : TypeId) (parts : Array (Nat × Operand)) (a : Act) (w : World) : Prop :=
  ∃ v, (Instr.build t (parts.map fun (i, x) => (i, a.eval x))).run P w = .ok v w ∧ wpList P ops Q rest (a.put o.dst v) w
theorem build_stop {P : Program} {w : World} {ops : Array Oper} {rest : List Oper} {o : Oper} {a : Act} {Q : Exit → Act → World → Prop} (t : TypeId) (parts : Array (Nat × Operand)) (hgd : o.guard = none) (ho : o.op = .build t parts)
    (h : AtBuild P ops Q rest o t parts a w) : wpList P ops Q (o :: rest) a w := by
  obtain ⟨v, h1, h2⟩ := h
  refine wpList_plain hgd fun K hK => ?_
  unfold Oper.wp execOp
  simp only [ho, Sem.run_bind, h1, Result.andThen_ok, Sem.run_pure]
  exact hK _ _ h2
theorem AtBuild.go {P : Program} {ops : Array Oper} {Q : Exit → Act → World → Prop} {rest : List Oper} {o : Oper} {t : TypeId} {parts : Array (Nat × Operand)} {a : Act} {w : World} (v : Value) (hr : (Instr.build t (parts.map fun (i, x) => (i, a.eval x))).run P w = .ok v w)
    (h : wpList P ops Q rest (a.put o.dst v) w) : AtBuild P ops Q rest o t parts a w := ⟨v, hr, h⟩
theorem row_form {w : World} {base : Nat} {e : TypeId} {sz n : Nat} {v : Value} {xs : List Value} (h : w.ownsRow base e sz v n xs) : ∃ A cp, v = .slice A n cp ∧ n ≤ cp ∧ cp ≤ maxLen := by
  rcases h.2 with ⟨rfl, rfl⟩ | ⟨g, cap, cur, rfl, _, _, h1, h2, _⟩
  · exact ⟨none, 0, rfl, Nat.le_refl _, Nat.zero_le _⟩
  · exact ⟨_, cap, rfl, h1, h2⟩
theorem own_setCells_off {w : World} {base : Nat} {v : Value} {ms : List Int} (h : Own w base v ms) {g : Nat} (hg : ∀ k, v.ownBlock = some k → k ≠ g) (o : Nat) (cs : List Value) : Own (w.setCells g o cs) base v ms :=
  ⟨row_chg h.1 (Chg.setCells (X := (· = g)) rfl o cs) (fun k hk e => hg k hk e), h.2⟩
/-- What a step leaves, in a block and a slice of its own. -/
structure Aft (X : Nat → Prop) (w w' : World) (g : Nat) (cl : List Value) (v : Value) (T : FT) (m : List Int) : Prop where
  box : Box w' g 42 cl.toArray
  len : cl.length = 36
  one : cl.toArray.all (·.oneCell') = true
  task : OffT X w' cl T
  mem : OffW X w' v m
  below : Below w.heap.size w w'
  new : w.heap.size ≤ g
end Go.Proofs.Ytpkelneimjmmkaa

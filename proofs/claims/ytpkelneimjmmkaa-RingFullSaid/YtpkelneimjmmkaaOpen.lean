/- How arguments that came in are opened: a slice that can be read as data reads as a list, element by element. -/
import Derived.Test.YtpkelneimjmmkaaCellF
import Derived.Test.YtpkelneimjmmkaaChecked
import Derived.ProofKit
import Derived.OpenShut
import Derived.ShutString
import Derived.ChangeOld
import Derived.Deep.Slices
import Derived.Deep.Fields
import Derived.ChangeSame
import Derived.Lib.SmallJoins
namespace Go.Proofs.Ytpkelneimjmmkaa
open Go.RowKit Go.ChangeShapes Go.WideShapes Go.Deep

theorem own : ownKnob Try.prog.godebug = none := by kernel_rfl
theorem laidOut : laidOutB Try.prog = true := by kernel_rfl

section
variable {H : Type} {enc : TypeId × Value → H} {P : Program} {w : World} {base : Nat} {held : Bool}

theorem flat_len {α : Type} (f : α → List Value) (C : Nat) (l : List α) (hf : ∀ x ∈ l, (f x).length = C) : (l.flatMap f).length = l.length * C := by
  induction l with
  | nil => simp
  | cons x l ih => rw [List.flatMap_cons, List.length_append, ih (fun y hy => hf y (by simp [hy])), hf x (by simp), List.length_cons, Nat.add_mul]; omega
theorem flat_range {α : Type} (f : α → List Value) (C n : Nat) (F : Nat → α) (hf : ∀ i, (f (F i)).length = C) (hC : 0 < C) (j : Nat) (u : Value) (h : (((List.range n).map F).flatMap f)[j]? = some u) :
    j / C < n ∧ (f (F (j / C)))[j % C]? = some u := by
  have hl : (((List.range n).map F).flatMap f).length = n * C := by
    rw [flat_len f C _ (by intro x hx; simp at hx; obtain ⟨i, _, rfl⟩ := hx; exact hf i)]; simp
  have hj : j < n * C := by rw [← hl]; exact (List.getElem?_eq_some_iff.1 h).1
  have hq : j / C < n := Nat.div_lt_of_lt_mul (by rw [Nat.mul_comm]; exact hj)
  have hr : j % C < C := Nat.mod_lt _ hC
  refine ⟨hq, ?_⟩
  have hg := flat_get f C ((List.range n).map F) (by intro x hx; simp at hx; obtain ⟨i, _, rfl⟩ := hx; exact hf i) (j / C) (j % C) (by simpa using hq) hr
  rw [Nat.mul_comm, Nat.div_add_mod] at hg
  rw [hg] at h
  simpa using h

/-- A slice that came in reads as a list, whatever its elements are. -/
theorem open_sl {α : Type} (f : α → List Value) (ok : α → Prop) (C : Nat) {t e : TypeId} {fuel : Nat} {v : Value} {x : DataW H × List MemPlace}
    (ht : P.underlying t = some (.slice e)) (hC : P.cellsOf e = C) (hC0 : 0 < C) (hf : ∀ x, (f x).length = C)
    (hel : ∀ n cs y, DataW.trod enc P w base (fun _ => true) held n e cs = some y → ∃ x, cs = f x ∧ ok x)
    (h : DataW.trod enc P w base (fun _ => true) held fuel t [v] = some x) :
    ∃ l : List α, Sl w v C l.length (l.flatMap f) ∧ ∀ x ∈ l, ok x := by
  rcases open_slice ht h with ⟨h0, _⟩ | ⟨a, len, cap, m, n, D, Pl, hcs, hb, hl, hm, hmm, hx, hi⟩
  · injection h0 with h0
    subst h0
    exact ⟨[], Sl.nil w C, by simp⟩
  · injection hcs with hcs
    subst hcs
    simp only [if_true] at hmm
    have hex : ∀ i, i < m → ∃ x, (∀ j u, (f x)[j]? = some u → w.cell? ((a.add (i * C)).add j) = some u) ∧ ok x := by
      intro i him
      obtain ⟨cs', hc, ht'⟩ := hi i him
      rw [hC] at hc
      obtain ⟨_, hcl, hat⟩ := World.cells?_some hc
      obtain ⟨x, rfl, hx⟩ := hel _ _ _ ht'
      exact ⟨x, fun j u hu => by rw [hat j (by have := (List.getElem?_eq_some_iff.1 hu).1; omega), hu], hx⟩
    by_cases hn : len = 0
    · subst hn
      exact ⟨[], ⟨by simp, some a, cap, rfl, by simp, hm, (fun e => by cases e), fun h => absurd h (by simp)⟩, by simp⟩
    · have h0 : 0 < m := by omega
      obtain ⟨x0, _⟩ := hex 0 h0
      have hch : ∃ F : Nat → α, ∀ i, i < m → (∀ j u, (f (F i))[j]? = some u → w.cell? ((a.add (i * C)).add j) = some u) ∧ ok (F i) :=
        ⟨fun i => if hi : i < m then (hex i hi).choose else x0, fun i hi => by simp only [hi, dif_pos]; exact (hex i hi).choose_spec⟩
      obtain ⟨F, hF⟩ := hch
      refine ⟨(List.range len).map F, ⟨?_, some a, cap, ?_, ?_, hm, (fun e => by cases e), fun _ => ⟨a, rfl, ?_, ?_⟩⟩, ?_⟩
      · rw [flat_len f C _ (by intro x hx; simp at hx; obtain ⟨i, _, rfl⟩ := hx; exact hf _)]
      · simp
      · simpa using hl
      · obtain ⟨hc, _⟩ := hF 0 h0
        have h00 : 0 < (f (F 0)).length := by rw [hf]; exact hC0
        have := World.block_lt_of_cell? w _ (hc 0 _ (List.getElem?_eq_getElem h00))
        simpa [add_block] using this
      · intro j u hu
        obtain ⟨hq, hu'⟩ := flat_range f C len F (fun _ => hf _) hC0 j u hu
        have := (hF (j / C) (by omega)).1 _ _ hu'
        rwa [add_add, Nat.mul_comm, Nat.div_add_mod] at this
      · intro x hx
        simp at hx
        obtain ⟨i, hi, rfl⟩ := hx
        exact (hF i (by omega)).2

theorem wf_u64 {n : Int} (h : (Lit.int .u64 n).wf = true) : W64 n := by
  simp [Lit.wf, IntKind.min, IntKind.max, IntKind.bits, IntKind.signed] at h
  unfold W64; omega
theorem wf_i64 {n : Int} (h : (Lit.int .i64 n).wf = true) : I64 n := by
  simp [Lit.wf, IntKind.min, IntKind.max, IntKind.bits, IntKind.signed] at h
  unfold I64; omega
end

section
variable {H : Type} {enc : TypeId × Value → H} {w : World} {base : Nat} {held : Bool}

theorem flat_one {α : Type} (g : α → Value) (l : List α) : l.flatMap (fun x => [g x]) = l.map g := by
  induction l with
  | nil => rfl
  | cons x l ih => rw [List.flatMap_cons, ih]; rfl

/-- A slice of words that came in. -/
theorem open_words {fuel : Nat} {v : Value} {x : DataW H × List MemPlace} (h : DataW.trod enc Try.prog w base (fun _ => true) held fuel 22 [v] = some x) : ∃ ms, Words w v ms := by
  obtain ⟨l, h1, h2⟩ := open_sl (fun x : Int => [.int .u64 x]) W64 1 Try.underlying22 (by kernel_rfl) (by omega) (fun _ => rfl)
    (fun n cs y hy => by obtain ⟨n, rfl, _, hw⟩ := DataW.trod_int Try.underlying30 hy; exact ⟨n, rfl, wf_u64 hw⟩) h
  have e : l.flatMap (fun x : Int => [Value.int .u64 x]) = u64s l := flat_one _ _
  rw [e] at h1
  exact ⟨l, h1, h2⟩

/-- A slice of ints that came in. -/
theorem open_ints_ {fuel : Nat} {v : Value} {x : DataW H × List MemPlace} (h : DataW.trod enc Try.prog w base (fun _ => true) held fuel 58 [v] = some x) :
    ∃ ks : List Int, Sl w v 1 ks.length (ks.map (Value.int .i64)) ∧ ∀ k ∈ ks, I64 k := by
  obtain ⟨l, h1, h2⟩ := open_sl (fun x : Int => [.int .i64 x]) I64 1 Try.underlying58 (by kernel_rfl) (by omega) (fun _ => rfl)
    (fun n cs y hy => by obtain ⟨n, rfl, _, hw⟩ := DataW.trod_int Try.underlying3 hy; exact ⟨n, rfl, wf_i64 hw⟩) h
  have e : l.flatMap (fun x : Int => [Value.int .i64 x]) = l.map (Value.int .i64) := flat_one _ _
  rw [e] at h1
  exact ⟨l, h1, h2⟩

/-- The fields of a struct of one-cell fields, cell by cell. -/
theorem open_fields {t : TypeId} {fs : Array Field} {fuel : Nat} {cs : List Value} {x : DataW H × List MemPlace} (he : Try.prog.underlying t = some (.struct fs))
    (hone : oneCellFields Try.prog fs = true) (hC : Try.prog.cellsOf t = fs.size) (h : DataW.trod enc Try.prog w base (fun _ => true) held fuel t cs = some x) :
    cs.length = fs.size ∧ ∀ (j : Nat) (f : Field), fs[j]? = some f → ∃ (v : Value) (n : Nat) (y : DataW H × List MemPlace), cs[j]? = some v ∧ DataW.trod enc Try.prog w base (fun _ => true) held n f.type [v] = some y := by
  obtain ⟨ys, n', hn', hy, hlen, hyl, hf⟩ := DataW.trod_struct he h
  refine ⟨by rw [hlen, hC], fun j f hj => ?_⟩
  obtain ⟨ho, hk⟩ := hone_of hone j f hj
  have hjl : j < fs.size := (Array.getElem?_eq_some_iff.1 hj).1
  have hcl : j < cs.length := by omega
  have h1 := hf j f hj
  rw [ho, hk] at h1
  have hone' : (cs.drop j).take 1 = [cs[j]] := by
    rw [List.drop_eq_getElem_cons hcl]
    rfl
  rw [hone'] at h1
  have hys : ys[j]? = some (ys[j]'(by omega)) := List.getElem?_eq_getElem (by omega)
  exact ⟨cs[j], n', _, List.getElem?_eq_getElem hcl, h1.trans hys⟩

/-- An access by its cells. -/
theorem open_acc_cells {fuel : Nat} {cs : List Value} {x : DataW H × List MemPlace} (h : DataW.trod enc Try.prog w base (fun _ => true) held fuel 32 cs = some x) : ∃ a : Acc, cs = a.cells ∧ a.ok := by
  obtain ⟨hl, hf⟩ := open_fields Try.underlying32 (by kernel_rfl) (by kernel_rfl) h
  obtain ⟨v0, n0, y0, c0, t0⟩ := hf 0 _ rfl
  obtain ⟨v1, n1, y1, c1, t1⟩ := hf 1 _ rfl
  obtain ⟨v2, n2, y2, c2, t2⟩ := hf 2 _ rfl
  obtain ⟨v3, n3, y3, c3, t3⟩ := hf 3 _ rfl
  obtain ⟨k, e0, _, w0⟩ := DataW.trod_int Try.underlying3 t0
  obtain ⟨i, e1, _, w1⟩ := DataW.trod_int Try.underlying3 t1
  obtain ⟨a, e2, _, w2⟩ := DataW.trod_int Try.underlying30 t2
  obtain ⟨b, e3, _, w3⟩ := DataW.trod_int Try.underlying30 t3
  injection e0 with e0; injection e1 with e1; injection e2 with e2; injection e3 with e3
  subst e0 e1 e2 e3
  refine ⟨⟨k, i, a, b⟩, ?_, wf_i64 w0, wf_i64 w1, wf_u64 w2, wf_u64 w3⟩
  match cs, hl with
  | [d0, d1, d2, d3], _ =>
    simp at c0 c1 c2 c3
    subst c0 c1 c2 c3
    rfl

/-- A slice of accesses that came in. -/
theorem open_accs {fuel : Nat} {v : Value} {x : DataW H × List MemPlace} (h : DataW.trod enc Try.prog w base (fun _ => true) held fuel 23 [v] = some x) : ∃ l, Accs w v l := by
  obtain ⟨l, h1, h2⟩ := open_sl Acc.cells Acc.ok 4 Try.underlying23 (by kernel_rfl) (by omega) (fun _ => rfl) (fun n cs y hy => open_acc_cells hy) h
  exact ⟨l, h1, h2⟩

set_option maxRecDepth 100000 in
/-- An access by value that came in. -/
theorem open_acc {r : Reach} {b0 : Nat} {v : Value} {d : DataW H} {p : List MemPlace} (hv : Value.okWide Try.prog w r b0 32 v) (h : DataW.Trod enc Try.prog w base (fun _ => true) held 32 v d p) : ∃ a : Acc, v = a.val ∧ a.ok := by
  obtain ⟨cs, rfl, hsz⟩ := okWide_struct Try.underlying32 hv
  obtain ⟨fuel, hf⟩ := h
  obtain ⟨a, ha, hok⟩ := open_acc_cells hf
  obtain ⟨l⟩ := cs
  simp [Value.cells] at ha
  subst ha
  exact ⟨a, rfl, hok⟩
end
end Go.Proofs.Ytpkelneimjmmkaa

/- The play of layer 14: its cells, and what holds between two turns. -/
import Derived.Test.YtpkelneimjmmkaaPlayA
import Derived.Test.YtpkelneimjmmkaaRingG
import Derived.Test.YtpkelneimjmmkaaRingT
namespace Go.Proofs.Ytpkelneimjmmkaa
open Go.RowKit

/-- The cells of one at work. -/
structure Ply where
  vm : Value
  b : Int
  c : Int
  next : Int
  vl : Value
  drops : Int
  taken : Int
  l1 : List Value
  l2 : List Value
  lays : Int
  pops : Int
  ok : Bool
def Ply.cells (p : Ply) : List Value := [p.vm, .int .i64 p.b, .int .i64 p.c, .int .i64 p.next, p.vl, .int .i64 p.drops, .int .i64 p.taken] ++ p.l1 ++ (p.l2 ++ [Value.int .i64 p.lays, .int .i64 p.pops, .bool p.ok])
structure PlyB (w : World) (g : Nat) (p : Ply) : Prop where
  box : Box w g 88 p.cells.toArray
  len1 : p.l1.length = 36
  len2 : p.l2.length = 36
section
variable {w w' : World} {g : Nat} {p : Ply}
theorem PlyB.size (h : PlyB w g p) : p.cells.toArray.size = 82 := by simp [Ply.cells, h.len1, h.len2]
theorem PlyB.low (h : PlyB w g p) (j : Nat) (hj : j < 7) : w.cell? ⟨g, j, none⟩ = [p.vm, .int .i64 p.b, .int .i64 p.c, .int .i64 p.next, p.vl, .int .i64 p.drops, .int .i64 p.taken][j]? := by
  rw [h.box.cell]
  simp only [Ply.cells, List.getElem?_toArray]
  rw [List.getElem?_append_left (by simp; omega), List.getElem?_append_left (by simp; omega)]
theorem PlyB.high (h : PlyB w g p) (j : Nat) : w.cell? ⟨g, 79 + j, none⟩ = [Value.int .i64 p.lays, .int .i64 p.pops, .bool p.ok][j]? := by
  rw [h.box.cell]
  simp only [Ply.cells, List.getElem?_toArray]
  rw [List.getElem?_append_right (by simp [h.len1]; omega), List.getElem?_append_right (by simp [h.len1, h.len2]; omega)]
  simp [h.len1, h.len2]
  congr 1
  omega
theorem PlyB.r1 (h : PlyB w g p) : w.rangeAt g 7 p.l1 := h.box.midRange rfl
theorem PlyB.form2 (h : PlyB w g p) : Box w g 88 (([p.vm, .int .i64 p.b, .int .i64 p.c, .int .i64 p.next, p.vl, .int .i64 p.drops, .int .i64 p.taken] ++ p.l1) ++ p.l2 ++ [Value.int .i64 p.lays, .int .i64 p.pops, .bool p.ok]).toArray := by
  have := h.box
  simpa [Ply.cells] using this
theorem PlyB.r2 (h : PlyB w g p) : w.rangeAt g 43 p.l2 := h.form2.midRange (by simp [h.len1])
theorem PlyB.t1 (h : PlyB w g p) {n : Nat} (hn : n = 36) : w.there g 7 n := h.box.midThere (by rw [h.size]; omega)
theorem PlyB.t2 (h : PlyB w g p) {n : Nat} (hn : n = 36) : w.there g 43 n := h.box.midThere (by rw [h.size]; omega)
theorem PlyB.fz (h : PlyB w g p) (j : Nat) : w.frozen? ⟨g, j, none⟩ = false := h.box.frozen j
theorem PlyB.chg {X : Nat → Prop} (h : PlyB w g p) (hc : Chg X w w') (hg : ¬ X g) : PlyB w' g p := ⟨h.box.chg hc hg, h.len1, h.len2⟩
theorem PlyB.kept (h : PlyB w g p) (hc : Below w.heap.size w w') : PlyB w' g p := ⟨h.box.kept hc, h.len1, h.len2⟩
theorem PlyB.set1 (h : PlyB w g p) {cl : List Value} (hl : cl.length = 36) : PlyB (w.setCells g 7 cl) g { p with l1 := cl } := ⟨h.box.midSet rfl (by rw [h.len1, hl]), hl, h.len2⟩
theorem PlyB.set2 (h : PlyB w g p) {cl : List Value} (hl : cl.length = 36) : PlyB (w.setCells g 43 cl) g { p with l2 := cl } :=
  ⟨by have := h.form2.midSet (o := 43) (vs := cl) (by simp [h.len1]) (by rw [h.len2, hl]); simpa [Ply.cells] using this, h.len1, hl⟩
/-- A field is written. -/
theorem PlyB.put (h : PlyB w g p) {q : Ply} (i : Nat) (u : Value) (hq : p.cells.set i u = q.cells) (h1 : q.l1 = p.l1) (h2 : q.l2 = p.l2) : PlyB (w.setCell ⟨g, i, none⟩ u) g q := by
  have := h.box.set_ i u
  simp only [List.setIfInBounds_toArray] at this
  rw [hq] at this
  exact ⟨this, by rw [h1]; exact h.len1, by rw [h2]; exact h.len2⟩
theorem Ply.set_low (p : Ply) (i : Nat) (hi : i < 7) (u : Value) : p.cells.set i u = [p.vm, .int .i64 p.b, .int .i64 p.c, .int .i64 p.next, p.vl, .int .i64 p.drops, .int .i64 p.taken].set i u ++ p.l1 ++ (p.l2 ++ [Value.int .i64 p.lays, .int .i64 p.pops, .bool p.ok]) := by
  unfold Ply.cells
  rw [List.set_append_left _ _ (by simp; omega), List.set_append_left _ _ (by simp; omega)]
theorem Ply.set_high (p : Ply) (h1 : p.l1.length = 36) (h2 : p.l2.length = 36) (i : Nat) (u : Value) : p.cells.set (79 + i) u = [p.vm, .int .i64 p.b, .int .i64 p.c, .int .i64 p.next, p.vl, .int .i64 p.drops, .int .i64 p.taken] ++ p.l1 ++ (p.l2 ++ [Value.int .i64 p.lays, .int .i64 p.pops, .bool p.ok].set i u) := by
  unfold Ply.cells
  rw [List.set_append_right _ _ (by simp [h1]; omega), List.set_append_right _ _ (by simp [h1, h2]; omega)]
  simp [h1, h2]
  congr 1
  omega
theorem PlyB.putVm (h : PlyB w g p) (u : Value) : PlyB (w.setCell ⟨g, 0, none⟩ u) g { p with vm := u } := h.put 0 u (by rw [p.set_low 0 (by omega)]; rfl) rfl rfl
theorem PlyB.putNext (h : PlyB w g p) (u : Int) : PlyB (w.setCell ⟨g, 3, none⟩ (.int .i64 u)) g { p with next := u } := h.put 3 _ (by rw [p.set_low 3 (by omega)]; rfl) rfl rfl
theorem PlyB.putVl (h : PlyB w g p) (u : Value) : PlyB (w.setCell ⟨g, 4, none⟩ u) g { p with vl := u } := h.put 4 u (by rw [p.set_low 4 (by omega)]; rfl) rfl rfl
theorem PlyB.putDrops (h : PlyB w g p) (u : Int) : PlyB (w.setCell ⟨g, 5, none⟩ (.int .i64 u)) g { p with drops := u } := h.put 5 _ (by rw [p.set_low 5 (by omega)]; rfl) rfl rfl
theorem PlyB.putTaken (h : PlyB w g p) (u : Int) : PlyB (w.setCell ⟨g, 6, none⟩ (.int .i64 u)) g { p with taken := u } := h.put 6 _ (by rw [p.set_low 6 (by omega)]; rfl) rfl rfl
theorem PlyB.putLays (h : PlyB w g p) (u : Int) : PlyB (w.setCell ⟨g, 79, none⟩ (.int .i64 u)) g { p with lays := u } := h.put 79 _ (by rw [show 79 = 79 + 0 from rfl, p.set_high h.len1 h.len2]; rfl) rfl rfl
theorem PlyB.putPops (h : PlyB w g p) (u : Int) : PlyB (w.setCell ⟨g, 80, none⟩ (.int .i64 u)) g { p with pops := u } := h.put 80 _ (by rw [show 80 = 79 + 1 from rfl, p.set_high h.len1 h.len2]; rfl) rfl rfl
theorem PlyB.putOk (h : PlyB w g p) (u : Bool) : PlyB (w.setCell ⟨g, 81, none⟩ (.bool u)) g { p with ok := u } := h.put 81 _ (by rw [show 81 = 79 + 2 from rfl, p.set_high h.len1 h.len2]; rfl) rfl rfl
end

/-- What was laid: a slice of the call's own, whose elements are words. -/
structure LaidR (X : Nat → Prop) (w : World) (base : Nat) (vl : Value) (L : List (Value × Int)) : Prop where
  row : w.ownsRow base 22 1 vl L.length (L.map (·.1))
  each : ∀ a ∈ L, OffW X w a.1 (wordsR a.2)
/-- The blocks that a play writes. -/
def Mine (g : Nat) (vl : Value) (k : Nat) : Prop := k = g ∨ vl.ownBlock = some k
theorem words14_own (n : Int) (w : World) : Calls Try.prog 69 #[.int .i64 n] w (OwnPost (wordsR n) w) := by
  have F : Hid (OwnPost (wordsR n) w (.returned (.slice (some ⟨w.heap.size, 0, none⟩) 6 6)) (w.alloc (.cells (u64s (wordsR n)).toArray 30))) := Lib.hid ⟨_, rfl, ⟨by
    have := own_new w 30 1 (u64s (wordsR n)).toArray 6 rfl (by decide)
    simpa [wordsR_len] using this, wordsR_ok n⟩, (Below.refl _ w).alloc (Nat.le_refl _) _⟩
  go_enter Try.func69, Try.ntmps69
  go_wp2
  go_ret
  exact F.out

/-- Between two turns. -/
structure PlayI (base g : Nat) (w0 w : World) (b c s : Nat) (p : Ply) (m : List Int) (L : List (Value × Int)) (D T : Nat) (lay take : FT) (ls ps : Nat) : Prop where
  ply : PlyB w g p
  b_is : p.b = (b : Int)
  c_is : p.c = (c : Int)
  next_is : p.next = ((L.length + D : Nat) : Int)
  drops_is : p.drops = (D : Int)
  taken_is : p.taken = (T : Int)
  lays_is : p.lays = (ls : Int)
  pops_is : p.pops = (ps : Int)
  ok_is : p.ok = true
  mem : OffW (Mine g p.vl) w p.vm m
  laid : LaidR (Mine g p.vl) w base p.vl L
  t1 : OffT (Mine g p.vl) w p.l1 lay
  t2 : OffT (Mine g p.vl) w p.l2 take
  law : RT b c m (L.map (·.2)) D T lay take ls ps
  ne : p.vl.ownBlock ≠ some g
  lo : base ≤ g
  few : L.length + D ≤ s
  below : Below base w0 w
  size : base ≤ w0.heap.size
section
variable {base g b c s : Nat} {w0 w W : World} {p q : Ply} {m m' : List Int} {L : List (Value × Int)} {D D' T T' : Nat} {lay take lay' take' : FT} {ls ps ls' ps' : Nat}
theorem PlayI.next (h : PlayI base g w0 w b c s p m L D T lay take ls ps) (hc : Chg (· = g) w W) (hq : PlyB W g q) (hvl : q.vl = p.vl) (hb : q.b = p.b) (hcc : q.c = p.c)
    (hn : q.next = ((L.length + D' : Nat) : Int)) (hd : q.drops = (D' : Int)) (ht : q.taken = (T' : Int)) (hl : q.lays = (ls' : Int)) (hp : q.pops = (ps' : Int)) (ho : q.ok = true)
    (hm : OffW (Mine g p.vl) W q.vm m') (h1 : OffT (Mine g p.vl) W q.l1 lay') (h2 : OffT (Mine g p.vl) W q.l2 take') (hlaw : RT b c m' (L.map (·.2)) D' T' lay' take' ls' ps') (hf : L.length + D' ≤ s + 1) :
    PlayI base g w0 W b c (s + 1) q m' L D' T' lay' take' ls' ps' := by
  have hoff : Off (· = g) p.vl := fun k hk e => h.ne (by rw [hk, e])
  have hcm : Chg (Mine g p.vl) w W := hc.mono fun k _ e => .inl e
  refine ⟨hq, by rw [hb]; exact h.b_is, by rw [hcc]; exact h.c_is, hn, hd, ht, hl, hp, ho, by rw [hvl]; exact hm, ?_, by rw [hvl]; exact h1, by rw [hvl]; exact h2, hlaw, by rw [hvl]; exact h.ne, h.lo, hf, hc.below h.below h.size (fun k e => by rw [e]; exact h.lo), h.size⟩
  rw [hvl]
  exact ⟨row_chg h.laid.row hc hoff, fun a ha => (h.laid.each a ha).chg hcm⟩
/-- One more was laid. -/
theorem PlayI.more {x : Int} {v : Value} {w1 : World} (h : PlayI base g w0 w b c s p m L D T lay take ls ps) (hc1 : Chg (Mine g p.vl) w w1) (hr : w1.ownsRow base 22 1 q.vl (L.length + 1) (L.map (·.1) ++ [v])) (hv : OffW (Mine g p.vl) w1 v (wordsR x)) (hvn : ∀ k, v.ownBlock = some k → q.vl.ownBlock ≠ some k)
    (hat : q.vl.ownBlock = p.vl.ownBlock ∨ ∃ k, q.vl.ownBlock = some k ∧ w.heap.size ≤ k) (hc : Chg (· = g) w1 W) (hg1 : g < w.heap.size) (hq : PlyB W g q) (hb : q.b = p.b) (hcc : q.c = p.c)
    (hn : q.next = ((L.length + 1 + D' : Nat) : Int)) (hd : q.drops = (D' : Int)) (ht : q.taken = (T' : Int)) (hl : q.lays = (ls' : Int)) (hp : q.pops = (ps' : Int)) (ho : q.ok = true)
    (hm : OffW (Mine g q.vl) W q.vm m') (h1 : OffT (Mine g q.vl) W q.l1 lay') (h2 : OffT (Mine g p.vl) w p.l2 take) (h2' : q.l2 = p.l2) (hlaw : RT b c m' (L.map (·.2) ++ [x]) D' T' lay' take ls' ps') (hf : L.length + 1 + D' ≤ s + 1) :
    PlayI base g w0 W b c (s + 1) q m' (L ++ [(v, x)]) D' T' lay' take ls' ps' := by
  have hne : q.vl.ownBlock ≠ some g := by
    rcases hat with e | ⟨k, e, hk⟩
    · rw [e]; exact h.ne
    · rw [e]; intro e2; injection e2 with e2; omega
  have hoff : Off (· = g) q.vl := fun k hk e => hne (by rw [hk, e])
  have hold : ∀ k, k < w.heap.size → Mine g q.vl k → Mine g p.vl k := fun k hk hm => by
    rcases hm with e | e
    · exact .inl e
    · rcases hat with e2 | ⟨k2, e2, hk2⟩
      · exact .inr (by rw [← e2]; exact e)
      · rw [e2] at e; injection e with e; omega
  have hcm : Chg (Mine g p.vl) w W := hc1.trans (hc.mono fun k _ e => .inl e)
  refine ⟨hq, by rw [hb]; exact h.b_is, by rw [hcc]; exact h.c_is, by rw [hn]; simp, hd, ht, hl, hp, ho, hm, ?_, h1, ?_, by simpa using hlaw, hne, h.lo, by simpa using hf, hcm.below h.below h.size (fun k e => ?_), h.size⟩
  · refine ⟨by simpa using row_chg hr hc hoff, fun a ha => ?_⟩
    have hcq : Chg (Mine g q.vl) w1 W := hc.mono fun k _ e => .inl e
    rcases List.mem_append.1 ha with ha | ha
    · have h0 := (h.laid.each a ha)
      have hx := h0.mono hold
      refine ⟨⟨row_chg h0.1.1 hcm h0.2, h0.1.2⟩, hx.2⟩
    · simp only [List.mem_singleton] at ha
      subst ha
      refine OffW.chg ⟨hv.1, fun k hk hm => ?_⟩ hcq
      rcases hm with e | e
      · exact hv.2 k hk (.inl e)
      · exact hvn k hk e
  · rw [h2']
    have h0 := h2.chg hcm
    obtain ⟨cv, code, o1, o2, o3⟩ := h2
    obtain ⟨cv', code', p1, p2, p3⟩ := h0
    refine ⟨cv, code, ⟨row_chg o1.1 hcm o2, o1.2⟩, fun k hk hm => o2 k hk (hold k (o1.1.lt k hk).2 hm), o3⟩
  · rcases e with e | e
    · rw [e]; exact h.lo
    · exact (h.laid.row.lt k e).1
end
theorem info_words : (Try.prog.info? 22).map (fun i => (i.zero, i.size, i.bytes)) = some (some (.slice none 0 0), 1, 24) := by kernel_rfl
end Go.Proofs.Ytpkelneimjmmkaa

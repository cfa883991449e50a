/- The play of layer 15: its cells, and what holds between two turns. -/
import Derived.Test.YtpkelneimjmmkaaPlayA
import Derived.Test.YtpkelneimjmmkaaSeqT
namespace Go.Proofs.Ytpkelneimjmmkaa
open Go.RowKit

/-- The cells of one at work. -/
structure Plq where
  vm : Value
  b : Int
  n : Int
  k : Int
  begun : Int
  dn : Int
  l : List Value
  vr : Value
  vf : Value
  whole : Int
  ok : Bool
def Plq.cells (p : Plq) : List Value := [p.vm, .int .i64 p.b, .int .i64 p.n, .int .i64 p.k, .int .i64 p.begun, .int .i64 p.dn] ++ p.l ++ [p.vr, p.vf, .int .i64 p.whole, .bool p.ok]
structure PlqB (w : World) (g : Nat) (p : Plq) : Prop where
  box : Box w g 73 p.cells.toArray
  len : p.l.length = 36
section
variable {w w' : World} {g : Nat} {p : Plq}
theorem PlqB.size (h : PlqB w g p) : p.cells.toArray.size = 46 := by simp [Plq.cells, h.len]
theorem PlqB.low (h : PlqB w g p) (j : Nat) (hj : j < 6) : w.cell? ⟨g, j, none⟩ = [p.vm, .int .i64 p.b, .int .i64 p.n, .int .i64 p.k, .int .i64 p.begun, .int .i64 p.dn][j]? := by
  rw [h.box.cell]
  simp only [Plq.cells, List.getElem?_toArray]
  rw [List.getElem?_append_left (by simp; omega), List.getElem?_append_left (by simp; omega)]
theorem PlqB.high (h : PlqB w g p) (j : Nat) : w.cell? ⟨g, 42 + j, none⟩ = [p.vr, p.vf, Value.int .i64 p.whole, .bool p.ok][j]? := by
  rw [h.box.cell]
  simp only [Plq.cells, List.getElem?_toArray]
  rw [List.getElem?_append_right (by simp [h.len])]
  simp [h.len]
theorem PlqB.mid (h : PlqB w g p) (j : Nat) (hj : j < 36) : w.cell? ⟨g, 6 + j, none⟩ = p.l[j]? := by
  rw [h.box.cell]
  simp only [Plq.cells, List.getElem?_toArray]
  rw [List.getElem?_append_left (by simp [h.len]; omega), List.getElem?_append_right (by simp)]
  simp
theorem PlqB.r (h : PlqB w g p) : w.rangeAt g 6 p.l := h.box.midRange rfl
theorem PlqB.t (h : PlqB w g p) {n : Nat} (hn : n = 36) : w.there g 6 n := h.box.midThere (by rw [h.size]; omega)
theorem PlqB.fz (h : PlqB w g p) (j : Nat) : w.frozen? ⟨g, j, none⟩ = false := h.box.frozen j
theorem PlqB.chg {X : Nat → Prop} (h : PlqB w g p) (hc : Chg X w w') (hg : ¬ X g) : PlqB w' g p := ⟨h.box.chg hc hg, h.len⟩
theorem PlqB.kept (h : PlqB w g p) (hc : Below w.heap.size w w') : PlqB w' g p := ⟨h.box.kept hc, h.len⟩
theorem PlqB.set (h : PlqB w g p) {cl : List Value} (hl : cl.length = 36) : PlqB (w.setCells g 6 cl) g { p with l := cl } := ⟨h.box.midSet rfl (by rw [h.len, hl]), hl⟩
theorem PlqB.put (h : PlqB w g p) {q : Plq} (i : Nat) (u : Value) (hq : p.cells.set i u = q.cells) (h1 : q.l = p.l) : PlqB (w.setCell ⟨g, i, none⟩ u) g q := by
  have := h.box.set_ i u
  simp only [List.setIfInBounds_toArray] at this
  rw [hq] at this
  exact ⟨this, by rw [h1]; exact h.len⟩
theorem Plq.set_low (p : Plq) (i : Nat) (hi : i < 6) (u : Value) : p.cells.set i u = [p.vm, .int .i64 p.b, .int .i64 p.n, .int .i64 p.k, .int .i64 p.begun, .int .i64 p.dn].set i u ++ p.l ++ [p.vr, p.vf, .int .i64 p.whole, .bool p.ok] := by
  unfold Plq.cells
  rw [List.set_append_left _ _ (by simp; omega), List.set_append_left _ _ (by simp; omega)]
theorem Plq.set_high (p : Plq) (h1 : p.l.length = 36) (i : Nat) (u : Value) : p.cells.set (42 + i) u = [p.vm, .int .i64 p.b, .int .i64 p.n, .int .i64 p.k, .int .i64 p.begun, .int .i64 p.dn] ++ p.l ++ [p.vr, p.vf, .int .i64 p.whole, .bool p.ok].set i u := by
  unfold Plq.cells
  rw [List.set_append_right _ _ (by simp [h1])]
  simp [h1]
theorem PlqB.putVm (h : PlqB w g p) (u : Value) : PlqB (w.setCell ⟨g, 0, none⟩ u) g { p with vm := u } := h.put 0 u (by rw [p.set_low 0 (by omega)]; rfl) rfl
theorem PlqB.putBegun (h : PlqB w g p) (u : Int) : PlqB (w.setCell ⟨g, 4, none⟩ (.int .i64 u)) g { p with begun := u } := h.put 4 _ (by rw [p.set_low 4 (by omega)]; rfl) rfl
theorem PlqB.putDone (h : PlqB w g p) (u : Int) : PlqB (w.setCell ⟨g, 5, none⟩ (.int .i64 u)) g { p with dn := u } := h.put 5 _ (by rw [p.set_low 5 (by omega)]; rfl) rfl
theorem PlqB.putWhole (h : PlqB w g p) (u : Int) : PlqB (w.setCell ⟨g, 44, none⟩ (.int .i64 u)) g { p with whole := u } := h.put 44 _ (by rw [show 44 = 42 + 2 from rfl, p.set_high h.len]; rfl) rfl
theorem PlqB.putOk (h : PlqB w g p) (u : Bool) : PlqB (w.setCell ⟨g, 45, none⟩ (.bool u)) g { p with ok := u } := h.put 45 _ (by rw [show 45 = 42 + 3 from rfl, p.set_high h.len]; rfl) rfl
end
theorem OwnI.kept {w w' : World} {B : Nat} {v : Value} {l : List Insn} (h : OwnI w B v l) (hb : Below w.heap.size w w') : OwnI w' B v l := by
  obtain ⟨⟨h1, h2⟩, h3⟩ := h
  refine ⟨⟨h1, ?_⟩, h3⟩
  rcases h2 with h2 | ⟨g', cap, cur, e, hg', hh, r⟩
  · exact .inl h2
  · exact .inr ⟨g', cap, cur, e, hg', (hb.block g' (Array.getElem?_eq_some_iff.1 hh).1).trans hh, r⟩

/-- The blocks that a play writes: its own, the readers', and where they began. -/
def Our (g gr gf k : Nat) : Prop := k = g ∨ k = gr ∨ k = gf
/-- Between two turns. -/
structure QlyI (base g gr gf : Nat) (w0 w : World) (n k s : Nat) (p : Plq) (c0 c1 : List Value) (m : List Int) (D : Nat) (wr : FT) (F0 F1 : Nat) (T0 T1 : FT) : Prop where
  ply : PlqB w g p
  b_is : p.b = 2
  n_is : p.n = (n : Int)
  k_is : p.k = (k : Int)
  done_is : p.dn = (D : Int)
  ok_is : p.ok = true
  vr_is : p.vr = .slice (some ⟨gr, 0, none⟩) 2 2
  vf_is : p.vf = .slice (some ⟨gf, 0, none⟩) 2 2
  rbox : Box w gr 42 (c0 ++ c1).toArray
  fbox : Box w gf 3 #[.int .i64 (F0 : Int), .int .i64 (F1 : Int)]
  mem : OffW (Our g gr gf) w p.vm m
  t : OffT (Our g gr gf) w p.l wr
  t0 : OffT (Our g gr gf) w c0 T0
  t1 : OffT (Our g gr gf) w c1 T1
  law : QT n k m D wr F0 F1 T0 T1
  ne1 : g ≠ gr
  ne2 : g ≠ gf
  ne3 : gr ≠ gf
  lo : base ≤ g ∧ base ≤ gr ∧ base ≤ gf
  few : D ≤ s
  below : Below base w0 w
  size : base ≤ w0.heap.size
section
variable {base g gr gf n k s : Nat} {w0 w W : World} {p q : Plq} {c0 c1 c0' c1' : List Value} {m m' : List Int} {D D' : Nat} {wr wr' : FT} {F0 F1 F0' F1' : Nat} {T0 T1 T0' T1' : FT}
theorem QlyI.lt (h : QlyI base g gr gf w0 w n k s p c0 c1 m D wr F0 F1 T0 T1) : ∀ j, Our g gr gf j → j < w.heap.size := fun j hj => by
  rcases hj with rfl | rfl | rfl
  · exact h.ply.box.lt
  · exact h.rbox.lt
  · exact h.fbox.lt
theorem QlyI.next (h : QlyI base g gr gf w0 w n k s p c0 c1 m D wr F0 F1 T0 T1) (hc : Chg (Our g gr gf) w W) (hq : PlqB W g q) (hb : q.b = p.b) (hn : q.n = p.n) (hk : q.k = p.k) (hd : q.dn = (D' : Int)) (ho : q.ok = true) (hr : q.vr = p.vr) (hf : q.vf = p.vf)
    (hrb : Box W gr 42 (c0' ++ c1').toArray) (hfb : Box W gf 3 #[.int .i64 (F0' : Int), .int .i64 (F1' : Int)]) (hm : OffW (Our g gr gf) W q.vm m') (ht : OffT (Our g gr gf) W q.l wr') (h0 : OffT (Our g gr gf) W c0' T0') (h1 : OffT (Our g gr gf) W c1' T1')
    (hl : QT n k m' D' wr' F0' F1' T0' T1') (hs : D' ≤ s + 1) : QlyI base g gr gf w0 W n k (s + 1) q c0' c1' m' D' wr' F0' F1' T0' T1' :=
  ⟨hq, by rw [hb]; exact h.b_is, by rw [hn]; exact h.n_is, by rw [hk]; exact h.k_is, hd, ho, by rw [hr]; exact h.vr_is, by rw [hf]; exact h.vf_is, hrb, hfb, hm, ht, h0, h1, hl, h.ne1, h.ne2, h.ne3, h.lo, hs,
    hc.below h.below h.size (fun j hj => by
      rcases hj with rfl | rfl | rfl
      · exact h.lo.1
      · exact h.lo.2.1
      · exact h.lo.2.2), h.size⟩
end
end Go.Proofs.Ytpkelneimjmmkaa

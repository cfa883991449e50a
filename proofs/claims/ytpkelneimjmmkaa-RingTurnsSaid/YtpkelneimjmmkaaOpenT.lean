/- How arguments of layer 12 that came in are opened: instructions, tasks. -/
import Derived.Test.YtpkelneimjmmkaaOpen
import Derived.Test.YtpkelneimjmmkaaTaskF
namespace Go.Proofs.Ytpkelneimjmmkaa
open Go.RowKit Go.ChangeShapes Go.WideShapes Go.Deep
section
variable {H : Type} {enc : TypeId × Value → H} {w : World} {base : Nat} {held : Bool}

/-- An instruction by its cells. -/
theorem open_ins_cells {fuel : Nat} {cs : List Value} {x : DataW H × List MemPlace} (h : DataW.trod enc Try.prog w base (fun _ => true) held fuel 55 cs = some x) : ∃ a : Insn, cs = a.cells ∧ a.ok := by
  obtain ⟨hl, hf⟩ := open_fields Try.underlying55 (by kernel_rfl) (by kernel_rfl) h
  obtain ⟨v0, n0, y0, c0, t0⟩ := hf 0 _ rfl
  obtain ⟨v1, n1, y1, c1, t1⟩ := hf 1 _ rfl
  obtain ⟨v2, n2, y2, c2, t2⟩ := hf 2 _ rfl
  obtain ⟨v3, n3, y3, c3, t3⟩ := hf 3 _ rfl
  obtain ⟨v4, n4, y4, c4, t4⟩ := hf 4 _ rfl
  obtain ⟨k, e0, _, w0⟩ := DataW.trod_int Try.underlying3 t0
  obtain ⟨i, e1, _, w1⟩ := DataW.trod_int Try.underlying3 t1
  obtain ⟨r, e2, _, w2⟩ := DataW.trod_int Try.underlying3 t2
  obtain ⟨to, e3, _, w3⟩ := DataW.trod_int Try.underlying3 t3
  obtain ⟨a, e4, _, w4⟩ := DataW.trod_int Try.underlying30 t4
  injection e0 with e0; injection e1 with e1; injection e2 with e2; injection e3 with e3; injection e4 with e4
  subst e0 e1 e2 e3 e4
  match cs, hl with
  | [d0, d1, d2, d3, d4], _ =>
    simp at c0 c1 c2 c3 c4
    subst c0 c1 c2 c3 c4
    exact ⟨⟨k, i, r, to, a⟩, rfl, wf_i64 w0, wf_i64 w1, wf_i64 w2, wf_i64 w3, wf_u64 w4⟩

/-- A slice of instructions that came in. -/
theorem open_inss {fuel : Nat} {v : Value} {x : DataW H × List MemPlace} (h : DataW.trod enc Try.prog w base (fun _ => true) held fuel 39 [v] = some x) : ∃ l, Inss w v l := by
  obtain ⟨l, h1, h2⟩ := open_sl Insn.cells Insn.ok 5 Try.underlying39 (by kernel_rfl) (by omega) (fun _ => rfl) (fun n cs y hy => open_ins_cells hy) h
  exact ⟨l, h1, h2⟩

/-- The registers by their cells. -/
theorem open_regs {fuel : Nat} {cs : List Value} {x : DataW H × List MemPlace} (h : DataW.trod enc Try.prog w base (fun _ => true) held fuel 40 cs = some x) : ∃ l : List Int, cs = u64s l ∧ l.length = 32 ∧ ∀ y ∈ l, W64 y := by
  obtain ⟨xs, m, rfl, _, hl, hx, hi⟩ := DataW.trod_array (n := 32) (e := 30) (by kernel_rfl) h
  have hl' : cs.length = 32 := by rw [hl]; kernel_rfl
  have hc1 : Try.prog.cellsOf 30 = 1 := by kernel_rfl
  rw [hc1] at hi
  have hex : ∀ i, i < 32 → ∃ n : Int, cs[i]? = some (.int .u64 n) ∧ W64 n := by
    intro i hi32
    have h1 := hi i hi32
    rw [Nat.mul_one, List.drop_eq_getElem_cons (by omega)] at h1
    simp only [List.take_succ_cons, List.take_zero] at h1
    have hys : xs[i]? = some (xs[i]'(by omega)) := List.getElem?_eq_getElem (by omega)
    obtain ⟨n, e, _, hw⟩ := DataW.trod_int Try.underlying30 (h1.trans hys)
    injection e with e
    exact ⟨n, by rw [List.getElem?_eq_getElem (by omega), e], wf_u64 hw⟩
  have : ∀ (k : Nat) (c : List Value), (∀ i, i < k → ∃ n : Int, c[i]? = some (.int .u64 n) ∧ W64 n) → c.length = k → ∃ l : List Int, c = u64s l ∧ l.length = k ∧ ∀ y ∈ l, W64 y := by
    intro k
    induction k with
    | zero => intro c _ hc; exact ⟨[], by simpa [u64s] using hc, rfl, by simp⟩
    | succ k ih =>
      intro c hc hcl
      cases c with
      | nil => simp at hcl
      | cons d c =>
        obtain ⟨n, hn, hw⟩ := hc 0 (by omega)
        obtain ⟨l, e, hl, ho⟩ := ih c (fun i hi => by have := hc (i + 1) (by omega); simpa using this) (by simpa using hcl)
        simp at hn
        subst hn e
        refine ⟨n :: l, by simp [u64s], by simp [hl], fun y hy => ?_⟩
        rcases List.mem_cons.1 hy with h | h
        · rw [h]; exact hw
        · exact ho y h
  exact this 32 cs hex hl'

set_option maxRecDepth 100000 in
/-- A task by its cells. -/
theorem open_task_cells {fuel : Nat} {cs : List Value} {x : DataW H × List MemPlace} (h : DataW.trod enc Try.prog w base (fun _ => true) held fuel 42 cs = some x) : ∃ T, IsTask w (.agg cs.toArray) T := by
  obtain ⟨ys, n', hn', hy, hlen, hyl, hf⟩ := DataW.trod_struct Try.underlying42 h
  have hl : cs.length = 36 := by rw [hlen]; kernel_rfl
  have hyl' : ys.length = 5 := by rw [hyl]; rfl
  have at_ : ∀ (j : Nat) (hj : j < 5), ys[j]? = some (ys[j]'(by omega)) := fun j hj => List.getElem?_eq_getElem (by omega)
  have t0 : DataW.trod enc Try.prog w base (fun _ => true) held n' 39 ((cs.drop 0).take (Try.prog.cellsOf 39)) = some (ys[0]'(by omega)) := (hf 0 _ rfl).trans (at_ 0 (by omega))
  have t1 : DataW.trod enc Try.prog w base (fun _ => true) held n' 3 ((cs.drop 1).take (Try.prog.cellsOf 3)) = some (ys[1]'(by omega)) := (hf 1 _ rfl).trans (at_ 1 (by omega))
  have t2 : DataW.trod enc Try.prog w base (fun _ => true) held n' 40 ((cs.drop 2).take (Try.prog.cellsOf 40)) = some (ys[2]'(by omega)) := (hf 2 _ rfl).trans (at_ 2 (by omega))
  have t3 : DataW.trod enc Try.prog w base (fun _ => true) held n' 4 ((cs.drop 34).take (Try.prog.cellsOf 4)) = some (ys[3]'(by omega)) := (hf 3 _ rfl).trans (at_ 3 (by omega))
  have t4 : DataW.trod enc Try.prog w base (fun _ => true) held n' 3 ((cs.drop 35).take (Try.prog.cellsOf 3)) = some (ys[4]'(by omega)) := (hf 4 _ rfl).trans (at_ 4 (by omega))
  have one : ∀ (j : Nat) (hj : j < 36), (cs.drop j).take 1 = [cs[j]'(by omega)] := fun j hj => by
    rw [List.drop_eq_getElem_cons (by omega)]; rfl
  rw [show Try.prog.cellsOf 39 = 1 by kernel_rfl, one 0 (by omega)] at t0
  rw [show Try.prog.cellsOf 3 = 1 by kernel_rfl, one 1 (by omega)] at t1
  rw [show Try.prog.cellsOf 4 = 1 by kernel_rfl, one 34 (by omega)] at t3
  rw [show Try.prog.cellsOf 3 = 1 by kernel_rfl, one 35 (by omega)] at t4
  obtain ⟨code, hcode⟩ := open_inss t0
  obtain ⟨pc, e1, _, w1⟩ := DataW.trod_int Try.underlying3 t1
  obtain ⟨regs, e2, hrl, hrw⟩ := open_regs t2
  obtain ⟨d, e3, _⟩ := DataW.trod_bool Try.underlying4 t3
  obtain ⟨ans, e4, _, w4⟩ := DataW.trod_int Try.underlying3 t4
  rw [show Try.prog.cellsOf 40 = 32 by kernel_rfl] at e2
  injection e1 with e1; injection e3 with e3; injection e4 with e4
  refine ⟨⟨code, pc, regs, d, ans⟩, cs[0]'(by omega), ?_, hcode, ⟨hrl, hrw, wf_i64 w1, wf_i64 w4⟩, hcode.one⟩
  have hcs : cs = cs[0]'(by omega) :: cs[1]'(by omega) :: ((cs.drop 2).take 32 ++ [cs[34]'(by omega), cs[35]'(by omega)]) := by
    have h34 : cs.drop 34 = [cs[34]'(by omega), cs[35]'(by omega)] := by
      rw [List.drop_eq_getElem_cons (by omega), List.drop_eq_getElem_cons (by omega), List.drop_eq_nil_of_le (by omega)]
    have h2 : cs.drop 2 = (cs.drop 2).take 32 ++ cs.drop 34 := by
      have := (List.take_append_drop 32 (cs.drop 2)).symm
      rwa [List.drop_drop] at this
    rw [← h34, ← h2]
    rw [← List.drop_eq_getElem_cons (by omega : 1 < cs.length), ← List.drop_eq_getElem_cons (by omega : 0 < cs.length)]
    rfl
  show Value.agg cs.toArray = Value.agg (tcells _ _)
  congr 1
  unfold tcells
  rw [e2, e1, e3, e4] at hcs
  exact congrArg List.toArray hcs

set_option maxRecDepth 100000 in
/-- A task by value that came in. -/
theorem open_task {r : Reach} {b0 : Nat} {v : Value} {d : DataW H} {p : List MemPlace} (hv : Value.okWide Try.prog w r b0 42 v) (h : DataW.Trod enc Try.prog w base (fun _ => true) held 42 v d p) : ∃ T, IsTask w v T := by
  obtain ⟨cs, rfl, hsz⟩ := okWide_struct Try.underlying42 hv
  obtain ⟨fuel, hf⟩ := h
  obtain ⟨T, hT⟩ := open_task_cells hf
  exact ⟨T, by simpa [Value.cells] using hT⟩
end
end Go.Proofs.Ytpkelneimjmmkaa

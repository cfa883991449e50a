/- Tasks in memory: a task's cells, whole-row loads and stores, and the contract of task.ended. -/
import Derived.Test.YtpkelneimjmmkaaCellK
import Derived.Test.YtpkelneimjmmkaaPureM
import Derived.Laws.Tables
import Derived.Deep.MidRow
namespace Go.Proofs.Ytpkelneimjmmkaa
open Go.RowKit

/-- A task's cells: the code's slice value ahead of them. -/
def tcells (cv : Value) (t : Tsk) : Array Value := ((cv :: Value.int .i64 t.pc :: u64s t.regs) ++ [Value.bool t.done, Value.int .i64 t.ans]).toArray

section
variable {cv : Value} {t : Tsk}
theorem tcells_size (h : t.regs.length = 32) : (tcells cv t).size = 36 := by simp [tcells, u64s, h]
theorem tcells_0 : (tcells cv t)[0]? = some cv := by simp [tcells]
theorem tcells_1 : (tcells cv t)[1]? = some (.int .i64 t.pc) := by simp [tcells]
theorem tcells_reg {i : Nat} (h : t.regs.length = 32) (hi : i < 32) : (tcells cv t)[2 + i]? = some (.int .u64 (t.regs.getD i 0)) := by
  have e : 2 + i = (i + 1) + 1 := by omega
  have := u64s_get (ms := t.regs) (j := i) (by omega)
  simp only [tcells, List.getElem?_toArray, e, List.cons_append, List.getElem?_cons_succ]
  rw [List.getElem?_append_left (by simp [u64s, h]; omega)]
  exact this
theorem tcells_34 (h : t.regs.length = 32) : (tcells cv t)[34]? = some (.bool t.done) := by
  simp only [tcells, List.getElem?_toArray, List.cons_append, List.getElem?_cons_succ]
  rw [List.getElem?_append_right (by simp [u64s, h])]
  simp [u64s, h]
theorem tcells_35 (h : t.regs.length = 32) : (tcells cv t)[35]? = some (.int .i64 t.ans) := by
  simp only [tcells, List.getElem?_toArray, List.cons_append, List.getElem?_cons_succ]
  rw [List.getElem?_append_right (by simp [u64s, h])]
  simp [u64s, h]
theorem tcells_one (hc : cv.oneCell' = true) : (tcells cv t).all (·.oneCell') = true := by
  refine Array.all_eq_true_iff_forall_mem.2 ?_
  intro x hx
  simp [tcells] at hx
  rcases hx with rfl | rfl | hx | rfl | rfl
  · exact hc
  · rfl
  · exact one_u64s _ _ hx
  · rfl
  · rfl
theorem tcells_set_1 (pc : Int) : (tcells cv t).setIfInBounds 1 (.int .i64 pc) = tcells cv { t with pc := pc } := by
  simp [tcells]
theorem tcells_set_34 (h : t.regs.length = 32) (d : Bool) : (tcells cv t).setIfInBounds 34 (.bool d) = tcells cv { t with done := d } := by
  apply Array.ext'
  simp only [tcells, Array.toList_setIfInBounds]
  rw [List.set_append_right _ _ (by simp [u64s, h])]
  simp [u64s, h]
theorem tcells_set_35 (h : t.regs.length = 32) (a : Int) : (tcells cv t).setIfInBounds 35 (.int .i64 a) = tcells cv { t with ans := a } := by
  apply Array.ext'
  simp only [tcells, Array.toList_setIfInBounds]
  rw [List.set_append_right _ _ (by simp [u64s, h])]
  simp [u64s, h]
theorem tcells_set_reg (h : t.regs.length = 32) {i : Nat} (hi : i < 32) (x : Int) : (tcells cv t).setIfInBounds (2 + i) (.int .u64 x) = tcells cv { t with regs := t.regs.set i x } := by
  apply Array.ext'
  have e : 2 + i = (i + 1) + 1 := by omega
  simp only [tcells, Array.toList_setIfInBounds, e, List.cons_append, List.set_cons_succ]
  rw [List.set_append_left _ _ (by simp [u64s, h]; omega), u64s_set]
end

/-! ### Whole rows -/
section
variable {P : Program} {w : World} {ops : Array Oper} {rest : List Oper} {o : Oper} {a : Act} {Q : Exit → Act → World → Prop}
theorem wpList_load_box (hgd : o.guard = none) (ty : TypeId) (x : Operand) (ho : o.op = .load ty x)
    (g : Nat) (hx : a.eval x = .pointer (some ⟨g, 0, none⟩)) {t : TypeId} {cs : Array Value} (hB : Box w g t cs) (d : TypeDesc)
    (hu : P.underlying ty = some d) (hd : d.isRow = true) (hi : (P.info? ty).map (·.size) = some cs.size)
    (h : wpList P ops Q rest (a.put o.dst (.agg cs)) w) : wpList P ops Q (o :: rest) a w :=
  wpList_load_row hgd ty x ho g hx t cs (0, 0) d hB hu (by cases d <;> simp_all [TypeDesc.isRow]) hi h
theorem wpList_store_box (hgd : o.guard = none) (ty : TypeId) (x y : Operand) (ho : o.op = .store ty x y)
    (g : Nat) (hx : a.eval x = .pointer (some ⟨g, 0, none⟩)) (cs : Array Value) (hy : a.eval y = .agg cs) {t : TypeId} {old : Array Value} (hB : Box w g t old)
    (hi : (P.info? ty).map (·.size) = some cs.size) (hold : old.size = cs.size) (h1 : cs.all (·.oneCell') = true)
    (h : wpList P ops Q rest (a.put o.dst undef) (w.setRow g cs)) : wpList P ops Q (o :: rest) a w :=
  wpList_plain hgd fun _ hK => wp_store_row ty x y ho g cs hx hy t old hB hi hold h1 (hK _ _ h)
end
/-- Where the walk stops: at a load, or a store, of a whole row. -/
def AtLoad (P : Program) (ops : Array Oper) (Q : Exit → Act → World → Prop) (rest : List Oper) (o : Oper) (ty : TypeId) (x : Operand) (a : Act) (w : World) : Prop :=
  ∃ (g : Nat) (t : TypeId) (cs : Array Value) (d : TypeDesc), a.eval x = .pointer (some ⟨g, 0, none⟩) ∧ Box w g t cs ∧ P.underlying ty = some d ∧ d.isRow = true ∧
    (P.info? ty).map (·.size) = some cs.size ∧ wpList P ops Q rest (a.put o.dst (.agg cs)) w
def AtStore (P : Program) (ops : Array Oper) (Q : Exit → Act → World → Prop) (rest : List Oper) (o : Oper) (ty : TypeId) (x y : Operand) (a : Act) (w : World) : Prop :=
  ∃ (g : Nat) (t : TypeId) (old cs : Array Value), a.eval x = .pointer (some ⟨g, 0, none⟩) ∧ a.eval y = .agg cs ∧ Box w g t old ∧ (P.info? ty).map (·.size) = some cs.size ∧ old.size = cs.size ∧ cs.all (·.oneCell') = true ∧
    wpList P ops Q rest (a.put o.dst undef) (w.setRow g cs)
section
variable {P : Program} {w : World} {ops : Array Oper} {rest : List Oper} {o : Oper} {a : Act} {Q : Exit → Act → World → Prop}
theorem load_stop (hgd : o.guard = none) (ty : TypeId) (x : Operand) (ho : o.op = .load ty x) (h : AtLoad P ops Q rest o ty x a w) : wpList P ops Q (o :: rest) a w := by
  obtain ⟨g, t, cs, d, hx, hB, hu, hd, hi, h⟩ := h
  exact wpList_load_box hgd ty x ho g hx hB d hu hd hi h
theorem store_stop (hgd : o.guard = none) (ty : TypeId) (x y : Operand) (ho : o.op = .store ty x y) (h : AtStore P ops Q rest o ty x y a w) : wpList P ops Q (o :: rest) a w := by
  obtain ⟨g, t, old, cs, hx, hy, hB, hi, hold, h1, h⟩ := h
  exact wpList_store_box hgd ty x y ho g hx cs hy hB hi hold h1 h
theorem AtLoad.go {ty : TypeId} {x : Operand} (g : Nat) {t : TypeId} {cs : Array Value} {d : TypeDesc} (hx : a.eval x = .pointer (some ⟨g, 0, none⟩)) (hB : Box w g t cs) (hu : P.underlying ty = some d)
    (hd : d.isRow = true) (hi : (P.info? ty).map (·.size) = some cs.size) (h : wpList P ops Q rest (a.put o.dst (.agg cs)) w) : AtLoad P ops Q rest o ty x a w :=
  ⟨g, t, cs, d, hx, hB, hu, hd, hi, h⟩
theorem AtStore.go {ty : TypeId} {x y : Operand} (g : Nat) {t : TypeId} {old cs : Array Value} (hx : a.eval x = .pointer (some ⟨g, 0, none⟩)) (hy : a.eval y = .agg cs) (hB : Box w g t old) (hi : (P.info? ty).map (·.size) = some cs.size)
    (hold : old.size = cs.size) (h1 : cs.all (·.oneCell') = true) (h : wpList P ops Q rest (a.put o.dst undef) (w.setRow g cs)) : AtStore P ops Q rest o ty x y a w :=
  ⟨g, t, old, cs, hx, hy, hB, hi, hold, h1, h⟩
end
section
variable {w w' : World} {g : Nat} {t : TypeId} {cs cs' : Array Value}
theorem Box.row (h : Box w g t cs) (cs' : Array Value) : Box (w.setRow g cs') g t cs' := setRow_heap w g cs cs' t (0, 0) h
theorem Box.row_far (h : Box w g t cs) {k : Nat} (hk : g ≠ k) (cs' : Array Value) : Box (w.setRow k cs') g t cs := (setRow_other w k g cs' hk).trans h
theorem below_row {B : Nat} {a w : World} (h : Below B a w) {g : Nat} (hg : B ≤ g) (cs : Array Value) : Below B a (w.setRow g cs) :=
  h.trans ⟨rfl, rfl, rfl, by simp, fun k hk => setRow_other w g k cs (by omega)⟩
end

theorem size_task : (Try.prog.info? 42).map (·.size) = some 36 := by kernel_rfl
theorem size_task' {cs : Array Value} (h : cs.size = 36) : (Try.prog.info? 42).map (·.size) = some cs.size := by rw [h]; exact size_task

/-- A call that hands back a task's cells and has turned nothing that was there. -/
def TskPost (cv : Value) (t : Tsk) (w : World) (e : Ending) (w' : World) : Prop := e = .returned (.agg (tcells cv t)) ∧ Below w.heap.size w w'

set_option maxHeartbeats 1000000 in
/-- task.ended. -/
theorem ended_call (cv : Value) (t : Tsk) (a : Int) (w : World) (ht : t.regs.length = 32) (hc : cv.oneCell' = true) :
    Calls Try.prog 77 #[.agg (tcells cv t), .int .i64 a] w (TskPost cv { t with done := true, ans := a } w) := by
  have hsz : (tcells cv { t with done := true, ans := a }).size = 36 := tcells_size ht
  have f34 := tcells_34 (cv := cv) ht
  have f35 := tcells_35 (cv := cv) ht
  have e2 : ((tcells cv t).setIfInBounds 34 (.bool true)).setIfInBounds 35 (.int .i64 a) = tcells cv { t with done := true, ans := a } := by rw [tcells_set_34 ht, tcells_set_35 (t := { t with done := true }) ht]
  have HE := Lib.hid e2
  have HS := Lib.hid hsz
  have h1 := Lib.hid (tcells_one (t := { t with done := true, ans := a }) hc)
  clear hsz ht e2
  go_enter Try.func77, Try.ntmps77
  go_wp2_with (first | with_reducible refine load_stop rfl 42 _ rfl ?_ | with_reducible refine store_stop rfl 42 _ _ rfl ?_)
  refine AtLoad.go w.heap.size rfl ((Box.new w _ _).alloc _) Try.underlying42 rfl (size_task' (by rw [HE.out]; exact HS.out)) ?_
  rw [HE.out]
  go_wp2_with (first | with_reducible refine load_stop rfl 42 _ rfl ?_ | with_reducible refine store_stop rfl 42 _ _ rfl ?_)
  refine AtStore.go (w.heap.size + 1) rfl rfl (Box.at_ (by simp) _ _) (size_task' HS.out) (by rw [HS.out]; rfl) h1.out ?_
  go_wp2
  refine bodyPost_ret (results_cell_row Try.results77 _ _ (w.heap.size + 1) 42 _ (0, 0) _ rfl ((Box.at_ (by simp) _ _).row _) Try.underlying42 rfl (size_task' HS.out)) rfl ⟨rfl, ?_⟩
  exact below_row (((Below.refl _ w).alloc (Nat.le_refl _) _).alloc (by simp) _) (by omega) _
end Go.Proofs.Ytpkelneimjmmkaa

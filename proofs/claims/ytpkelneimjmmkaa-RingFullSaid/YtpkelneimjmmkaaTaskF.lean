/- The contracts of task.known and task.Start. -/
import Derived.Test.YtpkelneimjmmkaaTaskE
import Derived.Test.YtpkelneimjmmkaaPureM
namespace Go.Proofs.Ytpkelneimjmmkaa
open Go.RowKit

/-- A value that is this task: its code reads in this world. -/
def IsTask (w : World) (v : Value) (T : FT) : Prop := ∃ cv, v = .agg (tcells cv T.t) ∧ Inss w cv T.code ∧ T.t.ok ∧ cv.oneCell' = true
theorem IsTask.below {w w' : World} {v : Value} {T : FT} (h : IsTask w v T) (hb : Below w.heap.size w w') : IsTask w' v T := by
  obtain ⟨cv, e, hi, ht, hc⟩ := h
  exact ⟨cv, e, hi.below hb, ht, hc⟩
theorem IsTask.ok {w : World} {v : Value} {T : FT} (h : IsTask w v T) : T.ok := by
  obtain ⟨cv, e, hi, ht, hc⟩ := h
  exact ⟨ht, hi.2⟩
theorem Inss.nil (w : World) : Inss w (.slice none 0 0) [] := ⟨Sl.nil w 5, fun x hx => by simp at hx⟩
theorem Inss.one {w : World} {v : Value} {l : List Insn} (h : Inss w v l) : v.oneCell' = true := by
  obtain ⟨A, c, rfl, _⟩ := h.1.form; rfl
/-- Where a started task's code lies. -/
def startCv (l : List Insn) (v : Value) : Value := if Sane l then v else .slice none 0 0
theorem startCv_inss {w : World} {v : Value} {l : List Insn} (h : Inss w v l) : Inss w (startCv l v) (startT l).code := by
  unfold startCv startT
  split
  · exact h
  · exact Inss.nil w
theorem startCv_one {w : World} {v : Value} {l : List Insn} (h : Inss w v l) : (startCv l v).oneCell' = true := by
  unfold startCv
  split
  · exact h.one
  · rfl

theorem tknown_call {v : Value} {ms : List Int} {w : World} (h : Words w v ms) : Calls Try.prog 75 #[v] w (OwnPost (counts ms) w) := by
  have H := Lib.hid h
  clear h
  go_enter Try.func75, Try.ntmps75
  go_wp2_with fail
  refine (run_call (l := []) H.out ⟨Sl.nil w 4, fun x hx => by simp at hx⟩ (by simp)).mono ?_
  rintro e w1 ⟨v1, v2, rfl, ho, _, hb⟩
  have F : Hid (OwnPost (counts ms) w (.returned v1) w1) := Lib.hid ⟨v1, rfl, ho, hb⟩
  clear ho hb
  go_wp2
  go_ret
  exact F.out

set_option maxHeartbeats 2000000 in
theorem start_call {v : Value} {l : List Insn} {w : World} (h : Inss w v l) : Calls Try.prog 36 #[v] w (TskPost (startCv l v) (startT l).t w) := by
  have H := Lib.hid h
  obtain ⟨A, c, rfl, _⟩ := h.1.form
  clear h
  go_enter Try.func36, Try.ntmps36
  go_wp2_with fail
  refine (sane_call (H.out.alloc _)).mono ?_
  rintro e w1 ⟨rfl, hb⟩
  have hB : Below w.heap.size w w1 := below_call ((Below.refl _ w).alloc (Nat.le_refl _) _) hb (by simp)
  have B1 := Lib.hid hB
  have bx : ∃ z, Box w1 w.heap.size 42 z ∧ z.size = 36 := ⟨_, (Box.new w _ _).kept hb, rfl⟩
  obtain ⟨z, bx, hz⟩ := bx
  have BX := Lib.hid bx
  clear hb hB bx
  by_cases hs : Sane l
  · rw [decide_eq_true hs]
    have HS := Lib.hid hs
    have I1 := Lib.hid (H.out.below (w' := w1) (B1.out))
    clear hs
    go_wp2_with (first | with_reducible refine load_stop rfl 42 _ rfl ?_ | with_reducible refine store_stop rfl 42 _ _ rfl ?_)
    refine (rest_call (cv := .slice A l.length c) (t := tsk0) HS.out I1.out tsk0_ok rfl).mono ?_
    rintro e w2 ⟨rfl, hb2⟩
    have hok : (rest l tsk0).ok := rest_ok H.out.2 (by have := HS.out.2.2; omega) tsk0_ok
    have hsz : (tcells (.slice A l.length c) (rest l tsk0)).size = 36 := tcells_size hok.1
    have h1 := Lib.hid (tcells_one (cv := .slice A l.length c) (t := rest l tsk0) rfl)
    have BX2 := Lib.hid (BX.out.kept hb2)
    have F : Hid (TskPost (startCv l (.slice A l.length c)) (startT l).t w (.returned (.agg (tcells (.slice A l.length c) (rest l tsk0)))) (w2.setRow w.heap.size (tcells (.slice A l.length c) (rest l tsk0)))) := Lib.hid (by
      have hb : Below w.heap.size w (w2.setRow w.heap.size (tcells (.slice A l.length c) (rest l tsk0))) := below_row (below_call B1.out hb2 B1.out.size) (Nat.le_refl _) _
      have e : startT l = ⟨l, rest l tsk0⟩ := by unfold startT; rw [if_pos HS.out]
      have e2 : startCv l (.slice A l.length c) = .slice A l.length c := by unfold startCv; rw [if_pos HS.out]
      exact ⟨by rw [e, e2], hb⟩)
    clear hok hb2
    generalize tcells (.slice A l.length c) (rest l tsk0) = cs at *
    have HSZ := Lib.hid hsz
    clear hsz
    go_wp2_with (first | with_reducible refine load_stop rfl 42 _ rfl ?_ | with_reducible refine store_stop rfl 42 _ _ rfl ?_)
    refine AtStore.go w.heap.size rfl rfl BX2.out (size_task' HSZ.out) (by rw [hz, HSZ.out]) h1.out ?_
    go_wp2
    exact bodyPost_ret (results_cell_row Try.results36 _ _ w.heap.size 42 _ (0, 0) _ rfl (BX2.out.row _) Try.underlying42 rfl (size_task' HSZ.out)) rfl F.out
  · rw [decide_eq_false hs]
    have HS := Lib.hid hs
    clear hs
    go_wp2_with (first | with_reducible refine load_stop rfl 42 _ rfl ?_ | with_reducible refine store_stop rfl 42 _ _ rfl ?_)
    refine (ended_call (.slice none 0 0) tsk0 (-1) w1 tsk0_ok.1 rfl).mono ?_
    rintro e w2 ⟨rfl, hb2⟩
    have hok : ({ tsk0 with done := true, ans := -1 } : Tsk).ok := ⟨tsk0_ok.1, tsk0_ok.2.1, tsk0_ok.2.2.1, by simp [I64]⟩
    have hsz : (tcells (.slice none 0 0) { tsk0 with done := true, ans := -1 }).size = 36 := tcells_size hok.1
    have h1 := Lib.hid (tcells_one (cv := .slice none 0 0) (t := { tsk0 with done := true, ans := -1 }) rfl)
    have BX2 := Lib.hid (BX.out.kept hb2)
    have F : Hid (TskPost (startCv l (.slice A l.length c)) (startT l).t w (.returned (.agg (tcells (.slice none 0 0) { tsk0 with done := true, ans := -1 }))) (w2.setRow w.heap.size (tcells (.slice none 0 0) { tsk0 with done := true, ans := -1 }))) := Lib.hid (by
      have hb : Below w.heap.size w (w2.setRow w.heap.size (tcells (.slice none 0 0) { tsk0 with done := true, ans := -1 })) := below_row (below_call B1.out hb2 B1.out.size) (Nat.le_refl _) _
      have e : startT l = ⟨[], { tsk0 with done := true, ans := -1 }⟩ := by unfold startT; rw [if_neg HS.out]
      have e2 : startCv l (.slice A l.length c) = .slice none 0 0 := by unfold startCv; rw [if_neg HS.out]
      exact ⟨by rw [e, e2], hb⟩)
    clear hok hb2
    generalize tcells (.slice none 0 0) { tsk0 with done := true, ans := -1 } = cs at *
    have HSZ := Lib.hid hsz
    clear hsz
    go_wp2_with (first | with_reducible refine load_stop rfl 42 _ rfl ?_ | with_reducible refine store_stop rfl 42 _ _ rfl ?_)
    refine AtStore.go w.heap.size rfl rfl BX2.out (size_task' HSZ.out) (by rw [hz, HSZ.out]) h1.out ?_
    go_wp2
    exact bodyPost_ret (results_cell_row Try.results36 _ _ w.heap.size 42 _ (0, 0) _ rfl (BX2.out.row _) Try.underlying42 rfl (size_task' HSZ.out)) rfl F.out
end Go.Proofs.Ytpkelneimjmmkaa

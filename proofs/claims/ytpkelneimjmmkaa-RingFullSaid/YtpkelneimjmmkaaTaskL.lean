/- The document's example of layer 12: the walk of awake. -/
import Derived.Test.YtpkelneimjmmkaaTaskK
namespace Go.Proofs.Ytpkelneimjmmkaa
open Go.RowKit

theorem ex_sane : Sane exCode := by decide
theorem ex_one : (stepsT (startT exCode) [0] 9).1.t.done = true ∧ (stepsT (startT exCode) [0] 9).1.t.ans = -1 ∧ (stepsT (startT exCode) [0] 9).2.1 = [0] ∧ (stepsT (startT exCode) [0] 9).2.2 = 1 := by
  refine ⟨?_, ?_, ?_, ?_⟩ <;> decide +kernel
theorem ex_two : (stepsT (startT exCode) [3] 9).1.t.done = true ∧ (stepsT (startT exCode) [3] 9).1.t.ans = 5 ∧ (stepsT (startT exCode) [3] 9).2.1 = [4] ∧ (stepsT (startT exCode) [3] 9).2.2 = 2 := by
  refine ⟨?_, ?_, ?_, ?_⟩ <;> decide +kernel
theorem isTask_of {cv : Value} {l : List Insn} {w w' : World} (h : Inss w cv l) (hb : Below w.heap.size w w') : IsTask w' (.agg (tcells (startCv l cv) (startT l).t)) (startT l) :=
  ⟨_, rfl, startCv_inss (h.below hb), (startT_ok h.2).1, startCv_one h⟩
theorem wpl_at {P : Program} {ops : Array Oper} {Q : Exit → Act → World → Prop} {rest : List Oper} {a : Act} {W : World} (h : ∀ W0, W0 = W → wpList P ops Q rest a W0) : wpList P ops Q rest a W := h W rfl
theorem IsTask.parts {w : World} {v : Value} {T : FT} (h : IsTask w v T) : ∃ cs : Array Value, v = .agg cs ∧ cs.size = 36 ∧ cs.all (·.oneCell') = true ∧ cs[34]? = some (.bool T.t.done) ∧ cs[35]? = some (.int .i64 T.t.ans) := by
  obtain ⟨cv, rfl, _, ht, hc⟩ := h
  exact ⟨_, rfl, tcells_size ht.1, tcells_one hc, tcells_34 ht.1, tcells_35 ht.1⟩

set_option maxHeartbeats 4000000 in
theorem awake12 (w : World) : Calls Try.prog 32 #[] w (BoolPost true w) := by
  go_enter Try.func32, Try.ntmps32
  go_wp2_with fail
  refine (code_call w).mono ?_
  rintro e w1 ⟨v1, rfl, hi1, hb1⟩
  have HI1 := Lib.hid hi1
  have HB1 := Lib.hid hb1
  clear hi1 hb1
  go_wp2_with fail
  refine (start_call HI1.out).mono ?_
  rintro e w2 ⟨rfl, hb2⟩
  have ht2 := isTask_of HI1.out hb2
  have HB2 := Lib.hid (below_call HB1.out hb2 HB1.out.size)
  have hv : ∃ C, C = tcells (startCv exCode v1) (startT exCode).t := ⟨_, rfl⟩
  obtain ⟨C, hC⟩ := hv
  rw [← hC] at ht2 ⊢
  have HT2 := Lib.hid ht2
  clear ht2 hb2 HI1 HB1 hC
  go_wp2_with fail
  refine (steps_call (ms := [0]) (HT2.out.below ((Below.refl _ w2).alloc (Nat.le_refl _) _)) (words_new w2 [0] (by simp [W64]) (by simp) _)).mono ?_
  obtain ⟨x1, x2, x3, x4⟩ := ex_one
  rintro e w3 ⟨v2, v3, rfl, ht3, ho3, hb3⟩
  rw [x4]
  rw [x3] at ho3
  have hT3 := ht3 w3 (HT2.out.below (below_call ((Below.refl _ w2).alloc (Nat.le_refl _) _) hb3 (by simp)))
  obtain ⟨cs3, rfl, hsz3, hone3, d34, d35⟩ := hT3.parts
  rw [x1] at d34
  rw [x2] at d35
  have HB3 : Hid (Below w.heap.size w w3) := Lib.hid (below_call (HB2.out.alloc HB2.out.size _) hb3 (by have := HB2.out.size; simp; omega))
  have HW3 : Hid (Words w3 v3 [0]) := Lib.hid ho3.words
  have HSZ3 := Lib.hid hsz3
  have HONE3 := Lib.hid hone3
  clear x1 x2 x3 x4 ht3 ho3 hb3 hT3 hsz3 hone3 HB2 HT2
  go_wp2_with (first | with_reducible refine load_stop rfl 42 _ rfl ?_ | with_reducible refine store_stop rfl 42 _ _ rfl ?_)
  refine AtStore.go w3.heap.size rfl rfl (Box.new w3 _ _) (size_task' HSZ3.out) (by rw [HSZ3.out]; rfl) HONE3.out ?_
  go_wp2_with fail
  refine calls_at fun W4 hW4 => ?_
  have hb4 : Below w3.heap.size w3 W4 := by rw [hW4]; exact below_row ((Below.refl _ w3).alloc (Nat.le_refl _) _) (Nat.le_refl _) _
  have HBX4 : Hid (Box W4 w3.heap.size 42 cs3) := Lib.hid (by rw [hW4]; exact (Box.new w3 _ _).row _)
  have HW4 := Lib.hid (HW3.out.below hb4)
  have HB4 := Lib.hid (below_call HB3.out hb4 HB3.out.size)
  clear hW4 hb4 HW3 HB3 HSZ3 HONE3
  refine (code_call W4).mono ?_
  rintro e w5 ⟨v5, rfl, hi5, hb5⟩
  have HI5 := Lib.hid hi5
  have HB5 := Lib.hid (below_call HB4.out hb5 HB4.out.size)
  have HBX5 := Lib.hid (HBX4.out.kept hb5)
  have HW5 := Lib.hid (HW4.out.below hb5)
  clear hi5 hb5 HBX4 HW4 HB4
  go_wp2_with fail
  refine (start_call HI5.out).mono ?_
  rintro e w6 ⟨rfl, hb6⟩
  have ht6 := isTask_of HI5.out hb6
  have hv : ∃ C, C = tcells (startCv exCode v5) (startT exCode).t := ⟨_, rfl⟩
  obtain ⟨C6, hC⟩ := hv
  rw [← hC] at ht6 ⊢
  have HT6 := Lib.hid ht6
  have HB6 := Lib.hid (below_call HB5.out hb6 HB5.out.size)
  have HBX6 := Lib.hid (HBX5.out.kept hb6)
  have HW6 := Lib.hid (HW5.out.below hb6)
  clear ht6 hb6 HI5 HB5 hC HBX5 HW5
  go_wp2_with fail
  refine (steps_call (ms := [3]) (HT6.out.below ((Below.refl _ w6).alloc (Nat.le_refl _) _)) (words_new w6 [3] (by simp [W64]) (by simp) _)).mono ?_
  obtain ⟨x1, x2, x3, x4⟩ := ex_two
  rintro e w7 ⟨v7, v8, rfl, ht7, ho7, hb7'⟩
  rw [x4]
  rw [x3] at ho7
  have hb7 := below_call ((Below.refl _ w6).alloc (Nat.le_refl _) _) hb7' (by simp)
  have hT7 := ht7 w7 (HT6.out.below hb7)
  obtain ⟨cs7, rfl, hsz7, hone7, f34, f35⟩ := hT7.parts
  rw [x1] at f34
  rw [x2] at f35
  have HB7 : Hid (Below w.heap.size w w7) := Lib.hid (below_call HB6.out hb7 HB6.out.size)
  have HV7 : Hid (Words w7 v8 [4]) := Lib.hid ho7.words
  have HW7 := Lib.hid (HW6.out.below hb7)
  have HBX7 := Lib.hid (HBX6.out.kept hb7)
  have HSZ7 := Lib.hid hsz7
  have HONE7 := Lib.hid hone7
  clear x1 x2 x3 x4 ht7 ho7 hb7 hb7' hT7 hsz7 hone7 HB6 HT6 HW6 HBX6
  go_wp2_with (first | with_reducible refine load_stop rfl 42 _ rfl ?_ | with_reducible refine store_stop rfl 42 _ _ rfl ?_)
  refine AtStore.go w7.heap.size rfl rfl (Box.new w7 _ _) (size_task' HSZ7.out) (by rw [HSZ7.out]; rfl) HONE7.out ?_
  refine wpl_at fun W8 hW8 => ?_
  have hb8 : Below w7.heap.size w7 W8 := by rw [hW8]; exact below_row ((Below.refl _ w7).alloc (Nat.le_refl _) _) (Nat.le_refl _) _
  have bx8 : Box W8 w7.heap.size 42 cs7 := by rw [hW8]; exact (Box.new w7 _ _).row _
  have by8 := HBX7.out.kept hb8
  have HW8 := Lib.hid (HW7.out.below hb8)
  have HV8 := Lib.hid (HV7.out.below hb8)
  have HB8 := Lib.hid (below_call HB7.out hb8 HB7.out.size)
  have HBX8 := Lib.hid bx8
  have HBY8 := Lib.hid by8
  have g34 := (by8.cell 34).trans d34
  have g35 := (by8.cell 35).trans d35
  clear hW8 hb8 bx8 by8 HW7 HV7 HB7 HBX7 d34 d35
  go_wp2_with fail
  refine (same_call (a := [0]) (b := [0]) (HW8.out.alloc _) (words_new W8 [0] (by simp [W64]) (by simp) _)).mono ?_
  rintro e w9 ⟨rfl, hb9'⟩
  have hb9 := below_call ((Below.refl _ W8).alloc (Nat.le_refl _) _) hb9' (by simp)
  have HV9 := Lib.hid (HV8.out.below hb9)
  have HB9 := Lib.hid (below_call HB8.out hb9 HB8.out.size)
  have k34 := ((HBX8.out.kept hb9).cell 34).trans f34
  have k35 := ((HBX8.out.kept hb9).cell 35).trans f35
  clear hb9 hb9' HW8 HV8 HB8 HBX8 HBY8 g34 g35 f34 f35
  rw [decide_eq_true rfl]
  go_wp2_with fail
  refine (same_call (a := [4]) (b := [4]) (HV9.out.alloc _) (words_new w9 [4] (by simp [W64]) (by simp) _)).mono ?_
  rintro e w10 ⟨rfl, hb10'⟩
  have HB10 := Lib.hid (below_call HB9.out (below_call ((Below.refl _ w9).alloc (Nat.le_refl _) _) hb10' (by simp)) HB9.out.size)
  clear hb10' HV9 HB9 k34 k35
  rw [decide_eq_true rfl]
  go_wp2_with fail
  refine (code_call w10).mono ?_
  rintro e w11 ⟨v11, rfl, hi11, hb11⟩
  have HI11 := Lib.hid hi11
  have HB11 := Lib.hid (below_call HB10.out hb11 HB10.out.size)
  clear hi11 hb11 HB10
  go_wp2_with fail
  refine (sane_call HI11.out).mono ?_
  rintro e w12 ⟨rfl, hb12⟩
  have HB12 := Lib.hid (below_call HB11.out hb12 HB11.out.size)
  clear hb12 HB11
  rw [decide_eq_true ex_sane]
  go_wp2
  go_ret
  exact ⟨rfl, HB12.out⟩
end Go.Proofs.Ytpkelneimjmmkaa

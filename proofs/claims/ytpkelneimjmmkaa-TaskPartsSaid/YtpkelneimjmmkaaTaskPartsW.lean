/- The walk of TaskParts. -/
import Derived.Test.YtpkelneimjmmkaaTaskOneW
import Derived.Test.YtpkelneimjmmkaaPureV
namespace Go.Proofs.Ytpkelneimjmmkaa
open Go.RowKit

set_option maxHeartbeats 8000000 in
set_option maxRecDepth 20000 in
theorem taskParts_walk {v vm : Value} {T : FT} {ms : List Int} {a b : Int} {w : World} (h : IsTask w v T) (hm : Words w vm ms) (ha : I64 a) (hb : I64 b) : Calls Try.prog 11 #[v, vm, .int .i64 a, .int .i64 b] w (BoolPost true w) := by
  obtain ⟨B, d, rfl, hd1, hd2, _⟩ := hm.1.form
  unfold maxLen at hd2
  have HM := Lib.hid hm
  have HT := Lib.hid h
  obtain ⟨cv, rfl, hI, ht, hc⟩ := h
  obtain ⟨A, c, hcv, hc1, hc2, _⟩ := hI.1.form
  unfold maxLen at hc2
  unfold I64 at ha hb
  have e0 : (tcells cv T.t)[0]? = some (.slice A T.code.length c) := by rw [tcells_0, hcv]
  have HSZ := Lib.hid (tcells_size (cv := cv) ht.1)
  generalize hC : tcells cv T.t = C at *
  clear hm hI ht hc hC
  go_enter Try.func11, Try.ntmps11
  go_wp2_with fail
  refine (awake12 _).mono ?_
  rintro e w1 ⟨rfl, hb1⟩
  have bx1 : Box w1 w.heap.size 42 C := (Box.new w _ _).kept hb1
  have hb2 : Below w.heap.size w w1 := below_call ((Below.refl _ w).alloc (Nat.le_refl _) _) hb1 (by simp)
  have BX1 := Lib.hid bx1
  have HB1 := Lib.hid hb2
  have d0 := (bx1.cell 0).trans e0
  clear hb1 hb2 bx1
  by_cases h210 : 210 < T.code.length
  · have h210' : (210 : Int) < (T.code.length : Int) := by omega
    go_wp2
    go_ret
    exact ⟨rfl, HB1.out⟩
  have n210 : ¬ (210 : Int) < (T.code.length : Int) := by omega
  by_cases h256 : 256 < ms.length
  · have h256' : (256 : Int) < (ms.length : Int) := by omega
    go_wp2
    go_ret
    exact ⟨rfl, HB1.out⟩
  have n256 : ¬ (256 : Int) < (ms.length : Int) := by omega
  by_cases ha0 : a < 0
  · go_wp2
    go_ret
    exact ⟨rfl, HB1.out⟩
  by_cases ha3 : 300 < a
  · go_wp2
    go_ret
    exact ⟨rfl, HB1.out⟩
  by_cases hb0 : b < 0
  · go_wp2
    go_ret
    exact ⟨rfl, HB1.out⟩
  by_cases hb3 : 300 < b
  · go_wp2
    go_ret
    exact ⟨rfl, HB1.out⟩
  have hab : IntKind.i64.wrap (a + b) = a + b := by rw [IntKind.wrap_i64]; omega
  have HP := Lib.hid (steps_parts T ms (a := a) (b := b) (by omega) (by omega) (by omega) (by omega))
  have HQ := Lib.hid (steps_most T ms (a := a) (by omega) (by omega))
  go_wp2_with (first | with_reducible refine load_stop rfl 42 _ rfl ?_ | with_reducible refine store_stop rfl 42 _ _ rfl ?_)
  refine AtLoad.go w.heap.size rfl BX1.out Try.underlying42 rfl (size_task' HSZ.out) ?_
  go_wp2_with (first | with_reducible refine load_stop rfl 42 _ rfl ?_ | with_reducible refine store_stop rfl 42 _ _ rfl ?_)
  refine (steps_call (HT.out.below HB1.out) (HM.out.below HB1.out)).mono ?_
  rintro e w2 ⟨v2, v3, rfl, ht2, ho2, hb2⟩
  have hT2 := ht2 w2 (HT.out.below (below_call HB1.out hb2 HB1.out.size))
  obtain ⟨C2, rfl, hsz2, hone2, x34, _⟩ := hT2.parts
  have HT2 := Lib.hid hT2
  have HW2 := Lib.hid ho2.words
  have HB2 := Lib.hid (below_call HB1.out hb2 HB1.out.size)
  have HSZ2 := Lib.hid hsz2
  have HONE2 := Lib.hid hone2
  have BX2 := Lib.hid (BX1.out.kept hb2)
  clear ht2 ho2 hb2 hT2 hsz2 hone2 BX1 HB1 d0
  go_wp2_with (first | with_reducible refine load_stop rfl 42 _ rfl ?_ | with_reducible refine store_stop rfl 42 _ _ rfl ?_)
  refine AtStore.go w2.heap.size rfl rfl (Box.new w2 _ _) (size_task' HSZ2.out) (by rw [HSZ2.out]; rfl) HONE2.out ?_
  refine wpl_at fun W3 hW3 => ?_
  have hb3 : Below w2.heap.size w2 W3 := by rw [hW3]; exact below_row ((Below.refl _ w2).alloc (Nat.le_refl _) _) (Nat.le_refl _) _
  have HY3 := Lib.hid (by rw [hW3]; exact (Box.new w2 _ _).row _ : Box W3 w2.heap.size 42 C2)
  have BX3 := Lib.hid (BX2.out.kept hb3)
  have HB3 := Lib.hid (below_call HB2.out hb3 HB2.out.size)
  have HW3 := Lib.hid (HW2.out.below hb3)
  have HT3 := Lib.hid (HT2.out.below hb3)
  clear hW3 hb3 BX2 HB2 HW2 HT2
  go_wp2_with (first | with_reducible refine load_stop rfl 42 _ rfl ?_ | with_reducible refine store_stop rfl 42 _ _ rfl ?_)
  refine AtLoad.go w2.heap.size rfl HY3.out Try.underlying42 rfl (size_task' HSZ2.out) ?_
  go_wp2_with (first | with_reducible refine load_stop rfl 42 _ rfl ?_ | with_reducible refine store_stop rfl 42 _ _ rfl ?_)
  refine (steps_call HT3.out HW3.out).mono ?_
  rintro e w4 ⟨v4, v5, rfl, ht4, ho4, hb4⟩
  have hT4 := ht4 w4 (HT3.out.below hb4)
  obtain ⟨C4, rfl, hsz4, hone4, _, _⟩ := hT4.parts
  have HT4 := Lib.hid hT4
  have HW4 := Lib.hid ho4.words
  have HB4 := Lib.hid (below_call HB3.out hb4 HB3.out.size)
  have HSZ4 := Lib.hid hsz4
  have HONE4 := Lib.hid hone4
  have BX4 := Lib.hid (BX3.out.kept hb4)
  have HY4 := Lib.hid (HY3.out.kept hb4)
  clear ht4 ho4 hb4 hT4 hsz4 hone4 BX3 HB3 HY3 HW3 HT3
  go_wp2_with (first | with_reducible refine load_stop rfl 42 _ rfl ?_ | with_reducible refine store_stop rfl 42 _ _ rfl ?_)
  refine AtStore.go w4.heap.size rfl rfl (Box.new w4 _ _) (size_task' HSZ4.out) (by rw [HSZ4.out]; rfl) HONE4.out ?_
  refine wpl_at fun W5 hW5 => ?_
  have hb5 : Below w4.heap.size w4 W5 := by rw [hW5]; exact below_row ((Below.refl _ w4).alloc (Nat.le_refl _) _) (Nat.le_refl _) _
  have HZ5 := Lib.hid (by rw [hW5]; exact (Box.new w4 _ _).row _ : Box W5 w4.heap.size 42 C4)
  have BX5 := Lib.hid (BX4.out.kept hb5)
  have HY5 := Lib.hid (HY4.out.kept hb5)
  have HB5 := Lib.hid (below_call HB4.out hb5 HB4.out.size)
  have HW5 := Lib.hid (HW4.out.below hb5)
  have HT5 := Lib.hid (HT4.out.below hb5)
  clear hW5 hb5 BX4 HB4 HW4 HT4 HY4
  go_wp2_with (first | with_reducible refine load_stop rfl 42 _ rfl ?_ | with_reducible refine store_stop rfl 42 _ _ rfl ?_)
  refine AtLoad.go w.heap.size rfl BX5.out Try.underlying42 rfl (size_task' HSZ.out) ?_
  go_wp2_with (first | with_reducible refine load_stop rfl 42 _ rfl ?_ | with_reducible refine store_stop rfl 42 _ _ rfl ?_)
  refine (steps_call (HT.out.below HB5.out) (HM.out.below HB5.out)).mono ?_
  rw [HP.out]
  rintro e w6 ⟨v6, v7, rfl, ht6, ho6, hb6⟩
  have hT6 := ht6 w6 (HT.out.below (below_call HB5.out hb6 HB5.out.size))
  obtain ⟨C6, rfl, hsz6, hone6, _, _⟩ := hT6.parts
  have HT6 := Lib.hid hT6
  have HW6 := Lib.hid ho6.words
  have HB6 := Lib.hid (below_call HB5.out hb6 HB5.out.size)
  have HSZ6 := Lib.hid hsz6
  have HONE6 := Lib.hid hone6
  have HZ6 := Lib.hid (HZ5.out.kept hb6)
  have HY6 := Lib.hid (HY5.out.kept hb6)
  have HV6 := Lib.hid (HW5.out.below hb6)
  have HU6 := Lib.hid (HT5.out.below hb6)
  clear ht6 ho6 hb6 hT6 hsz6 hone6 BX5 HB5 HY5 HZ5 HW5 HT5
  have hq := HQ.out
  have hn2 := stepsN_le (atMost b) (stepsT T ms a).1 (counts (stepsT T ms a).2.1)
  have hn3 : (stepsT (stepsT T ms a).1 (stepsT T ms a).2.1 b).2.2 ≤ 300 := by
    have : atMost b ≤ 300 := by unfold atMost; omega
    unfold stepsT at *
    omega
  clear hn2
  generalize stepsT (stepsT T ms a).1 (stepsT T ms a).2.1 b = R2 at *
  generalize stepsT T ms a = R1 at *
  obtain ⟨T1, m1, n1⟩ := R1
  obtain ⟨T2, m2, n2⟩ := R2
  simp only at hq hn3 HT6 HW6 HV6 HU6 x34
  clear HP HQ
  simp only
  have hsum : IntKind.i64.wrap ((n1 : Int) + (n2 : Int)) = ((n1 + n2 : Nat) : Int) := by rw [IntKind.wrap_i64]; omega
  go_wp2_with (first | with_reducible refine load_stop rfl 42 _ rfl ?_ | with_reducible refine store_stop rfl 42 _ _ rfl ?_)
  refine AtStore.go w6.heap.size rfl rfl (Box.new w6 _ _) (size_task' HSZ6.out) (by rw [HSZ6.out]; rfl) HONE6.out ?_
  refine wpl_at fun W7 hW7 => ?_
  have hb7 : Below w6.heap.size w6 W7 := by rw [hW7]; exact below_row ((Below.refl _ w6).alloc (Nat.le_refl _) _) (Nat.le_refl _) _
  have HX7 := Lib.hid (by rw [hW7]; exact (Box.new w6 _ _).row _ : Box W7 w6.heap.size 42 C6)
  have HZ7 := Lib.hid (HZ6.out.kept hb7)
  have HY7 := Lib.hid (HY6.out.kept hb7)
  have HB7 := Lib.hid (below_call HB6.out hb7 HB6.out.size)
  have HW7 := Lib.hid (HW6.out.below hb7)
  have HV7 := Lib.hid (HV6.out.below hb7)
  have HT7 := Lib.hid (HT6.out.below hb7)
  have HU7 := Lib.hid (HU6.out.below hb7)
  clear hW7 hb7 HZ6 HY6 HB6 HW6 HV6 HT6 HU6
  go_wp2_with (first | with_reducible refine mid_stop 42 _ rfl ?_)
  refine AtMid.go rfl w4.heap.size 0 rfl HZ7.out.rangeA Try.underlying42 rfl (by rw [Array.length_toList]; exact size_task' HSZ4.out) ?_
  go_wp2_with (first | with_reducible refine mid_stop 42 _ rfl ?_)
  refine AtMid.go rfl w6.heap.size 0 rfl HX7.out.rangeA Try.underlying42 rfl (by rw [Array.length_toList]; exact size_task' HSZ6.out) ?_
  rw [Array.toArray_toList, Array.toArray_toList]
  go_wp2_with fail
  refine (tsame_call (x := true) (by exact ⟨fun _ => ⟨rfl, rfl, rfl, rfl, rfl, fun _ _ => rfl⟩, fun _ => rfl⟩) HU7.out HT7.out).mono ?_
  rintro e w8 ⟨rfl, hb8⟩
  have HB8 := Lib.hid (below_call HB7.out hb8 HB7.out.size)
  have HY8 := Lib.hid (HY7.out.kept hb8)
  have HW8 := Lib.hid (HW7.out.below hb8)
  have HV8 := Lib.hid (HV7.out.below hb8)
  clear hb8 HB7 HY7 HW7 HV7 HT7 HU7 HX7 HZ7
  go_wp2_with fail
  refine (same_call HV8.out HW8.out).mono ?_
  rintro e w9 ⟨rfl, hb9⟩
  have HB9 := Lib.hid (below_call HB8.out hb9 HB8.out.size)
  have y34 := ((HY8.out.kept hb9).cell 34).trans x34
  rw [decide_eq_true rfl]
  clear hb9 HB8 HY8 HW8 HV8 x34
  obtain ⟨q1, q2⟩ := hq
  by_cases hna : (n1 : Int) = a
  · go_wp2
    go_ret
    exact ⟨rfl, HB9.out⟩
  · have hdn : T1.t.done = true := by
      rcases q2 with q2 | q2
      · exact absurd q2 hna
      · exact q2
    rw [hdn] at y34
    clear q2 hdn
    go_wp2
    go_ret
    exact ⟨rfl, HB9.out⟩
end Go.Proofs.Ytpkelneimjmmkaa

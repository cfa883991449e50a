/- The document's example of layer 15. -/
import Derived.Test.YtpkelneimjmmkaaSeqH
import Derived.Test.YtpkelneimjmmkaaTaskN
namespace Go.Proofs.Ytpkelneimjmmkaa
open Go.RowKit

def exW : FT × List Int × Nat := stepsT (startT (writeC 2 0 [7, 8, 9])) (zeros 6) 99
def exT : FT × List Int × Nat := stepsT (startT (tryC 2 3 2)) exW.2.1 99
theorem exW_is : exW.1.t.done = true ∧ exW.1.t.ans = 1 ∧ exW.2.2 = 5 := by
  refine ⟨?_, ?_, ?_⟩ <;> decide +kernel
theorem exT_is : exT.2.2 = 5 ∧ takenB exT.1 3 = true ∧ takenV exT.1 3 = 1 ∧ takenL exT.1 3 = [7, 8, 9] := by
  refine ⟨?_, ?_, ?_, ?_⟩ <;> decide +kernel

set_option maxHeartbeats 8000000 in
set_option maxRecDepth 20000 in
theorem awake15 (w : World) : Calls Try.prog 46 #[] w (BoolPost true w) := by
  go_enter Try.func46, Try.ntmps46
  go_wp2_with fail
  refine (new_call 6 ⟨by omega, by omega⟩ w).mono ?_
  rintro e w1 ⟨v1, rfl, ho1, hb1⟩
  have HBW := Lib.hid hb1
  have HM := Lib.hid (ho1.words)
  clear hb1 ho1
  go_wp2_with fail
  refine calls_at fun Wa hWa => ?_
  have hba : Below w1.heap.size w1 Wa := by rw [hWa]; exact (Below.refl _ w1).alloc (Nat.le_refl _) _
  have HN : Hid (Words Wa (.slice (some ⟨w1.heap.size, 0, none⟩) 3 3) [7, 8, 9]) := Lib.hid (by rw [hWa]; exact words_new w1 [7, 8, 9] (by simp [W64]) (by simp) _)
  replace HM := Lib.hid (HM.out.below hba)
  replace HBW := Lib.hid (below_call HBW.out hba HBW.out.size)
  clear hWa hba
  refine (write_call (b := 2) (ver := 0) (by simp [I64]) HN.out).mono ?_
  rintro e w2 ⟨v2, rfl, hi2, hb2⟩
  replace HM := Lib.hid (HM.out.below hb2)
  replace HN := Lib.hid (HN.out.below hb2)
  replace HBW := Lib.hid (below_call HBW.out hb2 HBW.out.size)
  have HI2 := Lib.hid (hi2)
  clear hb2 hi2
  clear HN
  go_wp2_with fail
  refine (start_call HI2.out).mono ?_
  rintro e w3 ⟨rfl, hb3⟩
  have ht3 := isTask_of HI2.out hb3
  generalize tcells (startCv _ _) (startT _).t = C3 at *
  replace HM := Lib.hid (HM.out.below hb3)
  replace HI2 := Lib.hid (HI2.out.below hb3)
  replace HBW := Lib.hid (below_call HBW.out hb3 HBW.out.size)
  have HT3 := Lib.hid ht3
  clear ht3 hb3
  clear HI2
  have hnl : zeros (newLen 6) = zeros 6 := rfl
  rw [hnl] at HM
  go_wp2_with fail
  refine (steps_call HT3.out HM.out).mono ?_
  rintro e w4 ⟨v4, m4, rfl, ht4, ho4, hb4⟩
  have hT4 := ht4 w4 (HT3.out.below hb4)
  obtain ⟨cl4, rfl, hsz4, hone4, x344, x354, x14⟩ := hT4.list
  have xx4 := exW_is
  change IsTask _ _ exW.1 at hT4
  change Own _ _ _ exW.2.1 at ho4
  replace HM := Lib.hid (HM.out.below hb4)
  replace HT3 := Lib.hid (HT3.out.below hb4)
  replace HBW := Lib.hid (below_call HBW.out hb4 HBW.out.size)
  have HT4 := Lib.hid hT4
  have HW4 := Lib.hid ho4.words
  have HSZ4 := Lib.hid hsz4
  have HONE4 := Lib.hid hone4
  clear ht4 ho4 hb4 hT4 hsz4 hone4
  clear HT3
  clear HM
  obtain ⟨y1, y2, y3⟩ := xx4
  change cl4[34]? = some (.bool exW.1.t.done) at x344
  change cl4[35]? = some (.int .i64 exW.1.t.ans) at x354
  rw [y1] at x344
  rw [y2] at x354
  rw [show (stepsT (startT (writeC 2 0 [7, 8, 9])) (zeros 6) 99).2.2 = 5 from y3]
  clear y1 y2 y3 hnl
  go_wp2_with (first | with_reducible refine mid_stop 42 _ rfl ?_ | with_reducible refine storeM_stop rfl 42 _ _ rfl ?_)
  refine AtStoreM.go w4.heap.size 0 (cs := cl4) rfl rfl (newRow (by rw [HSZ4.out]; rfl)).2.2 (by rw [HSZ4.out]; exact size_task) HONE4.out ?_
  refine wpl_at fun W4 hW4 => ?_
  have hbw4 : Below w4.heap.size w4 W4 := by rw [hW4]; exact (newRow (by rw [HSZ4.out]; rfl)).1
  have HY4 : Hid (Box W4 w4.heap.size 42 cl4.toArray) := Lib.hid (by rw [hW4]; exact (newRow (by rw [HSZ4.out]; rfl)).2.1)
  replace HT4 := Lib.hid (HT4.out.below hbw4)
  replace HW4 := Lib.hid (HW4.out.below hbw4)
  replace HBW := Lib.hid (below_call HBW.out hbw4 HBW.out.size)
  clear hW4 hbw4
  go_wp2_with fail
  refine (try_call 2 3 2 _).mono ?_
  rintro e w5 ⟨v5, rfl, hi5, hb5⟩
  replace HT4 := Lib.hid (HT4.out.below hb5)
  replace HW4 := Lib.hid (HW4.out.below hb5)
  replace HY4 := Lib.hid (HY4.out.kept hb5)
  replace HBW := Lib.hid (below_call HBW.out hb5 HBW.out.size)
  have HI5 := Lib.hid (hi5)
  clear hb5 hi5
  go_wp2_with fail
  refine (start_call HI5.out).mono ?_
  rintro e w6 ⟨rfl, hb6⟩
  have ht6 := isTask_of HI5.out hb6
  generalize tcells (startCv _ _) (startT _).t = C6 at *
  replace HT4 := Lib.hid (HT4.out.below hb6)
  replace HW4 := Lib.hid (HW4.out.below hb6)
  replace HY4 := Lib.hid (HY4.out.kept hb6)
  replace HI5 := Lib.hid (HI5.out.below hb6)
  replace HBW := Lib.hid (below_call HBW.out hb6 HBW.out.size)
  have HT6 := Lib.hid ht6
  clear ht6 hb6
  clear HI5
  go_wp2_with fail
  refine (steps_call HT6.out HW4.out).mono ?_
  rintro e w7 ⟨v7, m7, rfl, ht7, ho7, hb7⟩
  have hT7 := ht7 w7 (HT6.out.below hb7)
  obtain ⟨cl7, rfl, hsz7, hone7, x347, x357, x17⟩ := hT7.list
  replace HT4 := Lib.hid (HT4.out.below hb7)
  replace HW4 := Lib.hid (HW4.out.below hb7)
  replace HY4 := Lib.hid (HY4.out.kept hb7)
  replace HT6 := Lib.hid (HT6.out.below hb7)
  replace HBW := Lib.hid (below_call HBW.out hb7 HBW.out.size)
  have HT7 := Lib.hid hT7
  have HW7 := Lib.hid ho7.words
  have HSZ7 := Lib.hid hsz7
  have HONE7 := Lib.hid hone7
  clear ht7 ho7 hb7 hT7 hsz7 hone7
  clear HT6
  have z1 : (stepsT (startT (tryC 2 3 2)) exW.2.1 99).2.2 = 5 := exT_is.1
  have z2 : takenB (stepsT (startT (tryC 2 3 2)) exW.2.1 99).1 3 = true := exT_is.2.1
  have z3 : takenV (stepsT (startT (tryC 2 3 2)) exW.2.1 99).1 3 = 1 := exT_is.2.2.1
  have z4 : takenL (stepsT (startT (tryC 2 3 2)) exW.2.1 99).1 3 = [7, 8, 9] := exT_is.2.2.2
  rw [z1]
  go_wp2_with (first | with_reducible refine mid_stop 42 _ rfl ?_ | with_reducible refine storeM_stop rfl 42 _ _ rfl ?_)
  refine AtStoreM.go w7.heap.size 0 (cs := cl7) rfl rfl (newRow (by rw [HSZ7.out]; rfl)).2.2 (by rw [HSZ7.out]; exact size_task) HONE7.out ?_
  refine wpl_at fun W7 hW7 => ?_
  have hbw7 : Below w7.heap.size w7 W7 := by rw [hW7]; exact (newRow (by rw [HSZ7.out]; rfl)).1
  have HY7 : Hid (Box W7 w7.heap.size 42 cl7.toArray) := Lib.hid (by rw [hW7]; exact (newRow (by rw [HSZ7.out]; rfl)).2.1)
  replace HT4 := Lib.hid (HT4.out.below hbw7)
  replace HW4 := Lib.hid (HW4.out.below hbw7)
  replace HY4 := Lib.hid (HY4.out.kept hbw7)
  replace HT7 := Lib.hid (HT7.out.below hbw7)
  replace HW7 := Lib.hid (HW7.out.below hbw7)
  replace HBW := Lib.hid (below_call HBW.out hbw7 HBW.out.size)
  clear hW7 hbw7
  go_wp2_with (first | with_reducible refine mid_stop 42 _ rfl ?_ | with_reducible refine storeM_stop rfl 42 _ _ rfl ?_)
  refine AtMid.go rfl w7.heap.size 0 rfl HY7.out.range Try.underlying42 rfl (by rw [HSZ7.out]; exact size_task) ?_
  go_wp2_with (first | with_reducible refine mid_stop 42 _ rfl ?_ | with_reducible refine storeM_stop rfl 42 _ _ rfl ?_)
  refine (taken_call HT7.out (by simp [I64])).mono ?_
  rintro e w8 ⟨v9, rfl, ho9, hb8⟩
  replace HT4 := Lib.hid (HT4.out.below hb8)
  replace HW4 := Lib.hid (HW4.out.below hb8)
  replace HY4 := Lib.hid (HY4.out.kept hb8)
  replace HT7 := Lib.hid (HT7.out.below hb8)
  replace HW7 := Lib.hid (HW7.out.below hb8)
  replace HY7 := Lib.hid (HY7.out.kept hb8)
  replace HBW := Lib.hid (below_call HBW.out hb8 HBW.out.size)
  have HW9 := Lib.hid (ho9)
  clear hb8 ho9
  rw [z2, z3]
  rw [z4] at HW9
  have d34 := (HY4.out.cell 34).trans (by simpa using x344)
  have d35 := (HY4.out.cell 35).trans (by simpa using x354)
  go_wp2_with fail
  refine (same_call (a := [7, 8, 9]) (b := [7, 8, 9]) (HW9.out.alloc _) (words_new _ [7, 8, 9] (by simp [W64]) (by simp) _)).mono ?_
  rintro e wz ⟨rfl, hbz⟩
  have HBZ := Lib.hid (below_call HBW.out (below_call ((Below.refl _ w8).alloc (Nat.le_refl _) _) hbz (by simp)) HBW.out.size)
  rw [decide_eq_true rfl]
  clear hbz d34 d35
  go_wp2
  go_ret
  exact ⟨rfl, HBZ.out⟩
end Go.Proofs.Ytpkelneimjmmkaa

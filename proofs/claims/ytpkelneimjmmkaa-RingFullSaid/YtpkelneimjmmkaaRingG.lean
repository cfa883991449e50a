/- The document's example of layer 14. -/
import Derived.Test.YtpkelneimjmmkaaRingD
import Derived.Test.YtpkelneimjmmkaaRingF
namespace Go.Proofs.Ytpkelneimjmmkaa
open Go.RowKit

def exR1 : FT × List Int × Nat := stepsT (startT (pushC 0 1 0 (wordsR 5))) (zeros 9) 99
def exR2 : FT × List Int × Nat := stepsT (startT (pushC 0 1 1 (wordsR 6))) exR1.2.1 99
def exR3 : FT × List Int × Nat := stepsT (startT (popC 0 1 0)) exR2.2.1 99
theorem exR1_is : exR1.1.t.ans = 1 := by decide +kernel
theorem exR2_is : exR2.1.t.ans = 0 := by decide +kernel
theorem exR3_is : takenRB exR3.1 = true ∧ takenRL exR3.1 = wordsR 5 ∧ exR3.2.1.length = 9 ∧ exR3.2.1.getD 0 0 = 1 ∧ exR3.2.1.getD 1 0 = 1 ∧ exR3.2.1.getD 2 0 = 1 := by
  refine ⟨?_, ?_, ?_, ?_, ?_, ?_⟩ <;> decide +kernel

set_option maxHeartbeats 8000000 in
set_option maxRecDepth 20000 in
theorem awake14 (w : World) : Calls Try.prog 57 #[] w (BoolPost true w) := by
  have hs9 : sizeR 1 = 9 := by decide
  go_enter Try.func57, Try.ntmps57
  go_wp2_with fail
  refine (size_call 1 w).mono ?_
  rintro e w1 ⟨rfl, hb1⟩
  have HBW := Lib.hid hb1
  clear hb1 
  rw [hs9]
  go_wp2_with fail
  refine (new_call 9 ⟨by omega, by omega⟩ _).mono ?_
  rintro e w2 ⟨v1, rfl, ho1, hb2⟩
  replace HBW := Lib.hid (below_call HBW.out hb2 HBW.out.size)
  have HM := Lib.hid (ho1.words)
  clear hb2 ho1
  have hnl : zeros (newLen 9) = zeros 9 := rfl
  rw [hnl] at HM
  go_wp2_with fail
  refine (words14_call 5 _).mono ?_
  rintro e w3 ⟨v2, rfl, hq2, hb3⟩
  replace HM := Lib.hid (HM.out.below hb3)
  replace HBW := Lib.hid (below_call HBW.out hb3 HBW.out.size)
  have HQ2 := Lib.hid (hq2)
  clear hb3 hq2
  go_wp2_with fail
  refine (pushR_call (b := 0) (c := 1) (t := 0) (by simp [I64]) HQ2.out).mono ?_
  rintro e w4 ⟨v3, rfl, hi3, hb4⟩
  replace HM := Lib.hid (HM.out.below hb4)
  replace HQ2 := Lib.hid (HQ2.out.below hb4)
  replace HBW := Lib.hid (below_call HBW.out hb4 HBW.out.size)
  have HI3 := Lib.hid (hi3)
  clear hb4 hi3
  clear HQ2
  go_wp2_with fail
  refine (start_call HI3.out).mono ?_
  rintro e w5 ⟨rfl, hb5⟩
  have ht5 := isTask_of HI3.out hb5
  generalize tcells (startCv _ _) (startT _).t = C5 at *
  replace HM := Lib.hid (HM.out.below hb5)
  replace HI3 := Lib.hid (HI3.out.below hb5)
  replace HBW := Lib.hid (below_call HBW.out hb5 HBW.out.size)
  have HT5 := Lib.hid ht5
  clear ht5 hb5
  clear HI3
  go_wp2_with fail
  refine (steps_call HT5.out HM.out).mono ?_
  rintro e w6 ⟨v6, m6, rfl, ht6, ho6, hb6⟩
  have hT6 := ht6 w6 (HT5.out.below hb6)
  obtain ⟨cl6, rfl, hsz6, hone6, x346, x356, x16⟩ := hT6.list
  change Own _ _ _ exR1.2.1 at ho6
  have z6 : (stepsT (startT (pushC 0 1 0 (wordsR 5))) (zeros 9) 99).1.t.ans = 1 := exR1_is
  rw [z6] at x356
  replace HM := Lib.hid (HM.out.below hb6)
  replace HT5 := Lib.hid (HT5.out.below hb6)
  replace HBW := Lib.hid (below_call HBW.out hb6 HBW.out.size)
  have HT6 := Lib.hid hT6
  have HW6 := Lib.hid ho6.words
  have HSZ6 := Lib.hid hsz6
  have HONE6 := Lib.hid hone6
  clear ht6 ho6 hb6 hT6 hsz6 hone6
  clear HT5
  clear HM
  clear z6 hnl
  generalize (stepsT (startT (pushC 0 1 0 (wordsR 5))) (zeros 9) 99).2.2 = nn1 at *
  go_wp2_with (first | with_reducible refine mid_stop 42 _ rfl ?_ | with_reducible refine storeM_stop rfl 42 _ _ rfl ?_)
  refine AtStoreM.go w6.heap.size 0 (cs := cl6) rfl rfl (newRow (by rw [HSZ6.out]; rfl)).2.2 (by rw [HSZ6.out]; exact size_task) HONE6.out ?_
  refine wpl_at fun W6 hW6 => ?_
  have hbw6 : Below w6.heap.size w6 W6 := by rw [hW6]; exact (newRow (by rw [HSZ6.out]; rfl)).1
  have HY6 : Hid (Box W6 w6.heap.size 42 cl6.toArray) := Lib.hid (by rw [hW6]; exact (newRow (by rw [HSZ6.out]; rfl)).2.1)
  replace HT6 := Lib.hid (HT6.out.below hbw6)
  replace HW6 := Lib.hid (HW6.out.below hbw6)
  replace HBW := Lib.hid (below_call HBW.out hbw6 HBW.out.size)
  clear hW6 hbw6
  go_wp2_with fail
  refine (words14_call 6 _).mono ?_
  rintro e w7 ⟨v6, rfl, hq6, hb7⟩
  replace HT6 := Lib.hid (HT6.out.below hb7)
  replace HW6 := Lib.hid (HW6.out.below hb7)
  replace HY6 := Lib.hid (HY6.out.kept hb7)
  replace HBW := Lib.hid (below_call HBW.out hb7 HBW.out.size)
  have HQ6 := Lib.hid (hq6)
  clear hb7 hq6
  go_wp2_with fail
  refine (pushR_call (b := 0) (c := 1) (t := 1) (by simp [I64]) HQ6.out).mono ?_
  rintro e w8 ⟨v7, rfl, hi7, hb8⟩
  replace HT6 := Lib.hid (HT6.out.below hb8)
  replace HW6 := Lib.hid (HW6.out.below hb8)
  replace HY6 := Lib.hid (HY6.out.kept hb8)
  replace HQ6 := Lib.hid (HQ6.out.below hb8)
  replace HBW := Lib.hid (below_call HBW.out hb8 HBW.out.size)
  have HI7 := Lib.hid (hi7)
  clear hb8 hi7
  clear HQ6
  go_wp2_with fail
  refine (start_call HI7.out).mono ?_
  rintro e w9 ⟨rfl, hb9⟩
  have ht9 := isTask_of HI7.out hb9
  generalize tcells (startCv _ _) (startT _).t = C9 at *
  replace HT6 := Lib.hid (HT6.out.below hb9)
  replace HW6 := Lib.hid (HW6.out.below hb9)
  replace HY6 := Lib.hid (HY6.out.kept hb9)
  replace HI7 := Lib.hid (HI7.out.below hb9)
  replace HBW := Lib.hid (below_call HBW.out hb9 HBW.out.size)
  have HT9 := Lib.hid ht9
  clear ht9 hb9
  clear HI7
  go_wp2_with fail
  refine (steps_call HT9.out HW6.out).mono ?_
  rintro e w10 ⟨v10, m10, rfl, ht10, ho10, hb10⟩
  have hT10 := ht10 w10 (HT9.out.below hb10)
  obtain ⟨cl10, rfl, hsz10, hone10, x3410, x3510, x110⟩ := hT10.list
  change Own _ _ _ exR2.2.1 at ho10
  have z10 : (stepsT (startT (pushC 0 1 1 (wordsR 6))) exR1.2.1 99).1.t.ans = 0 := exR2_is
  rw [z10] at x3510
  replace HT6 := Lib.hid (HT6.out.below hb10)
  replace HW6 := Lib.hid (HW6.out.below hb10)
  replace HY6 := Lib.hid (HY6.out.kept hb10)
  replace HT9 := Lib.hid (HT9.out.below hb10)
  replace HBW := Lib.hid (below_call HBW.out hb10 HBW.out.size)
  have HT10 := Lib.hid hT10
  have HW10 := Lib.hid ho10.words
  have HSZ10 := Lib.hid hsz10
  have HONE10 := Lib.hid hone10
  clear ht10 ho10 hb10 hT10 hsz10 hone10
  clear HT9
  clear HW6
  clear z10
  generalize (stepsT (startT (pushC 0 1 1 (wordsR 6))) exR1.2.1 99).2.2 = nn2 at *
  go_wp2_with (first | with_reducible refine mid_stop 42 _ rfl ?_ | with_reducible refine storeM_stop rfl 42 _ _ rfl ?_)
  refine AtStoreM.go w10.heap.size 0 (cs := cl10) rfl rfl (newRow (by rw [HSZ10.out]; rfl)).2.2 (by rw [HSZ10.out]; exact size_task) HONE10.out ?_
  refine wpl_at fun W10 hW10 => ?_
  have hbw10 : Below w10.heap.size w10 W10 := by rw [hW10]; exact (newRow (by rw [HSZ10.out]; rfl)).1
  have HY10 : Hid (Box W10 w10.heap.size 42 cl10.toArray) := Lib.hid (by rw [hW10]; exact (newRow (by rw [HSZ10.out]; rfl)).2.1)
  replace HT6 := Lib.hid (HT6.out.below hbw10)
  replace HY6 := Lib.hid (HY6.out.kept hbw10)
  replace HT10 := Lib.hid (HT10.out.below hbw10)
  replace HW10 := Lib.hid (HW10.out.below hbw10)
  replace HBW := Lib.hid (below_call HBW.out hbw10 HBW.out.size)
  clear hW10 hbw10
  go_wp2_with fail
  refine (popR_call (b := 0) (c := 1) (t := 0) (by simp [I64])).mono ?_
  rintro e w11 ⟨v10, rfl, hi10, hb11⟩
  replace HT6 := Lib.hid (HT6.out.below hb11)
  replace HY6 := Lib.hid (HY6.out.kept hb11)
  replace HT10 := Lib.hid (HT10.out.below hb11)
  replace HW10 := Lib.hid (HW10.out.below hb11)
  replace HY10 := Lib.hid (HY10.out.kept hb11)
  replace HBW := Lib.hid (below_call HBW.out hb11 HBW.out.size)
  have HI10 := Lib.hid (hi10)
  clear hb11 hi10
  go_wp2_with fail
  refine (start_call HI10.out).mono ?_
  rintro e w12 ⟨rfl, hb12⟩
  have ht12 := isTask_of HI10.out hb12
  generalize tcells (startCv _ _) (startT _).t = C12 at *
  replace HT6 := Lib.hid (HT6.out.below hb12)
  replace HY6 := Lib.hid (HY6.out.kept hb12)
  replace HT10 := Lib.hid (HT10.out.below hb12)
  replace HW10 := Lib.hid (HW10.out.below hb12)
  replace HY10 := Lib.hid (HY10.out.kept hb12)
  replace HI10 := Lib.hid (HI10.out.below hb12)
  replace HBW := Lib.hid (below_call HBW.out hb12 HBW.out.size)
  have HT12 := Lib.hid ht12
  clear ht12 hb12
  clear HI10
  go_wp2_with fail
  refine (steps_call HT12.out HW10.out).mono ?_
  rintro e w13 ⟨v13, m13, rfl, ht13, ho13, hb13⟩
  have hT13 := ht13 w13 (HT12.out.below hb13)
  obtain ⟨cl13, rfl, hsz13, hone13, x3413, x3513, x113⟩ := hT13.list
  change Own _ _ _ exR3.2.1 at ho13
  replace HT6 := Lib.hid (HT6.out.below hb13)
  replace HY6 := Lib.hid (HY6.out.kept hb13)
  replace HT10 := Lib.hid (HT10.out.below hb13)
  replace HW10 := Lib.hid (HW10.out.below hb13)
  replace HY10 := Lib.hid (HY10.out.kept hb13)
  replace HT12 := Lib.hid (HT12.out.below hb13)
  replace HBW := Lib.hid (below_call HBW.out hb13 HBW.out.size)
  have HT13 := Lib.hid hT13
  have HW13 := Lib.hid ho13.words
  have HSZ13 := Lib.hid hsz13
  have HONE13 := Lib.hid hone13
  clear ht13 ho13 hb13 hT13 hsz13 hone13
  clear HT12
  clear HW10
  generalize (stepsT (startT (popC 0 1 0)) exR2.2.1 99).2.2 = nn3 at *
  go_wp2_with (first | with_reducible refine mid_stop 42 _ rfl ?_ | with_reducible refine storeM_stop rfl 42 _ _ rfl ?_)
  refine AtStoreM.go w13.heap.size 0 (cs := cl13) rfl rfl (newRow (by rw [HSZ13.out]; rfl)).2.2 (by rw [HSZ13.out]; exact size_task) HONE13.out ?_
  refine wpl_at fun W13 hW13 => ?_
  have hbw13 : Below w13.heap.size w13 W13 := by rw [hW13]; exact (newRow (by rw [HSZ13.out]; rfl)).1
  have HY13 : Hid (Box W13 w13.heap.size 42 cl13.toArray) := Lib.hid (by rw [hW13]; exact (newRow (by rw [HSZ13.out]; rfl)).2.1)
  replace HT6 := Lib.hid (HT6.out.below hbw13)
  replace HY6 := Lib.hid (HY6.out.kept hbw13)
  replace HT10 := Lib.hid (HT10.out.below hbw13)
  replace HY10 := Lib.hid (HY10.out.kept hbw13)
  replace HT13 := Lib.hid (HT13.out.below hbw13)
  replace HW13 := Lib.hid (HW13.out.below hbw13)
  replace HBW := Lib.hid (below_call HBW.out hbw13 HBW.out.size)
  clear hW13 hbw13
  go_wp2_with (first | with_reducible refine mid_stop 42 _ rfl ?_ | with_reducible refine storeM_stop rfl 42 _ _ rfl ?_)
  refine AtMid.go rfl w13.heap.size 0 rfl HY13.out.range Try.underlying42 rfl (by rw [HSZ13.out]; exact size_task) ?_
  go_wp2_with (first | with_reducible refine mid_stop 42 _ rfl ?_ | with_reducible refine storeM_stop rfl 42 _ _ rfl ?_)
  refine (takenR_call HT13.out).mono ?_
  rintro e w14 ⟨v11, rfl, ho11, hb14⟩
  replace HT6 := Lib.hid (HT6.out.below hb14)
  replace HY6 := Lib.hid (HY6.out.kept hb14)
  replace HT10 := Lib.hid (HT10.out.below hb14)
  replace HY10 := Lib.hid (HY10.out.kept hb14)
  replace HT13 := Lib.hid (HT13.out.below hb14)
  replace HW13 := Lib.hid (HW13.out.below hb14)
  replace HY13 := Lib.hid (HY13.out.kept hb14)
  replace HBW := Lib.hid (below_call HBW.out hb14 HBW.out.size)
  have HL11 := Lib.hid (ho11)
  clear hb14 ho11
  have y1 : takenRB (stepsT (startT (popC 0 1 0)) exR2.2.1 99).1 = true := exR3_is.1
  have y2 : takenRL (stepsT (startT (popC 0 1 0)) exR2.2.1 99).1 = wordsR 5 := exR3_is.2.1
  rw [y1]
  rw [y2] at HL11
  clear y1 y2
  go_wp2_with fail
  refine (size_call 1 _).mono ?_
  rintro e w15 ⟨rfl, hb15⟩
  replace HT6 := Lib.hid (HT6.out.below hb15)
  replace HY6 := Lib.hid (HY6.out.kept hb15)
  replace HT10 := Lib.hid (HT10.out.below hb15)
  replace HY10 := Lib.hid (HY10.out.kept hb15)
  replace HT13 := Lib.hid (HT13.out.below hb15)
  replace HW13 := Lib.hid (HW13.out.below hb15)
  replace HY13 := Lib.hid (HY13.out.kept hb15)
  replace HL11 := Lib.hid (HL11.out.below hb15)
  replace HBW := Lib.hid (below_call HBW.out hb15 HBW.out.size)
  clear hb15 
  rw [hs9]
  have c35 := (HY6.out.cell 35).trans (by simpa using x356)
  have d35 := (HY10.out.cell 35).trans (by simpa using x3510)
  go_wp2_with fail
  refine (words14_call 5 _).mono ?_
  rintro e w16 ⟨v13, rfl, hq13, hb16⟩
  replace HT6 := Lib.hid (HT6.out.below hb16)
  replace HY6 := Lib.hid (HY6.out.kept hb16)
  replace HT10 := Lib.hid (HT10.out.below hb16)
  replace HY10 := Lib.hid (HY10.out.kept hb16)
  replace HT13 := Lib.hid (HT13.out.below hb16)
  replace HW13 := Lib.hid (HW13.out.below hb16)
  replace HY13 := Lib.hid (HY13.out.kept hb16)
  replace HL11 := Lib.hid (HL11.out.below hb16)
  replace HBW := Lib.hid (below_call HBW.out hb16 HBW.out.size)
  have HQ13 := Lib.hid (hq13)
  clear hb16 hq13
  clear c35 d35
  go_wp2_with fail
  refine (same_call HL11.out HQ13.out).mono ?_
  rintro e w17 ⟨rfl, hb17⟩
  replace HT6 := Lib.hid (HT6.out.below hb17)
  replace HY6 := Lib.hid (HY6.out.kept hb17)
  replace HT10 := Lib.hid (HT10.out.below hb17)
  replace HY10 := Lib.hid (HY10.out.kept hb17)
  replace HT13 := Lib.hid (HT13.out.below hb17)
  replace HW13 := Lib.hid (HW13.out.below hb17)
  replace HY13 := Lib.hid (HY13.out.kept hb17)
  replace HL11 := Lib.hid (HL11.out.below hb17)
  replace HQ13 := Lib.hid (HQ13.out.below hb17)
  replace HBW := Lib.hid (below_call HBW.out hb17 HBW.out.size)
  clear hb17 
  rw [decide_eq_true rfl]
  obtain ⟨_, _, l9, m0, m1', m2'⟩ := exR3_is
  obtain ⟨Am, cm, hvm, _, _, _⟩ := HW13.out.1.form
  rw [l9] at hvm
  subst hvm
  obtain ⟨b0, o0, hA0, _, p0⟩ := HW13.out.at_ l9.symm (show 0 < exR3.2.1.length by omega)
  obtain ⟨b1, o1, hA1, _, p1⟩ := HW13.out.at_ l9.symm (show 1 < exR3.2.1.length by omega)
  obtain ⟨b2, o2, hA2, _, p2⟩ := HW13.out.at_ l9.symm (show 2 < exR3.2.1.length by omega)
  subst hA0
  injection hA1 with hA1
  injection hA1 with e1 e2
  subst e1 e2
  injection hA2 with hA2
  injection hA2 with e1 e2
  subst e1 e2
  rw [m0] at p0
  rw [m1'] at p1
  rw [m2'] at p2
  rw [Nat.add_zero] at p0
  go_wp2
  go_ret
  exact ⟨rfl, HBW.out⟩
end Go.Proofs.Ytpkelneimjmmkaa

/- The walk of RingIs. -/
import Derived.Test.YtpkelneimjmmkaaRingE
import Derived.Test.YtpkelneimjmmkaaRingG
namespace Go.Proofs.Ytpkelneimjmmkaa
open Go.RowKit

set_option maxHeartbeats 8000000 in
set_option maxRecDepth 20000 in
theorem ringIs_walk {b c n : Int} {vw v : Value} {ws : List Int} {T : FT} {w : World} (hn : I64 n) (hw : Words w vw ws) (h : IsTask w v T) :
    Calls Try.prog 20 #[.int .i64 b, .int .i64 c, .int .i64 n, vw, v] w (BoolPost true w) := by
  obtain ⟨B, d, rfl, hd1, hd2, _⟩ := hw.1.form
  have HW := Lib.hid hw
  have HT := Lib.hid h
  obtain ⟨cl, rfl, hsz, _, _, _, _⟩ := h.list
  have HSZ := Lib.hid hsz
  have HNN := Lib.hid hn
  clear hw h hsz hn hd1 hd2
  go_enter Try.func20, Try.ntmps20
  go_wp2_with fail
  refine calls_at fun W0 hW0 => ?_
  have hbw0 : Below w.heap.size w W0 := by rw [hW0]; exact (Below.refl _ w).alloc (Nat.le_refl _) _
  have HY : Hid (Box W0 w.heap.size 42 cl.toArray) := Lib.hid (by rw [hW0]; exact Box.new _ _ _)
  replace HW := Lib.hid (HW.out.below hbw0)
  replace HT := Lib.hid (HT.out.below hbw0)
  have HBW := Lib.hid hbw0
  clear hW0 hbw0
  refine (awake14 _).mono ?_
  rintro e w1 ⟨rfl, hb1⟩
  replace HW := Lib.hid (HW.out.below hb1)
  replace HT := Lib.hid (HT.out.below hb1)
  replace HY := Lib.hid (HY.out.kept hb1)
  replace HBW := Lib.hid (below_call HBW.out hb1 HBW.out.size)
  clear hb1 
  go_wp2_with (first | with_reducible refine mid_stop 42 _ rfl ?_ | with_reducible refine storeM_stop rfl 42 _ _ rfl ?_)
  refine AtMid.go rfl w.heap.size 0 rfl HY.out.range Try.underlying42 rfl (by rw [HSZ.out]; exact size_task) ?_
  go_wp2_with (first | with_reducible refine mid_stop 42 _ rfl ?_ | with_reducible refine storeM_stop rfl 42 _ _ rfl ?_)
  refine (takenR_call HT.out).mono ?_
  rintro e w2 ⟨v2, rfl, ho2, hb2⟩
  replace HW := Lib.hid (HW.out.below hb2)
  replace HT := Lib.hid (HT.out.below hb2)
  replace HY := Lib.hid (HY.out.kept hb2)
  replace HBW := Lib.hid (below_call HBW.out hb2 HBW.out.size)
  have HL2 := Lib.hid (ho2)
  clear hb2 ho2
  go_wp2_with (first | with_reducible refine mid_stop 42 _ rfl ?_ | with_reducible refine storeM_stop rfl 42 _ _ rfl ?_)
  refine AtMid.go rfl w.heap.size 0 rfl HY.out.range Try.underlying42 rfl (by rw [HSZ.out]; exact size_task) ?_
  go_wp2_with (first | with_reducible refine mid_stop 42 _ rfl ?_ | with_reducible refine storeM_stop rfl 42 _ _ rfl ?_)
  refine (refTakenR_call HT.out).mono ?_
  rintro e w3 ⟨v3, rfl, ho3, hb3⟩
  replace HW := Lib.hid (HW.out.below hb3)
  replace HT := Lib.hid (HT.out.below hb3)
  replace HY := Lib.hid (HY.out.kept hb3)
  replace HL2 := Lib.hid (HL2.out.below hb3)
  replace HBW := Lib.hid (below_call HBW.out hb3 HBW.out.size)
  have HL3 := Lib.hid (ho3)
  clear hb3 ho3
  generalize takenRB T = tb at *
  go_wp2_with fail
  refine (size_call c _).mono ?_
  rintro e w4 ⟨rfl, hb4⟩
  replace HW := Lib.hid (HW.out.below hb4)
  replace HT := Lib.hid (HT.out.below hb4)
  replace HY := Lib.hid (HY.out.kept hb4)
  replace HL2 := Lib.hid (HL2.out.below hb4)
  replace HL3 := Lib.hid (HL3.out.below hb4)
  replace HBW := Lib.hid (below_call HBW.out hb4 HBW.out.size)
  clear hb4 
  go_wp2_with fail
  refine (refSize_call c _).mono ?_
  rintro e w5 ⟨rfl, hb5⟩
  replace HW := Lib.hid (HW.out.below hb5)
  replace HT := Lib.hid (HT.out.below hb5)
  replace HY := Lib.hid (HY.out.kept hb5)
  replace HL2 := Lib.hid (HL2.out.below hb5)
  replace HL3 := Lib.hid (HL3.out.below hb5)
  replace HBW := Lib.hid (below_call HBW.out hb5 HBW.out.size)
  clear hb5 
  go_wp2_with fail
  refine (pushR_call HNN.out HW.out).mono ?_
  rintro e w6 ⟨v6, rfl, hi6, hb6⟩
  replace HW := Lib.hid (HW.out.below hb6)
  replace HT := Lib.hid (HT.out.below hb6)
  replace HY := Lib.hid (HY.out.kept hb6)
  replace HL2 := Lib.hid (HL2.out.below hb6)
  replace HL3 := Lib.hid (HL3.out.below hb6)
  replace HBW := Lib.hid (below_call HBW.out hb6 HBW.out.size)
  have HI6 := Lib.hid (hi6)
  clear hb6 hi6
  go_wp2_with fail
  refine (refPushR_call HNN.out HW.out).mono ?_
  rintro e w7 ⟨v7, rfl, hi7, hb7⟩
  replace HW := Lib.hid (HW.out.below hb7)
  replace HT := Lib.hid (HT.out.below hb7)
  replace HY := Lib.hid (HY.out.kept hb7)
  replace HL2 := Lib.hid (HL2.out.below hb7)
  replace HL3 := Lib.hid (HL3.out.below hb7)
  replace HI6 := Lib.hid (HI6.out.below hb7)
  replace HBW := Lib.hid (below_call HBW.out hb7 HBW.out.size)
  have HI7 := Lib.hid (hi7)
  clear hb7 hi7
  go_wp2_with fail
  refine (isame_call HI6.out HI7.out).mono ?_
  rintro e w8 ⟨rfl, hb8⟩
  replace HW := Lib.hid (HW.out.below hb8)
  replace HT := Lib.hid (HT.out.below hb8)
  replace HY := Lib.hid (HY.out.kept hb8)
  replace HL2 := Lib.hid (HL2.out.below hb8)
  replace HL3 := Lib.hid (HL3.out.below hb8)
  replace HI6 := Lib.hid (HI6.out.below hb8)
  replace HI7 := Lib.hid (HI7.out.below hb8)
  replace HBW := Lib.hid (below_call HBW.out hb8 HBW.out.size)
  clear hb8 
  go_wp2_with fail
  refine (popR_call HNN.out).mono ?_
  rintro e w9 ⟨v8, rfl, hi8, hb9⟩
  replace HW := Lib.hid (HW.out.below hb9)
  replace HT := Lib.hid (HT.out.below hb9)
  replace HY := Lib.hid (HY.out.kept hb9)
  replace HL2 := Lib.hid (HL2.out.below hb9)
  replace HL3 := Lib.hid (HL3.out.below hb9)
  replace HI6 := Lib.hid (HI6.out.below hb9)
  replace HI7 := Lib.hid (HI7.out.below hb9)
  replace HBW := Lib.hid (below_call HBW.out hb9 HBW.out.size)
  have HI8 := Lib.hid (hi8)
  clear hb9 hi8
  go_wp2_with fail
  refine (refPopR_call HNN.out).mono ?_
  rintro e w10 ⟨v9, rfl, hi9, hb10⟩
  replace HW := Lib.hid (HW.out.below hb10)
  replace HT := Lib.hid (HT.out.below hb10)
  replace HY := Lib.hid (HY.out.kept hb10)
  replace HL2 := Lib.hid (HL2.out.below hb10)
  replace HL3 := Lib.hid (HL3.out.below hb10)
  replace HI6 := Lib.hid (HI6.out.below hb10)
  replace HI7 := Lib.hid (HI7.out.below hb10)
  replace HI8 := Lib.hid (HI8.out.below hb10)
  replace HBW := Lib.hid (below_call HBW.out hb10 HBW.out.size)
  have HI9 := Lib.hid (hi9)
  clear hb10 hi9
  go_wp2_with fail
  refine (isame_call HI8.out HI9.out).mono ?_
  rintro e w11 ⟨rfl, hb11⟩
  replace HW := Lib.hid (HW.out.below hb11)
  replace HT := Lib.hid (HT.out.below hb11)
  replace HY := Lib.hid (HY.out.kept hb11)
  replace HL2 := Lib.hid (HL2.out.below hb11)
  replace HL3 := Lib.hid (HL3.out.below hb11)
  replace HI6 := Lib.hid (HI6.out.below hb11)
  replace HI7 := Lib.hid (HI7.out.below hb11)
  replace HI8 := Lib.hid (HI8.out.below hb11)
  replace HI9 := Lib.hid (HI9.out.below hb11)
  replace HBW := Lib.hid (below_call HBW.out hb11 HBW.out.size)
  clear hb11 
  go_wp2_with fail
  refine (same_call HL2.out HL3.out).mono ?_
  rintro e w12 ⟨rfl, hb12⟩
  replace HW := Lib.hid (HW.out.below hb12)
  replace HT := Lib.hid (HT.out.below hb12)
  replace HY := Lib.hid (HY.out.kept hb12)
  replace HL2 := Lib.hid (HL2.out.below hb12)
  replace HL3 := Lib.hid (HL3.out.below hb12)
  replace HI6 := Lib.hid (HI6.out.below hb12)
  replace HI7 := Lib.hid (HI7.out.below hb12)
  replace HI8 := Lib.hid (HI8.out.below hb12)
  replace HI9 := Lib.hid (HI9.out.below hb12)
  replace HBW := Lib.hid (below_call HBW.out hb12 HBW.out.size)
  clear hb12 
  rw [decide_eq_true rfl]
  go_wp2
  go_ret
  exact ⟨rfl, HBW.out⟩
end Go.Proofs.Ytpkelneimjmmkaa

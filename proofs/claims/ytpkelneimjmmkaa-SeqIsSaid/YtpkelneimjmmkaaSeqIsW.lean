/- The walk of SeqIs. -/
import Derived.Test.YtpkelneimjmmkaaSeqI
namespace Go.Proofs.Ytpkelneimjmmkaa
open Go.RowKit

set_option maxHeartbeats 8000000 in
set_option maxRecDepth 20000 in
theorem seqIs_walk {b n k : Int} {vw v : Value} {ws : List Int} {T : FT} {w : World} (hn : I64 n) (hk : I64 k) (hw : Words w vw ws) (h : IsTask w v T) :
    Calls Try.prog 15 #[.int .i64 b, .int .i64 n, .int .i64 k, vw, v] w (BoolPost true w) := by
  obtain ⟨B, d, rfl, hd1, hd2, _⟩ := hw.1.form
  unfold maxLen at hd2
  have HW := Lib.hid hw
  have HT := Lib.hid h
  obtain ⟨cl, rfl, hsz, _, _, _, _⟩ := h.list
  have HSZ := Lib.hid hsz
  have HNN := Lib.hid hn
  have HKK := Lib.hid hk
  clear hw h hsz hn hk
  go_enter Try.func15, Try.ntmps15
  go_wp2_with fail
  refine calls_at fun W0 hW0 => ?_
  have hbw0 : Below w.heap.size w W0 := by rw [hW0]; exact (Below.refl _ w).alloc (Nat.le_refl _) _
  have HY : Hid (Box W0 w.heap.size 42 cl.toArray) := Lib.hid (by rw [hW0]; exact Box.new _ _ _)
  replace HW := Lib.hid (HW.out.below hbw0)
  replace HT := Lib.hid (HT.out.below hbw0)
  have HBW := Lib.hid hbw0
  clear hW0 hbw0
  refine (awake15 _).mono ?_
  rintro e w1 ⟨rfl, hb1⟩
  replace HW := Lib.hid (HW.out.below hb1)
  replace HT := Lib.hid (HT.out.below hb1)
  replace HY := Lib.hid (HY.out.kept hb1)
  replace HBW := Lib.hid (below_call HBW.out hb1 HBW.out.size)
  clear hb1 
  by_cases h60 : 60 < ws.length
  · have h60' : (60 : Int) < (ws.length : Int) := by omega
    go_wp2
    go_ret
    exact ⟨rfl, HBW.out⟩
  have n60 : ¬ (60 : Int) < (ws.length : Int) := by omega
  go_wp2_with (first | with_reducible refine mid_stop 42 _ rfl ?_ | with_reducible refine storeM_stop rfl 42 _ _ rfl ?_)
  refine AtMid.go rfl w.heap.size 0 rfl HY.out.range Try.underlying42 rfl (by rw [HSZ.out]; exact size_task) ?_
  go_wp2_with (first | with_reducible refine mid_stop 42 _ rfl ?_ | with_reducible refine storeM_stop rfl 42 _ _ rfl ?_)
  refine (taken_call HT.out HNN.out).mono ?_
  rintro e w2 ⟨v2, rfl, ho2, hb2⟩
  replace HW := Lib.hid (HW.out.below hb2)
  replace HT := Lib.hid (HT.out.below hb2)
  replace HY := Lib.hid (HY.out.kept hb2)
  replace HBW := Lib.hid (below_call HBW.out hb2 HBW.out.size)
  have HL2 := Lib.hid (ho2)
  clear hb2 ho2
  go_wp2_with (first | with_reducible refine mid_stop 42 _ rfl ?_ | with_reducible refine storeM_stop rfl 42 _ _ rfl ?_)
  refine AtMid.go rfl w.heap.size 0 rfl HY.out.range Try.underlying42 rfl (by rw [HSZ.out]; exact size_task) ?_
  go_wp2_with (first | with_reducible refine mid_stop 42 _ rfl ?_ | with_reducible refine storeM_stop rfl 42 _ _ rfl ?_)
  refine (refTaken_call HT.out HNN.out).mono ?_
  rintro e w3 ⟨v3, rfl, ho3, hb3⟩
  replace HW := Lib.hid (HW.out.below hb3)
  replace HT := Lib.hid (HT.out.below hb3)
  replace HY := Lib.hid (HY.out.kept hb3)
  replace HL2 := Lib.hid (HL2.out.below hb3)
  replace HBW := Lib.hid (below_call HBW.out hb3 HBW.out.size)
  have HL3 := Lib.hid (ho3)
  clear hb3 ho3
  generalize takenV T n = tv at *
  generalize takenB T n = tb at *
  go_wp2_with fail
  refine (write_call HKK.out HW.out).mono ?_
  rintro e w4 ⟨v4, rfl, hi4, hb4⟩
  replace HW := Lib.hid (HW.out.below hb4)
  replace HT := Lib.hid (HT.out.below hb4)
  replace HY := Lib.hid (HY.out.kept hb4)
  replace HL2 := Lib.hid (HL2.out.below hb4)
  replace HL3 := Lib.hid (HL3.out.below hb4)
  replace HBW := Lib.hid (below_call HBW.out hb4 HBW.out.size)
  have HI4 := Lib.hid (hi4)
  clear hb4 hi4
  go_wp2_with fail
  refine (refWrite_call HKK.out HW.out).mono ?_
  rintro e w5 ⟨v5, rfl, hi5, hb5⟩
  replace HW := Lib.hid (HW.out.below hb5)
  replace HT := Lib.hid (HT.out.below hb5)
  replace HY := Lib.hid (HY.out.kept hb5)
  replace HL2 := Lib.hid (HL2.out.below hb5)
  replace HL3 := Lib.hid (HL3.out.below hb5)
  replace HI4 := Lib.hid (HI4.out.below hb5)
  replace HBW := Lib.hid (below_call HBW.out hb5 HBW.out.size)
  have HI5 := Lib.hid (hi5)
  clear hb5 hi5
  go_wp2_with fail
  refine (isame_call HI4.out HI5.out).mono ?_
  rintro e w6 ⟨rfl, hb6⟩
  replace HW := Lib.hid (HW.out.below hb6)
  replace HT := Lib.hid (HT.out.below hb6)
  replace HY := Lib.hid (HY.out.kept hb6)
  replace HL2 := Lib.hid (HL2.out.below hb6)
  replace HL3 := Lib.hid (HL3.out.below hb6)
  replace HI4 := Lib.hid (HI4.out.below hb6)
  replace HI5 := Lib.hid (HI5.out.below hb6)
  replace HBW := Lib.hid (below_call HBW.out hb6 HBW.out.size)
  clear hb6 
  go_wp2_with fail
  refine (try_call b n k _).mono ?_
  rintro e w7 ⟨v6, rfl, hi6, hb7⟩
  replace HW := Lib.hid (HW.out.below hb7)
  replace HT := Lib.hid (HT.out.below hb7)
  replace HY := Lib.hid (HY.out.kept hb7)
  replace HL2 := Lib.hid (HL2.out.below hb7)
  replace HL3 := Lib.hid (HL3.out.below hb7)
  replace HI4 := Lib.hid (HI4.out.below hb7)
  replace HI5 := Lib.hid (HI5.out.below hb7)
  replace HBW := Lib.hid (below_call HBW.out hb7 HBW.out.size)
  have HI6 := Lib.hid (hi6)
  clear hb7 hi6
  go_wp2_with fail
  refine (refTry_call b n k _).mono ?_
  rintro e w8 ⟨v7, rfl, hi7, hb8⟩
  replace HW := Lib.hid (HW.out.below hb8)
  replace HT := Lib.hid (HT.out.below hb8)
  replace HY := Lib.hid (HY.out.kept hb8)
  replace HL2 := Lib.hid (HL2.out.below hb8)
  replace HL3 := Lib.hid (HL3.out.below hb8)
  replace HI4 := Lib.hid (HI4.out.below hb8)
  replace HI5 := Lib.hid (HI5.out.below hb8)
  replace HI6 := Lib.hid (HI6.out.below hb8)
  replace HBW := Lib.hid (below_call HBW.out hb8 HBW.out.size)
  have HI7 := Lib.hid (hi7)
  clear hb8 hi7
  go_wp2_with fail
  refine (isame_call HI6.out HI7.out).mono ?_
  rintro e w9 ⟨rfl, hb9⟩
  replace HW := Lib.hid (HW.out.below hb9)
  replace HT := Lib.hid (HT.out.below hb9)
  replace HY := Lib.hid (HY.out.kept hb9)
  replace HL2 := Lib.hid (HL2.out.below hb9)
  replace HL3 := Lib.hid (HL3.out.below hb9)
  replace HI4 := Lib.hid (HI4.out.below hb9)
  replace HI5 := Lib.hid (HI5.out.below hb9)
  replace HI6 := Lib.hid (HI6.out.below hb9)
  replace HI7 := Lib.hid (HI7.out.below hb9)
  replace HBW := Lib.hid (below_call HBW.out hb9 HBW.out.size)
  clear hb9 
  go_wp2_with fail
  refine (same_call HL2.out HL3.out).mono ?_
  rintro e w10 ⟨rfl, hb10⟩
  replace HW := Lib.hid (HW.out.below hb10)
  replace HT := Lib.hid (HT.out.below hb10)
  replace HY := Lib.hid (HY.out.kept hb10)
  replace HL2 := Lib.hid (HL2.out.below hb10)
  replace HL3 := Lib.hid (HL3.out.below hb10)
  replace HI4 := Lib.hid (HI4.out.below hb10)
  replace HI5 := Lib.hid (HI5.out.below hb10)
  replace HI6 := Lib.hid (HI6.out.below hb10)
  replace HI7 := Lib.hid (HI7.out.below hb10)
  replace HBW := Lib.hid (below_call HBW.out hb10 HBW.out.size)
  clear hb10 
  rw [decide_eq_true rfl]
  go_wp2
  go_ret
  exact ⟨rfl, HBW.out⟩
end Go.Proofs.Ytpkelneimjmmkaa

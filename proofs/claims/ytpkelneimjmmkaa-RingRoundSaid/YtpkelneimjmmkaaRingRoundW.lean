/- The walk of RingRound. -/
import Derived.Test.YtpkelneimjmmkaaRingG
import Derived.Test.YtpkelneimjmmkaaPureZ
namespace Go.Proofs.Ytpkelneimjmmkaa
open Go.RowKit

set_option maxHeartbeats 16000000 in
set_option maxRecDepth 20000 in
theorem ringRound_walk {b c n : Int} {w : World} : Calls Try.prog 24 #[.int .i64 b, .int .i64 c, .int .i64 n] w (BoolPost true w) := by
  go_enter Try.func24, Try.ntmps24
  go_wp2_with fail
  refine (awake14 _).mono ?_
  rintro e w1 ⟨rfl, hb1⟩
  have HBW := Lib.hid hb1
  clear hb1 
  by_cases hb0 : b < 0
  · go_wp2
    go_ret
    exact ⟨rfl, HBW.out⟩
  by_cases hb1 : 100 < b
  · go_wp2
    go_ret
    exact ⟨rfl, HBW.out⟩
  by_cases hc0 : c < 1
  · go_wp2
    go_ret
    exact ⟨rfl, HBW.out⟩
  by_cases hc1 : 8 < c
  · go_wp2
    go_ret
    exact ⟨rfl, HBW.out⟩
  by_cases hn0 : n < 0
  · go_wp2
    go_ret
    exact ⟨rfl, HBW.out⟩
  by_cases hn1 : 40 < n
  · go_wp2
    go_ret
    exact ⟨rfl, HBW.out⟩
  obtain ⟨B, rfl⟩ := Int.eq_ofNat_of_zero_le (show 0 ≤ b by omega)
  obtain ⟨K, rfl⟩ := Int.eq_ofNat_of_zero_le (show 0 ≤ c by omega)
  obtain ⟨N, rfl⟩ := Int.eq_ofNat_of_zero_le (show 0 ≤ n by omega)
  have hB : B ≤ 100 := by omega
  have hK1 : 1 ≤ K := by omega
  have hK : K ≤ 8 := by omega
  have hN : N ≤ 40 := by omega
  have hsz : sizeR (K : Int) = 3 + 6 * (K : Int) := by unfold sizeR; rw [if_pos ⟨by omega, by omega, by omega, by omega⟩]
  have hbs : IntKind.i64.wrap ((B : Int) + (3 + 6 * (K : Int))) = ((B + 3 + 6 * K : Nat) : Int) := by rw [IntKind.wrap_i64]; omega
  have hb2 : IntKind.i64.wrap ((B : Int) + 2) = ((B + 2 : Nat) : Int) := by rw [IntKind.wrap_i64]; omega
  have hnl : newLen ((B + 3 + 6 * K : Nat) : Int) = B + 3 + 6 * K := by unfold newLen; split <;> (try split) <;> omega
  go_wp2_with fail
  refine (size_call (K : Int) _).mono ?_
  rintro e w2 ⟨rfl, hb2⟩
  replace HBW := Lib.hid (below_call HBW.out hb2 HBW.out.size)
  clear hb2 
  rw [hsz]
  go_wp2_with fail
  refine (new_call ((B + 3 + 6 * K : Nat) : Int) ⟨by omega, by omega⟩ _).mono ?_
  rintro e w3 ⟨v2, rfl, ho2, hb3⟩
  replace HBW := Lib.hid (below_call HBW.out hb3 HBW.out.size)
  clear hb3
  rw [hnl] at ho2
  have HO2 := Lib.hid ho2.words
  clear ho2 hnl
  go_wp2_with fail
  go_loopw [8, 9] (fun vm qv wr => ∃ (i : Nat) (mi : List Int), i ≤ N ∧ qv = .int .i64 (i : Int) ∧ Hid (MemR B K i mi) ∧ Hid (Words wr vm mi) ∧ Hid (Below w.heap.size w wr)) (fun _ qv _ => N - (intOf qv).toNat)
  case atStart => exact ⟨0, _, Nat.zero_le _, rfl, Lib.hid (memR_zero B K), HO2, HBW⟩
  case round =>
    clear HO2 HBW
    obtain ⟨i, mi, hiN, rfl, HMR, HVM, HBW⟩ := hrel
    by_cases hlt : i < N
    · have hiI : (i : Int) < (N : Int) := by omega
      have hi1 : IntKind.i64.wrap ((i : Int) + 1) = (i : Int) + 1 := by rw [IntKind.wrap_i64]; omega
      have hIi : I64 (i : Int) := ⟨by omega, by omega⟩
      have hround := memR_round (ws := wordsR (i : Int)) hB hK1 hK (wordsR_len _) HMR.out
      simp only at hround
      obtain ⟨r1, r2, r3, r4, r5, r6⟩ := hround
      have HR := Lib.hid r6
      have HR4 := Lib.hid r4
      have HR3 := Lib.hid r3
      clear r6 r4 r3
      have HR1 := Lib.hid r1
      have HR2 := Lib.hid r2
      have HR5 := Lib.hid r5
      have HII := Lib.hid hIi
      clear r1 r2 r5 hIi
      go_wp2_with fail
      refine (words14_call (i : Int) _).mono ?_
      rintro e w21 ⟨v5, rfl, ho5, hb21⟩
      replace HVM := Lib.hid (HVM.out.below hb21)
      replace HBW := Lib.hid (below_call HBW.out hb21 HBW.out.size)
      have HQ5 := Lib.hid (ho5)
      clear hb21 ho5
      go_wp2_with fail
      refine (pushR_call HII.out HQ5.out).mono ?_
      rintro e w22 ⟨v6, rfl, hi6, hb22⟩
      replace HVM := Lib.hid (HVM.out.below hb22)
      replace HQ5 := Lib.hid (HQ5.out.below hb22)
      replace HBW := Lib.hid (below_call HBW.out hb22 HBW.out.size)
      have HI6 := Lib.hid (hi6)
      clear hb22 hi6
      clear HQ5
      go_wp2_with fail
      refine (start_call HI6.out).mono ?_
      rintro e w23 ⟨rfl, hb23⟩
      have ht23 := isTask_of HI6.out hb23
      generalize tcells (startCv _ _) (startT _).t = C23 at *
      replace HVM := Lib.hid (HVM.out.below hb23)
      replace HI6 := Lib.hid (HI6.out.below hb23)
      replace HBW := Lib.hid (below_call HBW.out hb23 HBW.out.size)
      have HT23 := Lib.hid ht23
      clear ht23 hb23
      clear HI6
      go_wp2_with fail
      refine (steps_call HT23.out HVM.out).mono ?_
      rintro e w24 ⟨v24, m24, rfl, ht24, ho24, hb24⟩
      have hT24 := ht24 w24 (HT23.out.below hb24)
      obtain ⟨cl24, rfl, hsz24, hone24, x3424, x3524, x124⟩ := hT24.list
      rw [HR2.out]
      rw [HR1.out] at x3524
      replace HVM := Lib.hid (HVM.out.below hb24)
      replace HT23 := Lib.hid (HT23.out.below hb24)
      replace HBW := Lib.hid (below_call HBW.out hb24 HBW.out.size)
      have HT24 := Lib.hid hT24
      have HW24 := Lib.hid ho24.words
      have HSZ24 := Lib.hid hsz24
      have HONE24 := Lib.hid hone24
      clear ht24 ho24 hb24 hT24 hsz24 hone24
      clear HT23
      clear x3424 x124
      go_wp2_with (first | with_reducible refine mid_stop 42 _ rfl ?_ | with_reducible refine storeM_stop rfl 42 _ _ rfl ?_)
      refine AtStoreM.go w24.heap.size 0 (cs := cl24) rfl rfl (newRow (by rw [HSZ24.out]; rfl)).2.2 (by rw [HSZ24.out]; exact size_task) HONE24.out ?_
      refine wpl_at fun W24 hW24 => ?_
      have hbw24 : Below w24.heap.size w24 W24 := by rw [hW24]; exact (newRow (by rw [HSZ24.out]; rfl)).1
      have HY24 : Hid (Box W24 w24.heap.size 42 cl24.toArray) := Lib.hid (by rw [hW24]; exact (newRow (by rw [HSZ24.out]; rfl)).2.1)
      replace HVM := Lib.hid (HVM.out.below hbw24)
      replace HT24 := Lib.hid (HT24.out.below hbw24)
      replace HW24 := Lib.hid (HW24.out.below hbw24)
      replace HBW := Lib.hid (below_call HBW.out hbw24 HBW.out.size)
      clear hW24 hbw24
      go_wp2_with (first | with_reducible refine mid_stop 42 _ rfl ?_ | with_reducible refine storeM_stop rfl 42 _ _ rfl ?_)
      refine (popR_call HII.out).mono ?_
      rintro e w25 ⟨v7, rfl, hi7, hb25⟩
      replace HVM := Lib.hid (HVM.out.below hb25)
      replace HT24 := Lib.hid (HT24.out.below hb25)
      replace HW24 := Lib.hid (HW24.out.below hb25)
      replace HY24 := Lib.hid (HY24.out.kept hb25)
      replace HBW := Lib.hid (below_call HBW.out hb25 HBW.out.size)
      have HI7 := Lib.hid (hi7)
      clear hb25 hi7
      go_wp2_with fail
      refine (start_call HI7.out).mono ?_
      rintro e w26 ⟨rfl, hb26⟩
      have ht26 := isTask_of HI7.out hb26
      generalize tcells (startCv _ _) (startT _).t = C26 at *
      replace HVM := Lib.hid (HVM.out.below hb26)
      replace HT24 := Lib.hid (HT24.out.below hb26)
      replace HW24 := Lib.hid (HW24.out.below hb26)
      replace HY24 := Lib.hid (HY24.out.kept hb26)
      replace HI7 := Lib.hid (HI7.out.below hb26)
      replace HBW := Lib.hid (below_call HBW.out hb26 HBW.out.size)
      have HT26 := Lib.hid ht26
      clear ht26 hb26
      clear HI7
      go_wp2_with fail
      refine (steps_call HT26.out HW24.out).mono ?_
      rintro e w27 ⟨v27, m27, rfl, ht27, ho27, hb27⟩
      have hT27 := ht27 w27 (HT26.out.below hb27)
      obtain ⟨cl27, rfl, hsz27, hone27, x3427, x3527, x127⟩ := hT27.list
      rw [HR5.out]
      replace HVM := Lib.hid (HVM.out.below hb27)
      replace HT24 := Lib.hid (HT24.out.below hb27)
      replace HW24 := Lib.hid (HW24.out.below hb27)
      replace HY24 := Lib.hid (HY24.out.kept hb27)
      replace HT26 := Lib.hid (HT26.out.below hb27)
      replace HBW := Lib.hid (below_call HBW.out hb27 HBW.out.size)
      have HT27 := Lib.hid hT27
      have HW27 := Lib.hid ho27.words
      have HSZ27 := Lib.hid hsz27
      have HONE27 := Lib.hid hone27
      clear ht27 ho27 hb27 hT27 hsz27 hone27
      clear HT26
      clear x3427 x3527 x127
      go_wp2_with (first | with_reducible refine mid_stop 42 _ rfl ?_ | with_reducible refine storeM_stop rfl 42 _ _ rfl ?_)
      refine AtStoreM.go w27.heap.size 0 (cs := cl27) rfl rfl (newRow (by rw [HSZ27.out]; rfl)).2.2 (by rw [HSZ27.out]; exact size_task) HONE27.out ?_
      refine wpl_at fun W27 hW27 => ?_
      have hbw27 : Below w27.heap.size w27 W27 := by rw [hW27]; exact (newRow (by rw [HSZ27.out]; rfl)).1
      have HY27 : Hid (Box W27 w27.heap.size 42 cl27.toArray) := Lib.hid (by rw [hW27]; exact (newRow (by rw [HSZ27.out]; rfl)).2.1)
      replace HVM := Lib.hid (HVM.out.below hbw27)
      replace HT24 := Lib.hid (HT24.out.below hbw27)
      replace HW24 := Lib.hid (HW24.out.below hbw27)
      replace HY24 := Lib.hid (HY24.out.kept hbw27)
      replace HT27 := Lib.hid (HT27.out.below hbw27)
      replace HW27 := Lib.hid (HW27.out.below hbw27)
      replace HBW := Lib.hid (below_call HBW.out hbw27 HBW.out.size)
      clear hW27 hbw27
      go_wp2_with (first | with_reducible refine mid_stop 42 _ rfl ?_ | with_reducible refine storeM_stop rfl 42 _ _ rfl ?_)
      refine AtMid.go rfl w27.heap.size 0 rfl HY27.out.range Try.underlying42 rfl (by rw [HSZ27.out]; exact size_task) ?_
      go_wp2_with (first | with_reducible refine mid_stop 42 _ rfl ?_ | with_reducible refine storeM_stop rfl 42 _ _ rfl ?_)
      refine (takenR_call HT27.out).mono ?_
      rintro e w28 ⟨v8, rfl, ho8, hb28⟩
      replace HVM := Lib.hid (HVM.out.below hb28)
      replace HT24 := Lib.hid (HT24.out.below hb28)
      replace HW24 := Lib.hid (HW24.out.below hb28)
      replace HY24 := Lib.hid (HY24.out.kept hb28)
      replace HT27 := Lib.hid (HT27.out.below hb28)
      replace HW27 := Lib.hid (HW27.out.below hb28)
      replace HY27 := Lib.hid (HY27.out.kept hb28)
      replace HBW := Lib.hid (below_call HBW.out hb28 HBW.out.size)
      have HL8 := Lib.hid (ho8)
      clear hb28 ho8
      rw [HR3.out]
      rw [HR4.out] at HL8
      skip
      have f35 := (HY24.out.cell 35).trans (by simpa using x3524)
      go_wp2_with fail
      refine (words14_call (i : Int) _).mono ?_
      rintro e w29 ⟨v9, rfl, ho9, hb29⟩
      replace HVM := Lib.hid (HVM.out.below hb29)
      replace HT24 := Lib.hid (HT24.out.below hb29)
      replace HW24 := Lib.hid (HW24.out.below hb29)
      replace HY24 := Lib.hid (HY24.out.kept hb29)
      replace HT27 := Lib.hid (HT27.out.below hb29)
      replace HW27 := Lib.hid (HW27.out.below hb29)
      replace HY27 := Lib.hid (HY27.out.kept hb29)
      replace HL8 := Lib.hid (HL8.out.below hb29)
      replace HBW := Lib.hid (below_call HBW.out hb29 HBW.out.size)
      have HQ9 := Lib.hid (ho9)
      clear hb29 ho9
      go_wp2_with fail
      refine (same_call HL8.out HQ9.out).mono ?_
      rintro e w30 ⟨rfl, hb30⟩
      replace HVM := Lib.hid (HVM.out.below hb30)
      replace HT24 := Lib.hid (HT24.out.below hb30)
      replace HW24 := Lib.hid (HW24.out.below hb30)
      replace HY24 := Lib.hid (HY24.out.kept hb30)
      replace HT27 := Lib.hid (HT27.out.below hb30)
      replace HW27 := Lib.hid (HW27.out.below hb30)
      replace HY27 := Lib.hid (HY27.out.kept hb30)
      replace HL8 := Lib.hid (HL8.out.below hb30)
      replace HQ9 := Lib.hid (HQ9.out.below hb30)
      replace HBW := Lib.hid (below_call HBW.out hb30 HBW.out.size)
      clear hb30 
      rw [decide_eq_true rfl]
      go_wp2
      go_roundw
      case rel => exact ⟨i + 1, _, by omega, by go_num, HR, HW27, HBW⟩
      case measure => simp [intOf]; omega
    · have hiI : ¬ (i : Int) < (N : Int) := by omega
      have hiN2 : i = N := by omega
      subst hiN2
      have hIi : I64 (i : Int) := ⟨by omega, by omega⟩
      have hend := memR_end hB hK1 hK HMR.out
      simp only at hend
      obtain ⟨r1, r2, r3⟩ := hend
      have HR1 := Lib.hid r1
      have HR2 := Lib.hid r2
      have HR3 := Lib.hid r3
      have HII := Lib.hid hIi
      clear r1 r2 r3 hIi
      go_wp2_with fail
      refine (popR_call HII.out).mono ?_
      rintro e w41 ⟨v7, rfl, hi7, hb41⟩
      replace HVM := Lib.hid (HVM.out.below hb41)
      replace HBW := Lib.hid (below_call HBW.out hb41 HBW.out.size)
      have HI7 := Lib.hid (hi7)
      clear hb41 hi7
      go_wp2_with fail
      refine (start_call HI7.out).mono ?_
      rintro e w42 ⟨rfl, hb42⟩
      have ht42 := isTask_of HI7.out hb42
      generalize tcells (startCv _ _) (startT _).t = C42 at *
      replace HVM := Lib.hid (HVM.out.below hb42)
      replace HI7 := Lib.hid (HI7.out.below hb42)
      replace HBW := Lib.hid (below_call HBW.out hb42 HBW.out.size)
      have HT42 := Lib.hid ht42
      clear ht42 hb42
      clear HI7
      go_wp2_with fail
      refine (steps_call HT42.out HVM.out).mono ?_
      rintro e w43 ⟨v43, m43, rfl, ht43, ho43, hb43⟩
      have hT43 := ht43 w43 (HT42.out.below hb43)
      obtain ⟨cl43, rfl, hsz43, hone43, x3443, x3543, x143⟩ := hT43.list
      rw [HR3.out]
      rw [HR1.out] at x3443
      replace HVM := Lib.hid (HVM.out.below hb43)
      replace HT42 := Lib.hid (HT42.out.below hb43)
      replace HBW := Lib.hid (below_call HBW.out hb43 HBW.out.size)
      have HT43 := Lib.hid hT43
      have HW43 := Lib.hid ho43.words
      have HSZ43 := Lib.hid hsz43
      have HONE43 := Lib.hid hone43
      clear ht43 ho43 hb43 hT43 hsz43 hone43
      clear HT42
      clear x3543 x143
      go_wp2_with (first | with_reducible refine mid_stop 42 _ rfl ?_ | with_reducible refine storeM_stop rfl 42 _ _ rfl ?_)
      refine AtStoreM.go w43.heap.size 0 (cs := cl43) rfl rfl (newRow (by rw [HSZ43.out]; rfl)).2.2 (by rw [HSZ43.out]; exact size_task) HONE43.out ?_
      refine wpl_at fun W43 hW43 => ?_
      have hbw43 : Below w43.heap.size w43 W43 := by rw [hW43]; exact (newRow (by rw [HSZ43.out]; rfl)).1
      have HY43 : Hid (Box W43 w43.heap.size 42 cl43.toArray) := Lib.hid (by rw [hW43]; exact (newRow (by rw [HSZ43.out]; rfl)).2.1)
      replace HVM := Lib.hid (HVM.out.below hbw43)
      replace HT43 := Lib.hid (HT43.out.below hbw43)
      replace HW43 := Lib.hid (HW43.out.below hbw43)
      replace HBW := Lib.hid (below_call HBW.out hbw43 HBW.out.size)
      clear hW43 hbw43
      go_wp2_with (first | with_reducible refine mid_stop 42 _ rfl ?_ | with_reducible refine storeM_stop rfl 42 _ _ rfl ?_)
      refine AtMid.go rfl w43.heap.size 0 rfl HY43.out.range Try.underlying42 rfl (by rw [HSZ43.out]; exact size_task) ?_
      go_wp2_with (first | with_reducible refine mid_stop 42 _ rfl ?_ | with_reducible refine storeM_stop rfl 42 _ _ rfl ?_)
      refine (takenR_call HT43.out).mono ?_
      rintro e w44 ⟨v8, rfl, ho8, hb44⟩
      replace HVM := Lib.hid (HVM.out.below hb44)
      replace HT43 := Lib.hid (HT43.out.below hb44)
      replace HW43 := Lib.hid (HW43.out.below hb44)
      replace HY43 := Lib.hid (HY43.out.kept hb44)
      replace HBW := Lib.hid (below_call HBW.out hb44 HBW.out.size)
      have HL8 := Lib.hid (ho8)
      clear hb44 ho8
      rw [HR2.out]
      skip
      have f34 := (HY43.out.cell 34).trans (by simpa using x3443)
      have hmr := HMR.out
      obtain ⟨m1, m2, m3, m4⟩ := hmr
      obtain ⟨A3, c3, rfl, hc3, hc4, _⟩ := HVM.out.1.form
      obtain ⟨b3, o3, rfl, hb3, p3⟩ := HVM.out.at_ rfl (show B + 2 < mi.length by omega)
      rw [m4] at p3
      have hml : (mi.length : Int) = ((B + 3 + 6 * K : Nat) : Int) := by omega
      have hgt : ((B + 2 : Nat) : Int) < (mi.length : Int) := by omega
      clear m1 m2 m3 m4
      go_wp2
      go_ret
      exact ⟨rfl, HBW.out⟩
end Go.Proofs.Ytpkelneimjmmkaa

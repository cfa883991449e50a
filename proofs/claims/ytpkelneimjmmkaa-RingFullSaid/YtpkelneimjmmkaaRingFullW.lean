/- The walk of RingFull. -/
import Derived.Test.YtpkelneimjmmkaaRingG
import Derived.Test.YtpkelneimjmmkaaPureZ
namespace Go.Proofs.Ytpkelneimjmmkaa
open Go.RowKit

theorem wrap_small {l : Nat} (h : l ≤ 100) : IntKind.i64.wrap (l : Int) = (l : Int) := by rw [IntKind.wrap_i64]; omega
theorem wrap64_small {l : Nat} (h : l ≤ 100) : wrap64 (l : Int) = (l : Int) := by unfold wrap64; omega

set_option maxHeartbeats 16000000 in
set_option maxRecDepth 20000 in
theorem ringFull_walk {b c n : Int} {w : World} : Calls Try.prog 22 #[.int .i64 b, .int .i64 c, .int .i64 n] w (BoolPost true w) := by
  go_enter Try.func22, Try.ntmps22
  go_wp2_with fail
  refine (awake14 _).mono ?_
  rintro e w1 ⟨rfl, hb1⟩
  have HBW := Lib.hid hb1
  clear hb1 
  by_cases hb0 : b < 0
  · go_wp2
    go_ret
    exact ⟨rfl, HBW.out⟩
  by_cases hb1 : 100 < b
  · go_wp2
    go_ret
    exact ⟨rfl, HBW.out⟩
  by_cases hc0 : c < 1
  · go_wp2
    go_ret
    exact ⟨rfl, HBW.out⟩
  by_cases hc1 : 8 < c
  · go_wp2
    go_ret
    exact ⟨rfl, HBW.out⟩
  by_cases hn0 : n < 0
  · go_wp2
    go_ret
    exact ⟨rfl, HBW.out⟩
  by_cases hn1 : 20 < n
  · go_wp2
    go_ret
    exact ⟨rfl, HBW.out⟩
  obtain ⟨B, rfl⟩ := Int.eq_ofNat_of_zero_le (show 0 ≤ b by omega)
  obtain ⟨K, rfl⟩ := Int.eq_ofNat_of_zero_le (show 0 ≤ c by omega)
  obtain ⟨N, rfl⟩ := Int.eq_ofNat_of_zero_le (show 0 ≤ n by omega)
  have hB : B ≤ 100 := by omega
  have hK1 : 1 ≤ K := by omega
  have hK : K ≤ 8 := by omega
  have hN : N ≤ 20 := by omega
  have hsz : sizeR (K : Int) = 3 + 6 * (K : Int) := by unfold sizeR; rw [if_pos ⟨by omega, by omega, by omega, by omega⟩]
  have hbs : IntKind.i64.wrap ((B : Int) + (3 + 6 * (K : Int))) = ((B + 3 + 6 * K : Nat) : Int) := by rw [IntKind.wrap_i64]; omega
  have hb2 : IntKind.i64.wrap ((B : Int) + 2) = ((B + 2 : Nat) : Int) := by rw [IntKind.wrap_i64]; omega
  have hnl : newLen ((B + 3 + 6 * K : Nat) : Int) = B + 3 + 6 * K := by unfold newLen; split <;> (try split) <;> omega
  go_wp2_with fail
  refine (size_call (K : Int) _).mono ?_
  rintro e w2 ⟨rfl, hb2⟩
  replace HBW := Lib.hid (below_call HBW.out hb2 HBW.out.size)
  clear hb2 
  rw [hsz]
  go_wp2_with fail
  refine (new_call ((B + 3 + 6 * K : Nat) : Int) ⟨by omega, by omega⟩ _).mono ?_
  rintro e w3 ⟨v2, rfl, ho2, hb3⟩
  replace HBW := Lib.hid (below_call HBW.out hb3 HBW.out.size)
  clear hb3
  rw [hnl] at ho2
  have HO2 := Lib.hid ho2.words
  clear ho2 hnl
  go_wp2_with fail
  go_loopw [8, 9, 10] (fun vm lv qv wr => ∃ (i l : Nat) (mi : List Int), i ≤ N ∧ qv = .int .i64 (i : Int) ∧ lv = .int .i64 (l : Int) ∧ Hid (l = min i K) ∧ Hid (MemL B K i l 0 mi) ∧ Hid (Words wr vm mi) ∧ Hid (Below w.heap.size w wr)) (fun _ _ qv _ => N - (intOf qv).toNat)
  case atStart => exact ⟨0, 0, _, Nat.zero_le _, rfl, rfl, Lib.hid (by omega), Lib.hid (memL_zero B K), HO2, HBW⟩
  case round =>
    clear HO2 HBW
    obtain ⟨i, l, mi, hiN, rfl, rfl, hl, HMR, HVM, HBW⟩ := hrel
    by_cases hlt : i < N
    · have hiI : (i : Int) < (N : Int) := by omega
      have hi1 : IntKind.i64.wrap ((i : Int) + 1) = (i : Int) + 1 := by rw [IntKind.wrap_i64]; omega
      have hIi : I64 (l : Int) := by have := hl.out; exact ⟨by omega, by omega⟩
      have hpush := memL_push hB hK1 hK (by omega) hl.out HMR.out
      simp only at hpush
      obtain ⟨r1, hcase⟩ := hpush
      have HR1 := Lib.hid r1
      have HC := Lib.hid hcase
      have HII := Lib.hid hIi
      clear r1 hcase hIi
      go_wp2_with fail
      refine (words14_call (i : Int) _).mono ?_
      rintro e w21 ⟨v5, rfl, ho5, hb21⟩
      replace HVM := Lib.hid (HVM.out.below hb21)
      replace HBW := Lib.hid (below_call HBW.out hb21 HBW.out.size)
      have HQ5 := Lib.hid (ho5)
      clear hb21 ho5
      go_wp2_with fail
      refine (pushR_call HII.out HQ5.out).mono ?_
      rintro e w22 ⟨v6, rfl, hi6, hb22⟩
      replace HVM := Lib.hid (HVM.out.below hb22)
      replace HQ5 := Lib.hid (HQ5.out.below hb22)
      replace HBW := Lib.hid (below_call HBW.out hb22 HBW.out.size)
      have HI6 := Lib.hid (hi6)
      clear hb22 hi6
      clear HQ5
      go_wp2_with fail
      refine (start_call HI6.out).mono ?_
      rintro e w23 ⟨rfl, hb23⟩
      have ht23 := isTask_of HI6.out hb23
      generalize tcells (startCv _ _) (startT _).t = C23 at *
      replace HVM := Lib.hid (HVM.out.below hb23)
      replace HI6 := Lib.hid (HI6.out.below hb23)
      replace HBW := Lib.hid (below_call HBW.out hb23 HBW.out.size)
      have HT23 := Lib.hid ht23
      clear ht23 hb23
      clear HI6
      go_wp2_with fail
      refine (steps_call HT23.out HVM.out).mono ?_
      rintro e w24 ⟨v24, m24, rfl, ht24, ho24, hb24⟩
      have hT24 := ht24 w24 (HT23.out.below hb24)
      obtain ⟨cl24, rfl, hsz24, hone24, x3424, x3524, x124⟩ := hT24.list
      rw [HR1.out] at x3424
      replace HVM := Lib.hid (HVM.out.below hb24)
      replace HT23 := Lib.hid (HT23.out.below hb24)
      replace HBW := Lib.hid (below_call HBW.out hb24 HBW.out.size)
      have HT24 := Lib.hid hT24
      have HW24 := Lib.hid ho24.words
      have HSZ24 := Lib.hid hsz24
      have HONE24 := Lib.hid hone24
      clear ht24 ho24 hb24 hT24 hsz24 hone24
      clear HT23
      clear x124
      generalize (stepsT (startT (pushC (B : Int) (K : Int) (l : Int) (wordsR (i : Int)))) mi 99).2.2 = nn at *
      go_wp2_with (first | with_reducible refine mid_stop 42 _ rfl ?_ | with_reducible refine storeM_stop rfl 42 _ _ rfl ?_)
      refine AtStoreM.go w24.heap.size 0 (cs := cl24) rfl rfl (newRow (by rw [HSZ24.out]; rfl)).2.2 (by rw [HSZ24.out]; exact size_task) HONE24.out ?_
      refine wpl_at fun W24 hW24 => ?_
      have hbw24 : Below w24.heap.size w24 W24 := by rw [hW24]; exact (newRow (by rw [HSZ24.out]; rfl)).1
      have HY24 : Hid (Box W24 w24.heap.size 42 cl24.toArray) := Lib.hid (by rw [hW24]; exact (newRow (by rw [HSZ24.out]; rfl)).2.1)
      replace HVM := Lib.hid (HVM.out.below hbw24)
      replace HT24 := Lib.hid (HT24.out.below hbw24)
      replace HW24 := Lib.hid (HW24.out.below hbw24)
      replace HBW := Lib.hid (below_call HBW.out hbw24 HBW.out.size)
      clear hW24 hbw24
      have f34 := (HY24.out.cell 34).trans (by simpa using x3424)
      have f35 := (HY24.out.cell 35).trans (by simpa using x3524)
      clear x3424 x3524
      have hcs := HC.out
      rcases hcs with ⟨c1, c2, c3⟩ | ⟨c1, c2, c3⟩
      · rw [c2] at f35
        have hiK : (i : Int) < (K : Int) := by omega
        have nK : decide (i < K) = true := decide_eq_true (by omega)
        have hl9 : Hid (l + 1 = min (i + 1) K) := Lib.hid (by have := hl.out; omega)
        have hl1 : IntKind.i64.wrap ((l : Int) + 1) = (l : Int) + 1 := by have := hl.out; rw [IntKind.wrap_i64]; omega
        have HM := Lib.hid c3
        clear c3
        go_wp2
        go_roundw
        case rel => exact ⟨i + 1, l + 1, _, by omega, by go_num, by go_num, hl9, HM, HW24, HBW⟩
        case measure => simp [intOf]; omega
      · rw [c2] at f35
        have hiK : ¬ (i : Int) < (K : Int) := by omega
        have nK : decide (i < K) = false := decide_eq_false (by omega)
        have hl9 : Hid (l = min (i + 1) K) := Lib.hid (by have := hl.out; omega)
        have hl8 : l ≤ 100 := by have := hl.out; omega
        have hl2 : wrap64 (l : Int) = (l : Int) := wrap64_small hl8
        have hl1 : IntKind.i64.wrap (l : Int) = (l : Int) := wrap_small hl8
        have HM := Lib.hid c3
        clear c3
        go_wp2
        go_roundw
        case rel => exact ⟨i + 1, l, _, by omega, by go_num, by go_num, hl9, HM, HW24, HBW⟩
        case measure => simp [intOf]; omega
    · have hiI : ¬ (i : Int) < (N : Int) := by omega
      have hiN2 : i = N := by omega
      subst hiN2
      obtain ⟨wo, rfl⟩ : ∃ wo : World, wo = wr := ⟨_, rfl⟩
      go_wp2_with fail
      go_loopw [8, 14] (fun vm qv wr => ∃ (p : Nat) (mi : List Int), p ≤ l + 1 ∧ qv = .int .i64 (p : Int) ∧ Hid (MemL B K i l (min p l) mi) ∧ Hid (Words wr vm mi) ∧ Hid (Below w.heap.size w wr)) (fun _ qv _ => l + 1 - (intOf qv).toNat)
      case atStart => exact ⟨0, _, Nat.zero_le _, rfl, by rw [Nat.zero_min]; exact HMR, HVM, HBW⟩
      case round =>
        clear HVM HBW HMR
        obtain ⟨p, m2, hp, rfl, HMR, HVM, HBW⟩ := hrel
        by_cases hpl : p ≤ l
        · have hpI : (p : Int) ≤ (l : Int) := by omega
          have hp1 : IntKind.i64.wrap ((p : Int) + 1) = (p : Int) + 1 := by have := hl.out; rw [IntKind.wrap_i64]; omega
          have hIi : I64 (p : Int) := by have := hl.out; exact ⟨by omega, by omega⟩
          rw [Nat.min_eq_left hpl] at HMR
          have hpop := memL_pop hB hK1 hK (by have := hl.out; omega) hpl HMR.out
          simp only at hpop
          have HC := Lib.hid hpop
          have HII := Lib.hid hIi
          clear hpop hIi
          go_wp2_with fail
          refine (popR_call HII.out).mono ?_
          rintro e w41 ⟨v7, rfl, hi7, hb41⟩
          replace HVM := Lib.hid (HVM.out.below hb41)
          replace HBW := Lib.hid (below_call HBW.out hb41 HBW.out.size)
          have HI7 := Lib.hid (hi7)
          clear hb41 hi7
          go_wp2_with fail
          refine (start_call HI7.out).mono ?_
          rintro e w42 ⟨rfl, hb42⟩
          have ht42 := isTask_of HI7.out hb42
          generalize tcells (startCv _ _) (startT _).t = C42 at *
          replace HVM := Lib.hid (HVM.out.below hb42)
          replace HI7 := Lib.hid (HI7.out.below hb42)
          replace HBW := Lib.hid (below_call HBW.out hb42 HBW.out.size)
          have HT42 := Lib.hid ht42
          clear ht42 hb42
          clear HI7
          go_wp2_with fail
          refine (steps_call HT42.out HVM.out).mono ?_
          rintro e w43 ⟨v43, m43, rfl, ht43, ho43, hb43⟩
          have hT43 := ht43 w43 (HT42.out.below hb43)
          obtain ⟨cl43, rfl, hsz43, hone43, x3443, x3543, x143⟩ := hT43.list
          replace HVM := Lib.hid (HVM.out.below hb43)
          replace HT42 := Lib.hid (HT42.out.below hb43)
          replace HBW := Lib.hid (below_call HBW.out hb43 HBW.out.size)
          have HT43 := Lib.hid hT43
          have HW43 := Lib.hid ho43.words
          have HSZ43 := Lib.hid hsz43
          have HONE43 := Lib.hid hone43
          clear ht43 ho43 hb43 hT43 hsz43 hone43
          clear HT42
          clear x3443 x3543 x143
          generalize (stepsT (startT (popC (B : Int) (K : Int) (p : Int))) m2 99).2.2 = nn at *
          go_wp2_with (first | with_reducible refine mid_stop 42 _ rfl ?_ | with_reducible refine storeM_stop rfl 42 _ _ rfl ?_)
          refine AtStoreM.go w43.heap.size 0 (cs := cl43) rfl rfl (newRow (by rw [HSZ43.out]; rfl)).2.2 (by rw [HSZ43.out]; exact size_task) HONE43.out ?_
          refine wpl_at fun W43 hW43 => ?_
          have hbw43 : Below w43.heap.size w43 W43 := by rw [hW43]; exact (newRow (by rw [HSZ43.out]; rfl)).1
          have HY43 : Hid (Box W43 w43.heap.size 42 cl43.toArray) := Lib.hid (by rw [hW43]; exact (newRow (by rw [HSZ43.out]; rfl)).2.1)
          replace HVM := Lib.hid (HVM.out.below hbw43)
          replace HT43 := Lib.hid (HT43.out.below hbw43)
          replace HW43 := Lib.hid (HW43.out.below hbw43)
          replace HBW := Lib.hid (below_call HBW.out hbw43 HBW.out.size)
          clear hW43 hbw43
          go_wp2_with (first | with_reducible refine mid_stop 42 _ rfl ?_ | with_reducible refine storeM_stop rfl 42 _ _ rfl ?_)
          refine AtMid.go rfl w43.heap.size 0 rfl HY43.out.range Try.underlying42 rfl (by rw [HSZ43.out]; exact size_task) ?_
          go_wp2_with (first | with_reducible refine mid_stop 42 _ rfl ?_ | with_reducible refine storeM_stop rfl 42 _ _ rfl ?_)
          refine (takenR_call HT43.out).mono ?_
          rintro e w44 ⟨v8, rfl, ho8, hb44⟩
          replace HVM := Lib.hid (HVM.out.below hb44)
          replace HT43 := Lib.hid (HT43.out.below hb44)
          replace HW43 := Lib.hid (HW43.out.below hb44)
          replace HY43 := Lib.hid (HY43.out.kept hb44)
          replace HBW := Lib.hid (below_call HBW.out hb44 HBW.out.size)
          have HL8 := Lib.hid (ho8)
          clear hb44 ho8
          have hcs := HC.out
          rcases hcs with ⟨c1, c2, c3, c4⟩ | ⟨c1, c2, c4⟩
          · have hpl2 : (p : Int) < (l : Int) := by omega
            have npl : decide (p < l) = true := decide_eq_true (by omega)
            have hpl3 : min (p + 1) l = p + 1 := by omega
            have HM := Lib.hid c4
            rw [c2]
            rw [c3] at HL8
            clear c3 c4
            go_wp2_with fail
            refine (words14_call (p : Int) _).mono ?_
            rintro e w61 ⟨v9, rfl, ho9, hb61⟩
            replace HVM := Lib.hid (HVM.out.below hb61)
            replace HT43 := Lib.hid (HT43.out.below hb61)
            replace HW43 := Lib.hid (HW43.out.below hb61)
            replace HY43 := Lib.hid (HY43.out.kept hb61)
            replace HL8 := Lib.hid (HL8.out.below hb61)
            replace HBW := Lib.hid (below_call HBW.out hb61 HBW.out.size)
            have HQ9 := Lib.hid (ho9)
            clear hb61 ho9
            go_wp2_with fail
            refine (same_call HL8.out HQ9.out).mono ?_
            rintro e w62 ⟨rfl, hb62⟩
            replace HVM := Lib.hid (HVM.out.below hb62)
            replace HT43 := Lib.hid (HT43.out.below hb62)
            replace HW43 := Lib.hid (HW43.out.below hb62)
            replace HY43 := Lib.hid (HY43.out.kept hb62)
            replace HL8 := Lib.hid (HL8.out.below hb62)
            replace HQ9 := Lib.hid (HQ9.out.below hb62)
            replace HBW := Lib.hid (below_call HBW.out hb62 HBW.out.size)
            clear hb62 
            rw [decide_eq_true rfl]
            go_wp2
            go_roundw
            case rel => exact ⟨p + 1, _, by omega, by go_num, by rw [hpl3]; exact HM, HW43, HBW⟩
            case measure => simp [intOf]; omega
          · have hpl2 : ¬ (p : Int) < (l : Int) := by omega
            have npl : decide (p < l) = false := decide_eq_false (by omega)
            have hpl3 : min (p + 1) l = p := by omega
            clear c1
            have HM := Lib.hid c4
            rw [c2]
            clear c4
            go_wp2
            go_roundw
            case rel => exact ⟨p + 1, _, by omega, by go_num, by rw [hpl3]; exact HM, HW43, HBW⟩
            case measure => simp [intOf]; omega
        · have hpI : ¬ (p : Int) ≤ (l : Int) := by omega
          have hmr := HMR.out
          obtain ⟨m1, _, _, m4, _⟩ := hmr
          obtain ⟨A3, c3, rfl, hc3, hc4, _⟩ := HVM.out.1.form
          obtain ⟨b3, o3, rfl, hb3, p3⟩ := HVM.out.at_ rfl (show B + 2 < m2.length by omega)
          rw [m4] at p3
          have hgt : ((B + 2 : Nat) : Int) < (m2.length : Int) := by omega
          by_cases hik : i ≤ K
          · obtain rfl : l = i := by have := hl.out; omega
            rw [Int.sub_self] at p3
            have hkI : (l : Int) ≤ (K : Int) := by omega
            have nk : decide (K < l) = false := decide_eq_false (by omega)
            clear m1 m4
            go_wp2
            go_ret
            exact ⟨rfl, HBW.out⟩
          · obtain rfl : l = K := by have := hl.out; omega
            have hkI : ¬ (i : Int) ≤ (l : Int) := by omega
            have nk : decide (l < i) = true := decide_eq_true (by omega)
            have hsub : IntKind.i64.wrap ((i : Int) - (l : Int)) = (i : Int) - (l : Int) := by rw [IntKind.wrap_i64]; omega
            have hcv : IntKind.u64.wrap ((i : Int) - (l : Int)) = (i : Int) - (l : Int) := by rw [IntKind.wrap_u64]; omega
            clear m1 m4
            go_wp2
            go_ret
            exact ⟨rfl, HBW.out⟩
end Go.Proofs.Ytpkelneimjmmkaa

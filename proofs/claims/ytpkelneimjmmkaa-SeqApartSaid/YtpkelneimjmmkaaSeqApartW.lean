/- The walk of SeqApart. -/
import Derived.Test.YtpkelneimjmmkaaSeqJ
import Derived.Test.YtpkelneimjmmkaaCellRunsW
namespace Go.Proofs.Ytpkelneimjmmkaa
open Go.RowKit

set_option maxHeartbeats 16000000 in
set_option maxRecDepth 20000 in
theorem seqApart_walk {vm : Value} {ms : List Int} {b n k st : Int} {w : World} (hm : Words w vm ms) :
    Calls Try.prog 19 #[vm, .int .i64 b, .int .i64 n, .int .i64 k, .int .i64 st] w (BoolPost true w) := by
  obtain ⟨B, d, rfl, hd1, hd2, _⟩ := hm.1.form
  unfold maxLen at hd2
  have HM := Lib.hid hm
  clear hm
  obtain ⟨q, hq, hqe⟩ := and_mask st 255 (by omega)
  have e255 : ((255 : Nat) : Int) = 255 := rfl
  rw [e255] at hqe
  clear e255
  go_enter Try.func19, Try.ntmps19
  go_wp2_with fail
  refine (awake15 _).mono ?_
  rintro e w1 ⟨rfl, hb1⟩
  replace HM := Lib.hid (HM.out.below hb1)
  have HBW := Lib.hid hb1
  clear hb1 
  by_cases h256 : 256 < ms.length
  · have h256' : (256 : Int) < (ms.length : Int) := by omega
    go_wp2
    go_ret
    exact ⟨rfl, HBW.out⟩
  have n256 : ¬ (256 : Int) < (ms.length : Int) := by omega
  by_cases hb0 : b < 0
  · go_wp2
    go_ret
    exact ⟨rfl, HBW.out⟩
  by_cases hb1 : 100 < b
  · go_wp2
    go_ret
    exact ⟨rfl, HBW.out⟩
  by_cases hn0 : n < 1
  · go_wp2
    go_ret
    exact ⟨rfl, HBW.out⟩
  by_cases hn1 : 28 < n
  · go_wp2
    go_ret
    exact ⟨rfl, HBW.out⟩
  by_cases hk0 : k < 1
  · go_wp2
    go_ret
    exact ⟨rfl, HBW.out⟩
  by_cases hk1 : 6 < k
  · go_wp2
    go_ret
    exact ⟨rfl, HBW.out⟩
  obtain ⟨N, rfl⟩ := Int.eq_ofNat_of_zero_le (show 0 ≤ n by omega)
  have hm256 : ms.length ≤ 256 := by omega
  have HM256 := Lib.hid hm256
  have HPT := Lib.hid (try_still (b := b) (n := (N : Int)) (k := k) hm256 (q : Int))
  have HPW := Lib.hid (write_apart (b := b) (ver := 2 * k) (ws := wordsQ N k) hm256 (q : Int))
  have hw2 : IntKind.i64.wrap (2 * k) = 2 * k := by rw [IntKind.wrap_i64]; omega
  clear hm256
  go_wp2_with fail
  refine (try_call b (N : Int) k _).mono ?_
  rintro e w2 ⟨v2, rfl, hi2, hb2⟩
  replace HM := Lib.hid (HM.out.below hb2)
  replace HBW := Lib.hid (below_call HBW.out hb2 HBW.out.size)
  have HI2 := Lib.hid (hi2)
  clear hb2 hi2
  go_wp2_with fail
  refine (start_call HI2.out).mono ?_
  rintro e w3 ⟨rfl, hb3⟩
  have ht3 := isTask_of HI2.out hb3
  generalize tcells (startCv _ _) (startT _).t = C3 at *
  replace HM := Lib.hid (HM.out.below hb3)
  replace HI2 := Lib.hid (HI2.out.below hb3)
  replace HBW := Lib.hid (below_call HBW.out hb3 HBW.out.size)
  have HT3 := Lib.hid ht3
  clear ht3 hb3
  clear HI2
  go_wp2_with fail
  refine (steps_call HT3.out HM.out).mono ?_
  rintro e w4 ⟨v4, m4, rfl, ht4, ho4, hb4⟩
  have hT4 := ht4 w4 (HT3.out.below hb4)
  obtain ⟨cl4, rfl, hsz4, hone4, x344, x354, x14⟩ := hT4.list
  rw [HPT.out] at ho4
  replace HM := Lib.hid (HM.out.below hb4)
  replace HT3 := Lib.hid (HT3.out.below hb4)
  replace HBW := Lib.hid (below_call HBW.out hb4 HBW.out.size)
  have HT4 := Lib.hid hT4
  have HW4 := Lib.hid ho4.words
  have HSZ4 := Lib.hid hsz4
  have HONE4 := Lib.hid hone4
  clear ht4 ho4 hb4 hT4 hsz4 hone4
  clear HT3
  clear x344 x354 x14
  go_wp2_with (first | with_reducible refine mid_stop 42 _ rfl ?_ | with_reducible refine storeM_stop rfl 42 _ _ rfl ?_)
  refine AtStoreM.go w4.heap.size 0 (cs := cl4) rfl rfl (newRow (by rw [HSZ4.out]; rfl)).2.2 (by rw [HSZ4.out]; exact size_task) HONE4.out ?_
  refine wpl_at fun W4 hW4 => ?_
  have hbw4 : Below w4.heap.size w4 W4 := by rw [hW4]; exact (newRow (by rw [HSZ4.out]; rfl)).1
  have HY4 : Hid (Box W4 w4.heap.size 42 cl4.toArray) := Lib.hid (by rw [hW4]; exact (newRow (by rw [HSZ4.out]; rfl)).2.1)
  replace HM := Lib.hid (HM.out.below hbw4)
  replace HT4 := Lib.hid (HT4.out.below hbw4)
  replace HW4 := Lib.hid (HW4.out.below hbw4)
  replace HBW := Lib.hid (below_call HBW.out hbw4 HBW.out.size)
  clear hW4 hbw4
  go_wp2_with fail
  refine (words15_call N (by omega) k (by omega) _).mono ?_
  rintro e w5 ⟨v5, rfl, ho5, hb5⟩
  replace HM := Lib.hid (HM.out.below hb5)
  replace HT4 := Lib.hid (HT4.out.below hb5)
  replace HW4 := Lib.hid (HW4.out.below hb5)
  replace HY4 := Lib.hid (HY4.out.kept hb5)
  replace HBW := Lib.hid (below_call HBW.out hb5 HBW.out.size)
  have HQ5 := Lib.hid (ho5.words)
  clear hb5 ho5
  go_wp2_with fail
  refine (write_call (b := b) (ver := 2 * k) ⟨by omega, by omega⟩ HQ5.out).mono ?_
  rintro e w6 ⟨v6, rfl, hi6, hb6⟩
  replace HM := Lib.hid (HM.out.below hb6)
  replace HT4 := Lib.hid (HT4.out.below hb6)
  replace HW4 := Lib.hid (HW4.out.below hb6)
  replace HY4 := Lib.hid (HY4.out.kept hb6)
  replace HQ5 := Lib.hid (HQ5.out.below hb6)
  replace HBW := Lib.hid (below_call HBW.out hb6 HBW.out.size)
  have HI6 := Lib.hid (hi6)
  clear hb6 hi6
  clear HQ5
  go_wp2_with fail
  refine (start_call HI6.out).mono ?_
  rintro e w7 ⟨rfl, hb7⟩
  have ht7 := isTask_of HI6.out hb7
  generalize tcells (startCv _ _) (startT _).t = C7 at *
  replace HM := Lib.hid (HM.out.below hb7)
  replace HT4 := Lib.hid (HT4.out.below hb7)
  replace HW4 := Lib.hid (HW4.out.below hb7)
  replace HY4 := Lib.hid (HY4.out.kept hb7)
  replace HI6 := Lib.hid (HI6.out.below hb7)
  replace HBW := Lib.hid (below_call HBW.out hb7 HBW.out.size)
  have HT7 := Lib.hid ht7
  clear ht7 hb7
  clear HI6
  go_wp2_with fail
  refine (steps_call HT7.out HM.out).mono ?_
  rintro e w8 ⟨v8, m8, rfl, ht8, ho8, hb8⟩
  have hT8 := ht8 w8 (HT7.out.below hb8)
  obtain ⟨cl8, rfl, hsz8, hone8, x348, x358, x18⟩ := hT8.list
  replace HM := Lib.hid (HM.out.below hb8)
  replace HT4 := Lib.hid (HT4.out.below hb8)
  replace HW4 := Lib.hid (HW4.out.below hb8)
  replace HY4 := Lib.hid (HY4.out.kept hb8)
  replace HT7 := Lib.hid (HT7.out.below hb8)
  replace HBW := Lib.hid (below_call HBW.out hb8 HBW.out.size)
  have HT8 := Lib.hid hT8
  have HW8 := Lib.hid ho8.words
  have HSZ8 := Lib.hid hsz8
  have HONE8 := Lib.hid hone8
  clear ht8 ho8 hb8 hT8 hsz8 hone8
  clear HT7
  clear x348 x358 x18
  generalize (stepsT (startT (writeC b (2 * k) (wordsQ N k))) ms (q : Int)).2.2 = nn at *
  generalize (stepsT (startT (writeC b (2 * k) (wordsQ N k))) ms (q : Int)).2.1 = ys at *
  go_wp2_with (first | with_reducible refine mid_stop 42 _ rfl ?_ | with_reducible refine storeM_stop rfl 42 _ _ rfl ?_)
  refine AtStoreM.go w8.heap.size 0 (cs := cl8) rfl rfl (newRow (by rw [HSZ8.out]; rfl)).2.2 (by rw [HSZ8.out]; exact size_task) HONE8.out ?_
  refine wpl_at fun W8 hW8 => ?_
  have hbw8 : Below w8.heap.size w8 W8 := by rw [hW8]; exact (newRow (by rw [HSZ8.out]; rfl)).1
  have HY8 : Hid (Box W8 w8.heap.size 42 cl8.toArray) := Lib.hid (by rw [hW8]; exact (newRow (by rw [HSZ8.out]; rfl)).2.1)
  replace HM := Lib.hid (HM.out.below hbw8)
  replace HT4 := Lib.hid (HT4.out.below hbw8)
  replace HW4 := Lib.hid (HW4.out.below hbw8)
  replace HY4 := Lib.hid (HY4.out.kept hbw8)
  replace HT8 := Lib.hid (HT8.out.below hbw8)
  replace HW8 := Lib.hid (HW8.out.below hbw8)
  replace HBW := Lib.hid (below_call HBW.out hbw8 HBW.out.size)
  clear hW8 hbw8
  have hyl : ys.length = ms.length := HPW.out.1
  obtain ⟨Ay, cy, hvy, hcy1, hcy2, _⟩ := HW8.out.1.form
  unfold maxLen at hcy2
  rw [hyl] at hvy
  subst hvy
  have HYL := Lib.hid hyl
  clear hyl
  go_wp2_with fail
  refine (same_call HW4.out HM.out).mono ?_
  rintro e w9 ⟨rfl, hb9⟩
  replace HM := Lib.hid (HM.out.below hb9)
  replace HT4 := Lib.hid (HT4.out.below hb9)
  replace HW4 := Lib.hid (HW4.out.below hb9)
  replace HY4 := Lib.hid (HY4.out.kept hb9)
  replace HT8 := Lib.hid (HT8.out.below hb9)
  replace HW8 := Lib.hid (HW8.out.below hb9)
  replace HY8 := Lib.hid (HY8.out.kept hb9)
  replace HBW := Lib.hid (below_call HBW.out hb9 HBW.out.size)
  clear hb9 
  rw [decide_eq_true rfl]
  have HPA : Hid (∀ j : Nat, ¬ (b ≤ (j : Int) ∧ (j : Int) ≤ b + (N : Int)) → ys.getD j 0 = ms.getD j 0) := Lib.hid (fun j hj => HPW.out.2 j (by rw [wordsQ_len]; exact hj))
  go_wp2_with fail
  go_loopw [18] (fun q wr => ∃ j : Nat, j ≤ ms.length ∧ q = .int .i64 (j : Int) ∧ Hid (Below w9.heap.size w9 wr)) (fun q _ => ms.length - (intOf q).toNat)
  case atStart => exact ⟨0, Nat.zero_le _, rfl, Lib.hid (Below.refl _ _)⟩
  case round =>
    obtain ⟨j, hj, rfl, HV⟩ := hrel
    by_cases hlt : j < ms.length
    · have hji : (j : Int) < (ms.length : Int) := by omega
      have hbn : IntKind.i64.wrap (b + (N : Int)) = b + (N : Int) := by rw [IntKind.wrap_i64]; omega
      have hcase : (j : Int) < b ∨ (¬ (j : Int) < b ∧ b + (N : Int) < (j : Int)) ∨ (¬ (j : Int) < b ∧ ¬ b + (N : Int) < (j : Int)) := by omega
      obtain ⟨b1, o1, hA1, _, p1⟩ := (HM.out.below HV.out).at_ rfl hlt
      obtain ⟨b2, o2, hA2, _, p2⟩ := (HW8.out.below HV.out).at_ HYL.out.symm (by rw [HYL.out]; exact hlt)
      subst hA1 hA2
      have hpa := HPA.out j
      generalize ms.getD j 0 = x1 at *
      generalize ys.getD j 0 = x2 at *
      have hji0 : (0 : Int) ≤ (j : Int) := by omega
      rcases hcase with hc | ⟨hc, hc2⟩ | ⟨hc, hc2⟩
      · have he := hpa (by omega)
        subst he
        clear hpa
        go_wp2_with fail
        go_quiet (fail)
        go_wp2_with fail
        exact ⟨⟨j + 1, by omega, by go_num, Lib.hid (below_drewN HV.out _)⟩, by simp [intOf]; omega⟩
      · have he := hpa (by omega)
        subst he
        clear hpa
        go_wp2_with fail
        go_quiet (fail)
        go_wp2_with fail
        exact ⟨⟨j + 1, by omega, by go_num, Lib.hid (below_drewN HV.out _)⟩, by simp [intOf]; omega⟩
      · clear hpa
        have hd1 : decide ((j : Int) < b) = false := decide_eq_false hc
        have hd2 : decide (b + (N : Int) < (j : Int)) = false := decide_eq_false hc2
        go_wp2_with fail
        go_quiet (fail)
        go_wp2_with fail
        exact ⟨⟨j + 1, by omega, by go_num, Lib.hid (below_drewN HV.out _)⟩, by simp [intOf]; omega⟩
    · have hji : ¬ (j : Int) < (ms.length : Int) := by omega
      have HBV := Lib.hid (below_call HBW.out HV.out HBW.out.size)
      go_wp2
      go_ret
      exact ⟨rfl, HBV.out⟩
end Go.Proofs.Ytpkelneimjmmkaa

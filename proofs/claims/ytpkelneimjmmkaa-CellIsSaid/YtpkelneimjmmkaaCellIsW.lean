/- The walk of the statement CellIs. -/
import Derived.Test.YtpkelneimjmmkaaCellK
namespace Go.Proofs.Ytpkelneimjmmkaa
open Go.RowKit

theorem gtNat {n k : Nat} (h : n > k) : (k : Int) < (n : Int) := by omega

set_option maxHeartbeats 1000000 in
theorem cellIs_walk {v vl : Value} {ms : List Int} {l : List Acc} {n : Int} {w : World} (hv : Words w v ms) (hl : Accs w vl l) (hn : I64 n) :
    Calls Try.prog 3 #[v, vl, .int .i64 n] w (BoolPost true w) := by
  obtain ⟨A, c, rfl, hc1, hc2, hA⟩ := hv.1.form
  obtain ⟨B, d, rfl, hd1, hd2, hB⟩ := hl.1.form
  have V := Lib.hid hv
  have L := Lib.hid hl
  unfold maxLen at hc2 hd2
  clear hv hl hA hB
  by_cases h1 : ms.length > 300
  · have g1 : (300 : Int) < (ms.length : Int) := gtNat h1
    go_enter Try.func3, Try.ntmps3
    go_wp2_with fail
    refine (awake11 w).mono ?_
    rintro e w1 ⟨rfl, hb⟩
    have HB := Lib.hid hb
    clear hb
    go_wp2
    go_ret
    exact ⟨rfl, HB.out⟩
  by_cases h2 : l.length > 60
  · have g1 : ¬ (300 : Int) < (ms.length : Int) := by omega
    have g2 : (60 : Int) < (l.length : Int) := gtNat h2
    go_enter Try.func3, Try.ntmps3
    go_wp2_with fail
    refine (awake11 w).mono ?_
    rintro e w1 ⟨rfl, hb⟩
    have HB := Lib.hid hb
    clear hb
    go_wp2
    go_ret
    exact ⟨rfl, HB.out⟩
  · have g1 : ¬ (300 : Int) < (ms.length : Int) := by omega
    have g2 : ¬ (60 : Int) < (l.length : Int) := by omega
    go_enter Try.func3, Try.ntmps3
    go_wp2_with fail
    refine (awake11 w).mono ?_
    rintro e w1 ⟨rfl, hb⟩
    have V1 := Lib.hid (V.out.below hb)
    have L1 := Lib.hid (L.out.below hb)
    have HB := Lib.hid hb
    clear hb V L
    go_wp2_with fail
    refine (run_call V1.out L1.out (by omega)).mono ?_
    rintro e w2 ⟨v1, v2, rfl, ho1, ho2, hb⟩
    have V2 := Lib.hid (V1.out.below hb)
    have L2 := Lib.hid (L1.out.below hb)
    have HB2 := Lib.hid (HB.out.trans (hb.mono HB.out.size))
    have O1 := Lib.hid ho1.words
    have O2 := Lib.hid ho2.words
    clear hb ho1 ho2 V1 L1 HB
    go_wp2_with fail
    refine (refRun_call V2.out L2.out (by omega)).mono ?_
    rintro e w3 ⟨v3, v4, rfl, ho3, ho4, hb⟩
    have P1 := Lib.hid (O1.out.below hb)
    have P2 := Lib.hid (O2.out.below hb)
    have HB3 := Lib.hid (HB2.out.trans (hb.mono HB2.out.size))
    have P3 := Lib.hid ho3.words
    have P4 := Lib.hid ho4.words
    clear hb ho3 ho4 V2 L2 HB2 O1 O2
    go_wp2_with fail
    refine (same_call P1.out P3.out).mono ?_
    rw [decide_eq_true rfl]
    rintro e w4 ⟨rfl, hb⟩
    have Q2 := Lib.hid (P2.out.below hb)
    have Q4 := Lib.hid (P4.out.below hb)
    have HB4 := Lib.hid (HB3.out.trans (hb.mono HB3.out.size))
    clear hb P1 P2 P3 P4 HB3
    go_wp2_with fail
    refine (same_call Q2.out Q4.out).mono ?_
    rw [decide_eq_true rfl]
    rintro e w5 ⟨rfl, hb⟩
    have HB5 := Lib.hid (HB4.out.trans (hb.mono HB4.out.size))
    clear hb Q2 Q4 HB4
    go_wp2_with fail
    refine (new_call n hn w5).mono ?_
    rintro e w6 ⟨v6, rfl, ho6, hb⟩
    have HB6 := Lib.hid (HB5.out.trans (hb.mono HB5.out.size))
    have O6 := Lib.hid ho6.words
    clear hb ho6 HB5
    go_wp2_with fail
    refine (refNew_call n w6).mono ?_
    rintro e w7 ⟨v7, rfl, ho7, hb⟩
    have HB7 := Lib.hid (HB6.out.trans (hb.mono HB6.out.size))
    have P6 := Lib.hid (O6.out.below hb)
    have P7 := Lib.hid ho7.words
    clear hb ho7 HB6 O6
    go_wp2_with fail
    refine (same_call P6.out P7.out).mono ?_
    rw [decide_eq_true rfl]
    rintro e w8 ⟨rfl, hb⟩
    have HB8 := Lib.hid (HB7.out.trans (hb.mono HB7.out.size))
    clear hb P6 P7 HB7
    go_wp2
    go_ret
    exact ⟨rfl, HB8.out⟩
end Go.Proofs.Ytpkelneimjmmkaa

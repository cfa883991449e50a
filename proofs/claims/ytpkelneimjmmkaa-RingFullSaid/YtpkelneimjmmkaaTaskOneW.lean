/- The walk of TaskOne. -/
import Derived.Test.YtpkelneimjmmkaaTaskL
import Derived.Test.YtpkelneimjmmkaaPureM
namespace Go.Proofs.Ytpkelneimjmmkaa
open Go.RowKit

theorem Box.rangeA {W : World} {g : Nat} {t : TypeId} {cs : Array Value} (h : Box W g t cs) : W.rangeAt g 0 cs.toList := fun j v hv => by
  rw [h.cell, Nat.zero_add]; simpa using hv
set_option maxHeartbeats 8000000 in
set_option maxRecDepth 20000 in
theorem taskOne_walk {v vm : Value} {T : FT} {ms : List Int} {w : World} (h : IsTask w v T) (hm : Words w vm ms) : Calls Try.prog 9 #[v, vm] w (BoolPost true w) := by
  obtain ⟨B, d, rfl, hd1, hd2, _⟩ := hm.1.form
  unfold maxLen at hd2
  have HM := Lib.hid hm
  have HT := Lib.hid h
  obtain ⟨cv, rfl, hI, ht, hc⟩ := h
  obtain ⟨A, c, hcv, hc1, hc2, _⟩ := hI.1.form
  unfold maxLen at hc2
  have e34 := tcells_34 (cv := cv) ht.1
  have e0 : (tcells cv T.t)[0]? = some (.slice A T.code.length c) := by rw [tcells_0, hcv]
  have HR := Lib.hid (fun (w1 : World) (g i : Nat) (hB : Box w1 g 42 (tcells cv T.t)) (hi : i < 32) => (hB.cell (2 + i)).trans (tcells_reg ht.1 hi))
  have HSZ := Lib.hid (tcells_size (cv := cv) ht.1)
  have HI := Lib.hid hI
  generalize hC : tcells cv T.t = C at *
  clear hm hI ht hc hC
  go_enter Try.func9, Try.ntmps9
  go_wp2_with fail
  refine (awake12 _).mono ?_
  rintro e w1 ⟨rfl, hb1⟩
  have bx1 : Box w1 w.heap.size 42 C := (Box.new w _ _).kept hb1
  have hb2 : Below w.heap.size w w1 := below_call ((Below.refl _ w).alloc (Nat.le_refl _) _) hb1 (by simp)
  have BX1 := Lib.hid bx1
  have HB1 := Lib.hid hb2
  have d0 := (bx1.cell 0).trans e0
  clear hb1 hb2 bx1
  by_cases h210 : 210 < T.code.length
  · have h210' : (210 : Int) < (T.code.length : Int) := by omega
    go_wp2
    go_ret
    exact ⟨rfl, HB1.out⟩
  by_cases h256 : 256 < ms.length
  · have h210' : ¬ (210 : Int) < (T.code.length : Int) := by omega
    have h256' : (256 : Int) < (ms.length : Int) := by omega
    go_wp2
    go_ret
    exact ⟨rfl, HB1.out⟩
  have h210' : (T.code.length : Int) ≤ 210 := by omega
  have h256' : (ms.length : Int) ≤ 256 := by omega
  go_wp2_with (first | with_reducible refine load_stop rfl 42 _ rfl ?_ | with_reducible refine store_stop rfl 42 _ _ rfl ?_)
  refine AtLoad.go w.heap.size rfl BX1.out Try.underlying42 rfl (size_task' HSZ.out) ?_
  go_wp2_with (first | with_reducible refine load_stop rfl 42 _ rfl ?_ | with_reducible refine store_stop rfl 42 _ _ rfl ?_)
  refine (step_call (HT.out.below HB1.out) (HM.out.below HB1.out)).mono ?_
  rintro e w2 ⟨v2, v3, rfl, ht2, ho2, hb2⟩
  have hT2 := ht2 w2 (HT.out.below (below_call HB1.out hb2 HB1.out.size))
  obtain ⟨cv2, rfl, hI2, htk2, hc2'⟩ := hT2
  have hsz2 := tcells_size (cv := cv2) htk2.1
  have hone2 := tcells_one (t := (stepT T ms).1.t) hc2'
  have HR2 := Lib.hid (fun (w1 : World) (g i : Nat) (hB : Box w1 g 42 (tcells cv2 (stepT T ms).1.t)) (hi : i < 32) => (hB.cell (2 + i)).trans (tcells_reg htk2.1 hi))
  have HT2 : Hid (∀ W, IsTask W (.agg C) T → IsTask W (.agg (tcells cv2 (stepT T ms).1.t)) (stepT T ms).1) := Lib.hid ht2
  generalize hC2 : tcells cv2 (stepT T ms).1.t = C2 at *
  have HSZ2 := Lib.hid hsz2
  have HONE2 := Lib.hid hone2
  have hlen : (stepT T ms).2.length = ms.length := by rw [step_len, counts_len]; omega
  have HO2 := Lib.hid ho2
  have HB2 := Lib.hid (below_call HB1.out hb2 HB1.out.size)
  have HBX2 := Lib.hid (BX1.out.kept hb2)
  clear hsz2 hone2 hC2 hI2 htk2 hc2' ht2 ho2 hb2 BX1 HB1
  go_wp2_with (first | with_reducible refine load_stop rfl 42 _ rfl ?_ | with_reducible refine store_stop rfl 42 _ _ rfl ?_)
  refine AtStore.go w2.heap.size rfl rfl (Box.new w2 _ _) (size_task' HSZ2.out) (by rw [HSZ2.out]; rfl) HONE2.out ?_
  have hw3 := HO2.out.words
  obtain ⟨B3, d3, rfl, hd31, hd32, _⟩ := hw3.1.form
  have hlen' : ((stepT T ms).2.length : Int) = (ms.length : Int) := by omega
  have W3 := Lib.hid hw3
  clear hw3
  go_wp2_with fail
  refine wp_at fun W0 hW0 => ?_
  have hb0 : Below w2.heap.size w2 W0 := by rw [hW0]; exact below_row ((Below.refl _ w2).alloc (Nat.le_refl _) _) (Nat.le_refl _) _
  have HY0 := Lib.hid (by rw [hW0]; exact (Box.new w2 _ _).row _ : Box W0 w2.heap.size 42 C2)
  have HX0 := Lib.hid (HBX2.out.kept hb0)
  have HB0 := Lib.hid (below_call HB2.out hb0 HB2.out.size)
  have W30 := Lib.hid (W3.out.below hb0)
  have WM0 := Lib.hid (HM.out.below HB0.out)
  clear hW0 hb0 W3 HBX2 HB2 HO2 d0
  go_loopw [8, 9] (fun q i wr => ∃ k : Nat, k ≤ ms.length ∧ i = .int .i64 (k : Int) ∧ q = .int .i64 (diffTo ms (stepT T ms).2 k : Int) ∧ Hid (Below W0.heap.size W0 wr)) (fun q i _ => ms.length - (intOf i).toNat)
  case atStart => exact ⟨0, Nat.zero_le _, rfl, rfl, Lib.hid (Below.refl _ _)⟩
  case round =>
    obtain ⟨k, hk, rfl, rfl, HW⟩ := hrel
    by_cases hlt : k < ms.length
    · have hki : (k : Int) < (ms.length : Int) := by omega
      obtain ⟨b1, o1, rfl, _, p1⟩ := (WM0.out.below HW.out).at_ rfl hlt
      obtain ⟨b2, o2, rfl, _, p2⟩ := (W30.out.below HW.out).at_ rfl (by omega : k < (stepT T ms).2.length)
      have hdk : diffTo ms (stepT T ms).2 (k + 1) = diffTo ms (stepT T ms).2 k + if ms.getD k 0 = (stepT T ms).2.getD k 0 then 0 else 1 := rfl
      have hdl := diffTo_le ms (stepT T ms).2 k
      have hki3 : (k : Int) < ((stepT T ms).2.length : Int) := by omega
      generalize diffTo ms (stepT T ms).2 k = q at *
      generalize hkq : diffTo ms (stepT T ms).2 (k + 1) = q' at *
      have HQ := Lib.hid hkq
      generalize ms.getD k 0 = x1 at *
      generalize (stepT T ms).2.getD k 0 = x2 at *
      clear hkq
      by_cases he : x1 = x2
      · rw [if_pos he] at hdk
        have HDK := Lib.hid hdk
        clear hdk
        go_wp2_with fail
        go_quiet (fail)
        go_wp2_with fail
        exact ⟨⟨k + 1, by omega, by go_num, by rw [HQ.out, HDK.out]; rfl, Lib.hid (below_drewN HW.out _)⟩, by simp [intOf]; omega⟩
      · rw [if_neg he] at hdk
        have HDK := Lib.hid hdk
        clear hdk
        go_wp2_with fail
        go_quiet (fail)
        go_wp2_with fail
        exact ⟨⟨k + 1, by omega, by go_num, by rw [HQ.out, HDK.out]; go_num, Lib.hid (below_drewN HW.out _)⟩, by simp [intOf]; omega⟩
    · have hki : ¬ (k : Int) < (ms.length : Int) := by omega
      have hke : k = ms.length := by omega
      subst hke
      have HX1 := Lib.hid (HX0.out.kept HW.out)
      have HY1 := Lib.hid (HY0.out.kept HW.out)
      have HB1 := Lib.hid (below_call HB0.out HW.out HB0.out.size)
      have hdw : diffTo ms (stepT T ms).2 ms.length ≤ 1 := step_words T (by omega) _
      have HDW := Lib.hid hdw
      clear hk hlt hdw
      generalize hqw : diffTo ms (stepT T ms).2 ms.length = qw at *
      have HQW := Lib.hid hqw
      clear hqw
      go_wp2_with fail
      go_loopw [10, 11] (fun q i wr2 => ∃ j : Nat, j ≤ 32 ∧ i = .int .i64 (j : Int) ∧ q = .int .i64 (diffTo T.t.regs (stepT T ms).1.t.regs j : Int) ∧ Hid (Below wr.heap.size wr wr2)) (fun q i _ => 32 - (intOf i).toNat)
      case atStart => exact ⟨0, Nat.zero_le _, rfl, rfl, Lib.hid (Below.refl _ _)⟩
      case round =>
        obtain ⟨j, hj, rfl, rfl, HV⟩ := hrel
        by_cases hlt : j < 32
        · have hji : (j : Int) < 32 := by omega
          have p1 := HR.out _ _ _ (HX1.out.kept HV.out) hlt
          have p2 := HR2.out _ _ _ (HY1.out.kept HV.out) hlt
          have hdk : diffTo T.t.regs (stepT T ms).1.t.regs (j + 1) = diffTo T.t.regs (stepT T ms).1.t.regs j + if T.t.regs.getD j 0 = (stepT T ms).1.t.regs.getD j 0 then 0 else 1 := rfl
          have hdl := diffTo_le T.t.regs (stepT T ms).1.t.regs j
          generalize diffTo T.t.regs (stepT T ms).1.t.regs j = q at *
          generalize hkq : diffTo T.t.regs (stepT T ms).1.t.regs (j + 1) = q' at *
          have HQ := Lib.hid hkq
          generalize T.t.regs.getD j 0 = x1 at *
          generalize (stepT T ms).1.t.regs.getD j 0 = x2 at *
          clear hkq
          by_cases he : x1 = x2
          · rw [if_pos he] at hdk
            have HDK := Lib.hid hdk
            clear hdk
            go_wp2_with fail
            go_quiet (fail)
            go_wp2_with fail
            exact ⟨⟨j + 1, by omega, by go_num, by rw [HQ.out, HDK.out]; rfl, Lib.hid (below_drewN HV.out _)⟩, by simp [intOf]; omega⟩
          · rw [if_neg he] at hdk
            have HDK := Lib.hid hdk
            clear hdk
            go_wp2_with fail
            go_quiet (fail)
            go_wp2_with fail
            exact ⟨⟨j + 1, by omega, by go_num, by rw [HQ.out, HDK.out]; go_num, Lib.hid (below_drewN HV.out _)⟩, by simp [intOf]; omega⟩
        · have hji : ¬ (j : Int) < 32 := by omega
          have hje : j = 32 := by omega
          subst hje
          have bxa := HX1.out.kept HV.out
          have bya := HY1.out.kept HV.out
          have z34 := (bxa.cell 34).trans e34
          have z0 := (bxa.cell 0).trans e0
          have hq1 : ¬ (1 : Int) < (qw : Int) := by have := HDW.out; omega
          have HIS := Lib.hid (by rw [← hcv]; exact HI.out : Inss w (.slice A T.code.length c) T.code)
          have HBV := Lib.hid (below_call HB1.out HV.out HB1.out.size)
          have HBXA := Lib.hid bxa
          have HBYA := Lib.hid bya
          have hreg : Sane T.code → diffTo T.t.regs (stepT T ms).1.t.regs 32 + qw ≤ 1 := fun hs => by rw [← HQW.out]; exact step_one hs (by omega) _
          have HREG := Lib.hid hreg
          clear bxa bya hreg
          generalize hdr : diffTo T.t.regs (stepT T ms).1.t.regs 32 = dr at *
          have HDR := Lib.hid hdr
          clear hdr
          by_cases hd : T.t.done = true
          · rw [hd] at z34
            have hst : stepT T ms = (T, counts ms) := step_still hd
            have hq0 : qw = 0 := by rw [← HQW.out, hst, counts_id (by omega)]; exact diffTo_same _ _
            subst hq0
            have HST := Lib.hid hst
            clear hd hst
            go_wp2_with (first | with_reducible refine mid_stop 42 _ rfl ?_)
            refine AtMid.go rfl w.heap.size 0 rfl HBXA.out.rangeA Try.underlying42 rfl (by rw [Array.length_toList]; exact size_task' HSZ.out) ?_
            go_wp2_with (first | with_reducible refine mid_stop 42 _ rfl ?_)
            refine AtMid.go rfl w2.heap.size 0 rfl HBYA.out.rangeA Try.underlying42 rfl (by rw [Array.length_toList]; exact size_task' HSZ2.out) ?_
            rw [Array.toArray_toList]
            go_wp2_with fail
            have hTv := HT.out.below HBV.out
            refine (tsame_call (x := true) (by rw [HST.out]; exact ⟨fun _ => ⟨rfl, rfl, rfl, rfl, rfl, fun _ _ => rfl⟩, fun _ => rfl⟩) hTv (HT2.out _ hTv)).mono ?_
            rintro e w3 ⟨rfl, hb3⟩
            have HBQ := Lib.hid (below_call HBV.out hb3 HBV.out.size)
            have z0' := ((HBXA.out.kept hb3).cell 0).trans e0
            clear hb3 hTv
            go_wp2_with fail
            refine (sane_call (HIS.out.below (HBQ.out))).mono ?_
            rintro e w4 ⟨rfl, hb4⟩
            have HB4 := Lib.hid (below_call HBQ.out hb4 HBQ.out.size)
            clear hb4
            by_cases hs : Sane T.code
            · rw [decide_eq_true hs]
              have hr := HREG.out hs
              have r1 : (dr : Int) ≤ 1 := by omega
              have r2 : (dr : Int) + (0 : Int) ≤ 1 := by omega
              have r3 : IntKind.i64.wrap ((dr : Int) + (0 : Int)) = (dr : Int) + (0 : Int) := by rw [IntKind.wrap_i64]; omega
              clear hr hs
              go_wp2
              go_ret
              exact ⟨rfl, HB4.out⟩
            · rw [decide_eq_false hs]
              clear hs
              go_wp2
              go_ret
              exact ⟨rfl, HB4.out⟩
          · have hd' : T.t.done = false := by simpa using hd
            rw [hd'] at z34
            clear hd hd'
            have HBQ := HBV
            go_wp2_with fail
            refine (sane_call (HIS.out.below (HBQ.out))).mono ?_
            rintro e w4 ⟨rfl, hb4⟩
            have HB4 := Lib.hid (below_call HBQ.out hb4 HBQ.out.size)
            clear hb4
            by_cases hs : Sane T.code
            · rw [decide_eq_true hs]
              have hr := HREG.out hs
              have r1 : (dr : Int) ≤ 1 := by omega
              have r2 : (dr : Int) + (qw : Int) ≤ 1 := by omega
              have r3 : IntKind.i64.wrap ((dr : Int) + (qw : Int)) = (dr : Int) + (qw : Int) := by rw [IntKind.wrap_i64]; omega
              clear hr hs
              go_wp2
              go_ret
              exact ⟨rfl, HB4.out⟩
            · rw [decide_eq_false hs]
              clear hs
              go_wp2
              go_ret
              exact ⟨rfl, HB4.out⟩
end Go.Proofs.Ytpkelneimjmmkaa

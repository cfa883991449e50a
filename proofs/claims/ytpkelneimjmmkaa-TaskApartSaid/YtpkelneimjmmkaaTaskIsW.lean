/- The walk of TaskIs. -/
import Derived.Test.YtpkelneimjmmkaaRefF
namespace Go.Proofs.Ytpkelneimjmmkaa
open Go.RowKit

theorem IsTask.list {w : World} {v : Value} {T : FT} (h : IsTask w v T) : ∃ cl : List Value, v = .agg cl.toArray ∧ cl.length = 36 ∧ cl.toArray.all (·.oneCell') = true ∧ cl[34]? = some (.bool T.t.done) ∧ cl[35]? = some (.int .i64 T.t.ans) ∧ cl[1]? = some (.int .i64 T.t.pc) := by
  obtain ⟨C, rfl, h1, h2, h3, h4⟩ := h.parts
  have h5 := h.pc
  obtain ⟨cl, rfl⟩ : ∃ cl : List Value, C = cl.toArray := ⟨C.toList, by simp⟩
  exact ⟨cl, rfl, by simpa using h1, h2, by simpa using h3, by simpa using h4, by simpa using h5⟩
theorem newRow {w : World} {t : TypeId} {Z : Array Value} {cl : List Value} (hz : Z.size = cl.length) :
    Below w.heap.size w ((w.alloc (.cells Z t)).setCells w.heap.size 0 cl) ∧ Box ((w.alloc (.cells Z t)).setCells w.heap.size 0 cl) w.heap.size t cl.toArray ∧ (w.alloc (.cells Z t)).there w.heap.size 0 cl.length :=
  ⟨Below.setCells ((Below.refl _ w).alloc (Nat.le_refl _) _) (by simp) (Nat.le_refl _) _ _, (Box.new w _ _).setCells_all hz.symm, (Box.new w _ _).thereAll hz⟩

set_option maxHeartbeats 16000000 in
set_option maxRecDepth 20000 in
theorem taskIs_walk {v vm vc vp : Value} {l : List TV} {ms ps : List Int} {code : List Insn} {most : Int} {w : World} (h : Tasks w v l) (hm : Words w vm ms) (hc : Inss w vc code) (hp : Ints w vp ps) :
    Calls Try.prog 13 #[v, vm, vc, vp, .int .i64 most] w (BoolPost true w) := by
  obtain ⟨A0, c0, rfl, hc01, hc02, _⟩ := h.1.form
  obtain ⟨A1, c1, rfl, hc11, hc12, _⟩ := hm.1.form
  obtain ⟨A2, c2, rfl, hc21, hc22, _⟩ := hc.1.form
  obtain ⟨A3, c3, rfl, hc31, hc32, _⟩ := hp.1.form
  unfold maxLen at hc02 hc12 hc22 hc32
  have H := Lib.hid h
  have HM := Lib.hid hm
  have HC := Lib.hid hc
  have HP := Lib.hid hp
  clear h hm hc hp
  go_enter Try.func13, Try.ntmps13
  go_wp2_with fail
  refine (awake12 _).mono ?_
  rintro e w1 ⟨rfl, hb1⟩
  have HB1 := Lib.hid hb1
  clear hb1
  go_wp2_with fail
  refine (few_call (H.out.below HB1.out)).mono ?_
  rintro e w2 ⟨rfl, hb2⟩
  have HB2 := Lib.hid (below_call HB1.out hb2 HB1.out.size)
  clear hb2 HB1
  by_cases hnf : ¬ fewP (fts l)
  · rw [decide_eq_false hnf]
    clear hnf
    go_wp2
    go_ret
    exact ⟨rfl, HB2.out⟩
  have hfew := Decidable.not_not.1 hnf
  rw [decide_eq_true hfew]
  have hl12 : l.length ≤ 12 := by have := hfew.2; simpa using this
  clear hfew hnf
  by_cases h1 : 300 < ms.length
  · have h1' : (300 : Int) < (ms.length : Int) := by omega
    go_wp2
    go_ret
    exact ⟨rfl, HB2.out⟩
  have n1 : ¬ (300 : Int) < (ms.length : Int) := by omega
  by_cases h2 : 210 < code.length
  · have h2' : (210 : Int) < (code.length : Int) := by omega
    go_wp2
    go_ret
    exact ⟨rfl, HB2.out⟩
  have n2 : ¬ (210 : Int) < (code.length : Int) := by omega
  by_cases h3 : 300 < ps.length
  · have h3' : (300 : Int) < (ps.length : Int) := by omega
    go_wp2
    go_ret
    exact ⟨rfl, HB2.out⟩
  have n3 : ¬ (300 : Int) < (ps.length : Int) := by omega
  have hln : l.length ≤ 4096 := by omega
  go_wp2_with fail
  refine (trun_call (H.out.below HB2.out) (HM.out.below HB2.out) (HP.out.below HB2.out) hln).mono ?_
  rintro e w3 ⟨va, vb, la, rfl, hfa, hoa, haa, hob, hb3⟩
  have HTA : Hid (Tasks w3 va la) := Lib.hid ⟨hoa.slt, haa.below hb3⟩
  have HWB := Lib.hid hob.words
  have HFA := Lib.hid hfa
  have HB3 := Lib.hid (below_call HB2.out hb3 HB2.out.size)
  clear hfa hoa haa hob hb3 HB2
  go_wp2_with fail
  refine (refTrun_call (H.out.below HB3.out) (HM.out.below HB3.out) (HP.out.below HB3.out) hln).mono ?_
  rintro e w4 ⟨vd, ve, ld, rfl, hfd, hod, had, hoe, hb4⟩
  have HTD : Hid (Tasks w4 vd ld) := Lib.hid ⟨hod.slt, had.below hb4⟩
  have HWE := Lib.hid hoe.words
  have HTA4 := Lib.hid (HTA.out.below hb4)
  have HWB4 := Lib.hid (HWB.out.below hb4)
  have HFF : Hid (fts la = fts ld) := Lib.hid (by rw [HFA.out, hfd])
  have HB4 := Lib.hid (below_call HB3.out hb4 HB3.out.size)
  clear hfd hod had hoe hb4 HB3 HTA HWB HFA
  go_wp2_with fail
  refine (sameAll_call HTA4.out HTD.out HFF.out).mono ?_
  rintro e w5 ⟨rfl, hb5⟩
  have HWE5 := Lib.hid (HWE.out.below hb5)
  have HWB5 := Lib.hid (HWB4.out.below hb5)
  have HB5 := Lib.hid (below_call HB4.out hb5 HB4.out.size)
  clear hb5 HB4 HTA4 HTD HFF HWE HWB4
  go_wp2_with fail
  refine (same_call HWB5.out HWE5.out).mono ?_
  rintro e w6 ⟨rfl, hb6⟩
  rw [decide_eq_true rfl]
  have HB6 := Lib.hid (below_call HB5.out hb6 HB5.out.size)
  clear hb6 HB5 HWE5 HWB5
  go_wp2_with fail
  refine (sane_call (HC.out.below HB6.out)).mono ?_
  rintro e w7 ⟨rfl, hb7⟩
  have HB7 := Lib.hid (below_call HB6.out hb7 HB6.out.size)
  clear hb7 HB6
  go_wp2_with fail
  refine (refSane_call (HC.out.below HB7.out)).mono ?_
  rintro e w8 ⟨rfl, hb8⟩
  have HB8 := Lib.hid (below_call HB7.out hb8 HB7.out.size)
  clear hb8 HB7
  generalize decide (Sane code) = sb
  go_wp2_with fail
  refine (start_call (HC.out.below HB8.out)).mono ?_
  rintro e w9 ⟨rfl, hb9⟩
  have ht9 := isTask_of (HC.out.below HB8.out) hb9
  have HB9 := Lib.hid (below_call HB8.out hb9 HB8.out.size)
  generalize tcells (startCv code (.slice A2 code.length c2)) (startT code).t = S9 at *
  have HT9 := Lib.hid ht9
  clear ht9 hb9 HB8
  go_wp2_with fail
  refine (refStart_call (HC.out.below HB9.out)).mono ?_
  rintro e w10 ⟨rfl, hb10⟩
  have ht10 := isTask_of (HC.out.below HB9.out) hb10
  have HB10 := Lib.hid (below_call HB9.out hb10 HB9.out.size)
  have HT9' := Lib.hid (HT9.out.below hb10)
  generalize tcells (startCv code (.slice A2 code.length c2)) (startT code).t = S10 at *
  have HT10 := Lib.hid ht10
  clear ht10 hb10 HB9 HT9
  go_wp2_with fail
  refine (tsame_call (x := true) ⟨fun _ => sameT_refl _, fun _ => rfl⟩ HT9'.out HT10.out).mono ?_
  rintro e w11 ⟨rfl, hb11⟩
  have HB11 := Lib.hid (below_call HB10.out hb11 HB10.out.size)
  clear hb11 HB10 HT9' HT10
  go_wp2_with fail
  go_loopw [16] (fun i wr => ∃ k : Nat, k ≤ l.length ∧ i = .int .i64 (k : Int) ∧ Hid (Below w.heap.size w wr)) (fun i _ => l.length - (intOf i).toNat)
  case atStart => exact ⟨0, Nat.zero_le _, rfl, HB11⟩
  case round =>
    clear HB11
    obtain ⟨k, hk, rfl, HB⟩ := hrel
    by_cases hlt : k < l.length
    · have hki : (k : Int) < (l.length : Int) := by omega
      have hT := H.out.2.at_ hlt
      obtain ⟨b, off, rfl, hbl, hrg⟩ := SlT.at_ H.out.1 rfl H.out.2.len hlt
      have hl1 := H.out.2.len _ (List.getElem_mem hlt)
      generalize (l[k]).1 = CL at *
      generalize (l[k]).2 = T at *
      have HT := Lib.hid hT
      have HL := Lib.hid hl1
      have HRG := Lib.hid (fun (W : World) (hW : Below w.heap.size w W) => range_below hrg hbl hW)
      clear hT hrg hl1
      go_wp2_with (first | with_reducible refine mid_stop 42 _ rfl ?_ | with_reducible refine storeM_stop rfl 42 _ _ rfl ?_)
      refine AtMid.go rfl b (off + k * 36) rfl (HRG.out _ HB.out) Try.underlying42 rfl (by rw [HL.out]; exact size_task) ?_
      go_wp2_with (first | with_reducible refine mid_stop 42 _ rfl ?_ | with_reducible refine storeM_stop rfl 42 _ _ rfl ?_)
      refine (step_call (HT.out.below HB.out) (HM.out.below HB.out)).mono ?_
      rintro e wa1 ⟨v1, u1', rfl, ht1, ho1, hb1⟩
      have hT1 := ht1 wa1 (HT.out.below (below_call HB.out hb1 HB.out.size))
      obtain ⟨cl1, rfl, hsz1, hone1, _⟩ := hT1.list
      have HTA1 := Lib.hid hT1
      have HWA1 := Lib.hid ho1.words
      have HSZ1 := Lib.hid hsz1
      have HONE1 := Lib.hid hone1
      have HBA1 := Lib.hid (below_call HB.out hb1 HB.out.size)
      clear ht1 ho1 hb1 hT1 hsz1 hone1
      go_wp2_with (first | with_reducible refine mid_stop 42 _ rfl ?_ | with_reducible refine storeM_stop rfl 42 _ _ rfl ?_)
      refine AtStoreM.go wa1.heap.size 0 (cs := cl1) rfl rfl (newRow (by rw [HSZ1.out]; rfl)).2.2 (by rw [HSZ1.out]; exact size_task) HONE1.out ?_
      refine wpl_at fun W1 hW1 => ?_
      have hbw1 : Below wa1.heap.size wa1 W1 := by rw [hW1]; exact (newRow (by rw [HSZ1.out]; rfl)).1
      have HY1 : Hid (Box W1 wa1.heap.size 42 cl1.toArray) := Lib.hid (by rw [hW1]; exact (newRow (by rw [HSZ1.out]; rfl)).2.1)
      have HBb1 := Lib.hid (below_call HBA1.out hbw1 HBA1.out.size)
      have HT1 := Lib.hid (HTA1.out.below hbw1)
      have HW1 := Lib.hid (HWA1.out.below hbw1)
      clear hW1 hbw1 HBA1 HTA1 HWA1
      go_wp2_with (first | with_reducible refine mid_stop 42 _ rfl ?_ | with_reducible refine storeM_stop rfl 42 _ _ rfl ?_)
      refine AtMid.go rfl b (off + k * 36) rfl (HRG.out _ HBb1.out) Try.underlying42 rfl (by rw [HL.out]; exact size_task) ?_
      go_wp2_with (first | with_reducible refine mid_stop 42 _ rfl ?_ | with_reducible refine storeM_stop rfl 42 _ _ rfl ?_)
      refine (refStep_call (HT.out.below HBb1.out) (HM.out.below HBb1.out)).mono ?_
      rintro e wa2 ⟨v2, u2', rfl, ht2, ho2, hb2⟩
      have hT2 := ht2 wa2 (HT.out.below (below_call HBb1.out hb2 HBb1.out.size))
      obtain ⟨cl2, rfl, hsz2, hone2, _⟩ := hT2.list
      have HTA2 := Lib.hid hT2
      have HWA2 := Lib.hid ho2.words
      have HSZ2 := Lib.hid hsz2
      have HONE2 := Lib.hid hone2
      have HBA2 := Lib.hid (below_call HBb1.out hb2 HBb1.out.size)
      have HTA1' := Lib.hid (HT1.out.below hb2)
      have HWA1' := Lib.hid (HW1.out.below hb2)
      have HYA1' := Lib.hid (HY1.out.kept hb2)
      clear HT1 HW1 HY1
      clear ht2 ho2 hb2 hT2 hsz2 hone2 HBb1
      go_wp2_with (first | with_reducible refine mid_stop 42 _ rfl ?_ | with_reducible refine storeM_stop rfl 42 _ _ rfl ?_)
      refine AtStoreM.go wa2.heap.size 0 (cs := cl2) rfl rfl (newRow (by rw [HSZ2.out]; rfl)).2.2 (by rw [HSZ2.out]; exact size_task) HONE2.out ?_
      refine wpl_at fun W2 hW2 => ?_
      have hbw2 : Below wa2.heap.size wa2 W2 := by rw [hW2]; exact (newRow (by rw [HSZ2.out]; rfl)).1
      have HY2 : Hid (Box W2 wa2.heap.size 42 cl2.toArray) := Lib.hid (by rw [hW2]; exact (newRow (by rw [HSZ2.out]; rfl)).2.1)
      have HBb2 := Lib.hid (below_call HBA2.out hbw2 HBA2.out.size)
      have HT2 := Lib.hid (HTA2.out.below hbw2)
      have HW2 := Lib.hid (HWA2.out.below hbw2)
      have HT1 := Lib.hid (HTA1'.out.below hbw2)
      have HW1 := Lib.hid (HWA1'.out.below hbw2)
      have HY1 := Lib.hid (HYA1'.out.kept hbw2)
      clear HTA1' HWA1' HYA1'
      clear hW2 hbw2 HBA2 HTA2 HWA2
      go_wp2_with (first | with_reducible refine mid_stop 42 _ rfl ?_ | with_reducible refine storeM_stop rfl 42 _ _ rfl ?_)
      refine AtMid.go rfl b (off + k * 36) rfl (HRG.out _ HBb2.out) Try.underlying42 rfl (by rw [HL.out]; exact size_task) ?_
      go_wp2_with (first | with_reducible refine mid_stop 42 _ rfl ?_ | with_reducible refine storeM_stop rfl 42 _ _ rfl ?_)
      refine (steps_call (HT.out.below HBb2.out) (HM.out.below HBb2.out)).mono ?_
      rintro e wa3 ⟨v3, u3', rfl, ht3, ho3, hb3⟩
      have hT3 := ht3 wa3 (HT.out.below (below_call HBb2.out hb3 HBb2.out.size))
      obtain ⟨cl3, rfl, hsz3, hone3, _⟩ := hT3.list
      have HTA3 := Lib.hid hT3
      have HWA3 := Lib.hid ho3.words
      have HSZ3 := Lib.hid hsz3
      have HONE3 := Lib.hid hone3
      have HBA3 := Lib.hid (below_call HBb2.out hb3 HBb2.out.size)
      have HTA1' := Lib.hid (HT1.out.below hb3)
      have HWA1' := Lib.hid (HW1.out.below hb3)
      have HYA1' := Lib.hid (HY1.out.kept hb3)
      clear HT1 HW1 HY1
      have HTA2' := Lib.hid (HT2.out.below hb3)
      have HWA2' := Lib.hid (HW2.out.below hb3)
      have HYA2' := Lib.hid (HY2.out.kept hb3)
      clear HT2 HW2 HY2
      clear ht3 ho3 hb3 hT3 hsz3 hone3 HBb2
      go_wp2_with (first | with_reducible refine mid_stop 42 _ rfl ?_ | with_reducible refine storeM_stop rfl 42 _ _ rfl ?_)
      refine AtStoreM.go wa3.heap.size 0 (cs := cl3) rfl rfl (newRow (by rw [HSZ3.out]; rfl)).2.2 (by rw [HSZ3.out]; exact size_task) HONE3.out ?_
      refine wpl_at fun W3 hW3 => ?_
      have hbw3 : Below wa3.heap.size wa3 W3 := by rw [hW3]; exact (newRow (by rw [HSZ3.out]; rfl)).1
      have HY3 : Hid (Box W3 wa3.heap.size 42 cl3.toArray) := Lib.hid (by rw [hW3]; exact (newRow (by rw [HSZ3.out]; rfl)).2.1)
      have HBb3 := Lib.hid (below_call HBA3.out hbw3 HBA3.out.size)
      have HT3 := Lib.hid (HTA3.out.below hbw3)
      have HW3 := Lib.hid (HWA3.out.below hbw3)
      have HT1 := Lib.hid (HTA1'.out.below hbw3)
      have HW1 := Lib.hid (HWA1'.out.below hbw3)
      have HY1 := Lib.hid (HYA1'.out.kept hbw3)
      clear HTA1' HWA1' HYA1'
      have HT2 := Lib.hid (HTA2'.out.below hbw3)
      have HW2 := Lib.hid (HWA2'.out.below hbw3)
      have HY2 := Lib.hid (HYA2'.out.kept hbw3)
      clear HTA2' HWA2' HYA2'
      clear hW3 hbw3 HBA3 HTA3 HWA3
      go_wp2_with (first | with_reducible refine mid_stop 42 _ rfl ?_ | with_reducible refine storeM_stop rfl 42 _ _ rfl ?_)
      refine AtMid.go rfl b (off + k * 36) rfl (HRG.out _ HBb3.out) Try.underlying42 rfl (by rw [HL.out]; exact size_task) ?_
      go_wp2_with (first | with_reducible refine mid_stop 42 _ rfl ?_ | with_reducible refine storeM_stop rfl 42 _ _ rfl ?_)
      refine (refSteps_call (HT.out.below HBb3.out) (HM.out.below HBb3.out)).mono ?_
      rintro e wa4 ⟨v4, u4', rfl, ht4, ho4, hb4⟩
      have hT4 := ht4 wa4 (HT.out.below (below_call HBb3.out hb4 HBb3.out.size))
      obtain ⟨cl4, rfl, hsz4, hone4, _⟩ := hT4.list
      have HTA4 := Lib.hid hT4
      have HWA4 := Lib.hid ho4.words
      have HSZ4 := Lib.hid hsz4
      have HONE4 := Lib.hid hone4
      have HBA4 := Lib.hid (below_call HBb3.out hb4 HBb3.out.size)
      have HTA1' := Lib.hid (HT1.out.below hb4)
      have HWA1' := Lib.hid (HW1.out.below hb4)
      have HYA1' := Lib.hid (HY1.out.kept hb4)
      clear HT1 HW1 HY1
      have HTA2' := Lib.hid (HT2.out.below hb4)
      have HWA2' := Lib.hid (HW2.out.below hb4)
      have HYA2' := Lib.hid (HY2.out.kept hb4)
      clear HT2 HW2 HY2
      have HTA3' := Lib.hid (HT3.out.below hb4)
      have HWA3' := Lib.hid (HW3.out.below hb4)
      have HYA3' := Lib.hid (HY3.out.kept hb4)
      clear HT3 HW3 HY3
      clear ht4 ho4 hb4 hT4 hsz4 hone4 HBb3
      go_wp2_with (first | with_reducible refine mid_stop 42 _ rfl ?_ | with_reducible refine storeM_stop rfl 42 _ _ rfl ?_)
      refine AtStoreM.go wa4.heap.size 0 (cs := cl4) rfl rfl (newRow (by rw [HSZ4.out]; rfl)).2.2 (by rw [HSZ4.out]; exact size_task) HONE4.out ?_
      refine wpl_at fun W4 hW4 => ?_
      have hbw4 : Below wa4.heap.size wa4 W4 := by rw [hW4]; exact (newRow (by rw [HSZ4.out]; rfl)).1
      have HY4 : Hid (Box W4 wa4.heap.size 42 cl4.toArray) := Lib.hid (by rw [hW4]; exact (newRow (by rw [HSZ4.out]; rfl)).2.1)
      have HBb4 := Lib.hid (below_call HBA4.out hbw4 HBA4.out.size)
      have HT4 := Lib.hid (HTA4.out.below hbw4)
      have HW4 := Lib.hid (HWA4.out.below hbw4)
      have HT1 := Lib.hid (HTA1'.out.below hbw4)
      have HW1 := Lib.hid (HWA1'.out.below hbw4)
      have HY1 := Lib.hid (HYA1'.out.kept hbw4)
      clear HTA1' HWA1' HYA1'
      have HT2 := Lib.hid (HTA2'.out.below hbw4)
      have HW2 := Lib.hid (HWA2'.out.below hbw4)
      have HY2 := Lib.hid (HYA2'.out.kept hbw4)
      clear HTA2' HWA2' HYA2'
      have HT3 := Lib.hid (HTA3'.out.below hbw4)
      have HW3 := Lib.hid (HWA3'.out.below hbw4)
      have HY3 := Lib.hid (HYA3'.out.kept hbw4)
      clear HTA3' HWA3' HYA3'
      clear hW4 hbw4 HBA4 HTA4 HWA4
      go_wp2_with (first | with_reducible refine mid_stop 42 _ rfl ?_ | with_reducible refine storeM_stop rfl 42 _ _ rfl ?_)
      refine AtMid.go rfl wa1.heap.size 0 rfl HY1.out.range Try.underlying42 rfl (by rw [HSZ1.out]; exact size_task) ?_
      go_wp2_with (first | with_reducible refine mid_stop 42 _ rfl ?_ | with_reducible refine storeM_stop rfl 42 _ _ rfl ?_)
      refine AtMid.go rfl wa2.heap.size 0 rfl HY2.out.range Try.underlying42 rfl (by rw [HSZ2.out]; exact size_task) ?_
      go_wp2_with (first | with_reducible refine mid_stop 42 _ rfl ?_ | with_reducible refine storeM_stop rfl 42 _ _ rfl ?_)
      refine (tsame_call (x := true) ⟨fun _ => sameT_refl _, fun _ => rfl⟩ HT1.out HT2.out).mono ?_
      rintro e w12 ⟨rfl, hb12⟩
      have HB12 := Lib.hid (below_call HBb4.out hb12 HBb4.out.size)
      have HX1 := Lib.hid (HW1.out.below hb12)
      have HX2 := Lib.hid (HW2.out.below hb12)
      have HX3 := Lib.hid (HW3.out.below hb12)
      have HX4 := Lib.hid (HW4.out.below hb12)
      have HU3 := Lib.hid (HT3.out.below hb12)
      have HU4 := Lib.hid (HT4.out.below hb12)
      have HZ3 := Lib.hid (HY3.out.kept hb12)
      have HZ4 := Lib.hid (HY4.out.kept hb12)
      clear hb12 HBb4 HW1 HW2 HW3 HW4 HT1 HT2 HT3 HT4 HY1 HY2 HY3 HY4
      go_wp2_with (first | with_reducible refine mid_stop 42 _ rfl ?_ | with_reducible refine storeM_stop rfl 42 _ _ rfl ?_)
      refine (same_call HX1.out HX2.out).mono ?_
      rintro e w13 ⟨rfl, hb13⟩
      rw [decide_eq_true rfl]
      have HB13 := Lib.hid (below_call HB12.out hb13 HB12.out.size)
      have HW3 := Lib.hid (HX3.out.below hb13)
      have HW4 := Lib.hid (HX4.out.below hb13)
      have HT3 := Lib.hid (HU3.out.below hb13)
      have HT4 := Lib.hid (HU4.out.below hb13)
      have HY3 := Lib.hid (HZ3.out.kept hb13)
      have HY4 := Lib.hid (HZ4.out.kept hb13)
      clear hb13 HB12 HX1 HX2 HX3 HX4 HU3 HU4 HZ3 HZ4
      go_wp2_with (first | with_reducible refine mid_stop 42 _ rfl ?_ | with_reducible refine storeM_stop rfl 42 _ _ rfl ?_)
      refine AtMid.go rfl wa3.heap.size 0 rfl HY3.out.range Try.underlying42 rfl (by rw [HSZ3.out]; exact size_task) ?_
      go_wp2_with (first | with_reducible refine mid_stop 42 _ rfl ?_ | with_reducible refine storeM_stop rfl 42 _ _ rfl ?_)
      refine AtMid.go rfl wa4.heap.size 0 rfl HY4.out.range Try.underlying42 rfl (by rw [HSZ4.out]; exact size_task) ?_
      go_wp2_with (first | with_reducible refine mid_stop 42 _ rfl ?_ | with_reducible refine storeM_stop rfl 42 _ _ rfl ?_)
      refine (tsame_call (x := true) ⟨fun _ => sameT_refl _, fun _ => rfl⟩ HT3.out HT4.out).mono ?_
      rintro e w14 ⟨rfl, hb14⟩
      have HB14 := Lib.hid (below_call HB13.out hb14 HB13.out.size)
      have HX3 := Lib.hid (HW3.out.below hb14)
      have HX4 := Lib.hid (HW4.out.below hb14)
      clear hb14 HB13 HW3 HW4 HT3 HT4 HY3 HY4
      go_wp2_with (first | with_reducible refine mid_stop 42 _ rfl ?_ | with_reducible refine storeM_stop rfl 42 _ _ rfl ?_)
      refine (same_call HX3.out HX4.out).mono ?_
      rintro e w15 ⟨rfl, hb15⟩
      rw [decide_eq_true rfl]
      have HB15 := Lib.hid (below_call HB14.out hb15 HB14.out.size)
      clear hb15 HB14 HX3 HX4
      go_wp2
      go_roundw
      case rel => exact ⟨k + 1, by omega, by go_num, HB15⟩
      case measure => simp [intOf]; omega
    · have hki : ¬ (k : Int) < (l.length : Int) := by omega
      go_wp2
      go_ret
      exact ⟨rfl, HB.out⟩
end Go.Proofs.Ytpkelneimjmmkaa

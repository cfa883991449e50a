/- The walk of TaskApart. -/
import Derived.Test.YtpkelneimjmmkaaTaskP
import Derived.Test.YtpkelneimjmmkaaTaskIsW
namespace Go.Proofs.Ytpkelneimjmmkaa
open Go.RowKit

set_option maxHeartbeats 16000000 in
set_option maxRecDepth 20000 in
set_option linter.unusedSimpArgs false in
theorem taskApart_walk {v vm vp : Value} {l : List TV} {ms ps : List Int} {kk : Int} {w : World} (h : Tasks w v l) (hm : Words w vm ms) (hp : Ints w vp ps) :
    Calls Try.prog 14 #[v, vm, vp, .int .i64 kk] w (BoolPost true w) := by
  obtain ⟨i0, hi, hz0, hz1, hz2⟩ := info_parts info_int
  obtain ⟨A0, c0, rfl, hc01, hc02, _⟩ := h.1.form
  obtain ⟨A1, c1, rfl, hc11, hc12, _⟩ := hm.1.form
  obtain ⟨A3, c3, rfl, hc31, hc32, _⟩ := hp.1.form
  unfold maxLen at hc02 hc12 hc32
  have H := Lib.hid h
  have HM := Lib.hid hm
  have HP := Lib.hid hp
  have HI := Lib.hid hi
  have HZ0 := Lib.hid hz0
  have HZ1 := Lib.hid hz1
  have HZ2 := Lib.hid hz2
  clear h hm hp hi hz0 hz1 hz2
  go_enter Try.func14, Try.ntmps14
  go_wp2_with fail
  refine (awake12 _).mono ?_
  rintro e w1 ⟨rfl, hb1⟩
  have HB1 := Lib.hid hb1
  clear hb1
  go_wp2_with fail
  refine (few_call (H.out.below HB1.out)).mono ?_
  rintro e w2 ⟨rfl, hb2⟩
  have HB2 := Lib.hid (below_call HB1.out hb2 HB1.out.size)
  clear hb2 HB1
  by_cases hnf : ¬ fewP (fts l)
  · rw [decide_eq_false hnf]
    clear hnf
    go_wp2
    go_ret
    exact ⟨rfl, HB2.out⟩
  have hfew := Decidable.not_not.1 hnf
  rw [decide_eq_true hfew]
  have hl12 : l.length ≤ 12 := by have := hfew.2; simpa using this
  clear hfew hnf
  by_cases h1 : 256 < ms.length
  · have h1' : (256 : Int) < (ms.length : Int) := by omega
    go_wp2
    go_ret
    exact ⟨rfl, HB2.out⟩
  have n1 : ¬ (256 : Int) < (ms.length : Int) := by omega
  by_cases h3 : 300 < ps.length
  · have h3' : (300 : Int) < (ps.length : Int) := by omega
    go_wp2
    go_ret
    exact ⟨rfl, HB2.out⟩
  have n3 : ¬ (300 : Int) < (ps.length : Int) := by omega
  by_cases h0 : l.length = 0
  · have h0' : (l.length : Int) = 0 := by omega
    go_wp2
    go_ret
    exact ⟨rfl, HB2.out⟩
  have n0 : ¬ (l.length : Int) = 0 := by omega
  have n0' : ((l.length : Int) == 0) = false := by rw [beq_eq_false_iff_ne]; exact n0
  have hn0 : 0 < l.length := by omega
  have hmk := low16_eq kk
  have htm := low16_tmod kk hn0
  have hil : low16 kk % l.length < l.length := Nat.mod_lt _ hn0
  generalize low16 kk % l.length = i at *
  have hii : (i : Int) < (l.length : Int) := by omega
  have hwi : IntKind.i64.wrap (i : Int) = (i : Int) := by rw [IntKind.wrap_i64]; omega
  have HIL := Lib.hid hil
  have HL12 := Lib.hid hl12
  have HN0 := Lib.hid hn0
  clear hl12
  go_wp2_with fail
  go_loopw [11, 12, 13] (fun v5 v6 q wr => ∃ (k : Nat) (lo lw : List Int), k ≤ ps.length ∧ q = .int .i64 (k : Int) ∧ Hid (PartRel w2 l.length i k v5 v6 lo lw wr)) (fun _ _ q _ => ps.length - (intOf q).toNat)
  case atStart => exact ⟨0, [], [], Nat.zero_le _, rfl, Lib.hid ⟨OwnN.nil _ _, OwnN.nil _ _, .inl rfl, Below.refl _ _, by simp, by simp, Nat.zero_le _, Nat.zero_le _⟩⟩
  case round =>
    obtain ⟨k, lo, lw, hk, rfl, HR⟩ := hrel
    by_cases hlt : k < ps.length
    · have hki : (k : Int) < (ps.length : Int) := by omega
      obtain ⟨b, o, rfl, _, p0⟩ := ((HP.out.below HB2.out).below HR.out.below).at_ rfl hlt
      have hpm := low16_eq (ps.getD k 0)
      have hpt := low16_tmod (ps.getD k 0) hn0
      have hrl : low16 (ps.getD k 0) % l.length < l.length := Nat.mod_lt _ hn0
      generalize ps.getD k 0 = p at *
      generalize low16 p % l.length = r at *
      have hri : (r : Int) < (l.length : Int) := by omega
      have hwr : IntKind.i64.wrap (r : Int) = (r : Int) := by rw [IntKind.wrap_i64]; omega
      obtain ⟨A5, c5, hv5, _⟩ := HR.out.others.ints.1.form
      obtain ⟨A6, c6, hv6, _⟩ := HR.out.own.ints.1.form
      subst hv5 hv6
      have HRL := Lib.hid hrl
      have h8 : lo.length ≤ 300 := by have := HR.out.lenO; omega
      have h9 : lw.length ≤ 300 := by have := HR.out.lenW; omega
      have H8 := Lib.hid h8
      have H9 := Lib.hid h9
      clear hrl h8 h9
      by_cases hri2 : r = i
      · have hri3 : (r : Int) = (i : Int) := by omega
        subst hri2
        go_wp2_with (at_builtin; refine wpList_append_sl _ rfl _ _ 58 rfl w2.heap.size 3 i0 _ 1 8 Try.underlying58 HI.out HZ0.out HZ1.out HZ2.out rfl (by decide) _ _ _ rfl (HR.out.own.1.alloc _) _ 1 [.int .i64 (r : Int)] rfl (Sl.of_own (own_new _ _ 1 #[.int .i64 (r : Int)] 1 rfl (by decide))) ?qc2 ?qc3 ?qc4 ?qc5 ?_)
        case qc2 => first | (intro u hu; simp at hu; subst hu; rfl) | rfl | simp [Value.oneCell']
        case qc3 => simp only [maxLen]; have := H9.out; omega
        case qc4 => have := H9.out; omega
        case qc5 => have := HR.out.below.size; simp; omega
        intro v' w3 hown3 hgrow3 hat3
        have R3 : Hid (PartRel w2 l.length r (k + 1) (.slice A5 lo.length c5) v' lo (lw ++ [(r : Int)]) w3) := Lib.hid (by
          obtain ⟨q1, q2, q3, q4⟩ := two_more HR.out.own HR.out.others (ne_of_other HR.out.sep) HR.out.below HR.out.below.size (⟨by omega, by have := HRL.out; have := HL12.out; omega⟩ : I64 (r : Int)) hown3 hgrow3 (by simpa using hat3)
          exact ⟨q2, q1, ne_of_other q3, q4, HR.out.not, fun x hx => by
            rcases List.mem_append.1 hx with h | h
            · exact HR.out.is x h
            · simp at h; subst h; exact pickAt_nat HRL.out, by have := HR.out.lenO; omega, by have := HR.out.lenW; simp; omega⟩)
        clear hown3 hgrow3 hat3
        go_wp2
        go_roundw
        case rel => exact ⟨k + 1, lo, _, by omega, by go_num, R3⟩
        case measure => simp [intOf]; omega
      · have hri3 : ¬ (r : Int) = (i : Int) := by omega
        go_wp2_with (at_builtin; refine wpList_append_sl _ rfl _ _ 58 rfl w2.heap.size 3 i0 _ 1 8 Try.underlying58 HI.out HZ0.out HZ1.out HZ2.out rfl (by decide) _ _ _ rfl (HR.out.others.1.alloc _) _ 1 [.int .i64 (r : Int)] rfl (Sl.of_own (own_new _ _ 1 #[.int .i64 (r : Int)] 1 rfl (by decide))) ?qc2 ?qc3 ?qc4 ?qc5 ?_)
        case qc2 => first | (intro u hu; simp at hu; subst hu; rfl) | rfl | simp [Value.oneCell']
        case qc3 => simp only [maxLen]; have := H8.out; omega
        case qc4 => have := H8.out; omega
        case qc5 => have := HR.out.below.size; simp; omega
        intro v' w3 hown3 hgrow3 hat3
        have R3 : Hid (PartRel w2 l.length i (k + 1) v' (.slice A6 lw.length c6) (lo ++ [(r : Int)]) lw w3) := Lib.hid (by
          obtain ⟨q1, q2, q3, q4⟩ := two_more HR.out.others HR.out.own HR.out.sep HR.out.below HR.out.below.size (⟨by omega, by have := HRL.out; have := HL12.out; omega⟩ : I64 (r : Int)) hown3 hgrow3 (by simpa using hat3)
          exact ⟨q1, q2, q3, q4, fun x hx => by
            rcases List.mem_append.1 hx with h | h
            · exact HR.out.not x h
            · simp at h; subst h; rw [pickAt_nat HRL.out]; exact hri2, HR.out.is, by have := HR.out.lenO; simp; omega, by have := HR.out.lenW; omega⟩)
        clear hown3 hgrow3 hat3
        go_wp2
        go_roundw
        case rel => exact ⟨k + 1, _, lw, by omega, by go_num, R3⟩
        case measure => simp [intOf]; omega
    · have hki : ¬ (k : Int) < (ps.length : Int) := by omega
      obtain ⟨A5, c5, hv5, _⟩ := HR.out.others.ints.1.form
      obtain ⟨A6, c6, hv6, _, hc62, _⟩ := HR.out.own.ints.1.form
      unfold maxLen at hc62
      subst hv5 hv6
      have hlw : lw.length ≤ 300 := by have := HR.out.lenW; omega
      have HLW := Lib.hid hlw
      have HBR := Lib.hid (below_call HB2.out HR.out.below HB2.out.size)
      have HLO := Lib.hid HR.out.others.ints
      have HLI := Lib.hid HR.out.own.ints
      have HNOT := Lib.hid HR.out.not
      have HIS := Lib.hid HR.out.is
      have hln : l.length ≤ 4096 := by have := HL12.out; omega
      clear HR hlw
      go_wp2_with fail
      refine (trun_call (H.out.below HBR.out) (HM.out.below HBR.out) HLO.out hln).mono ?_
      rintro e w3 ⟨va, vb, la, rfl, hfa, hoa, haa, hob, hb3⟩
      have HTA : Hid (Tasks w3 va la) := Lib.hid ⟨hoa.slt, haa.below hb3⟩
      have hlal : la.length = l.length := by
        have := congrArg List.length hfa
        rw [runT_len, List.length_map, List.length_map] at this
        exact this
      have HEA : Hid ((fts la).getD i ft0 = (fts l).getD i ft0) := Lib.hid (by
        rw [hfa]
        exact runT_stays i lo (fts l) (counts ms) (by rw [List.length_map]; exact HNOT.out))
      have HLAL := Lib.hid hlal
      obtain ⟨Aa, ca, hva, _, hca, _⟩ := hoa.slt.form
      rw [hlal] at hva
      unfold maxLen at hca
      subst hva
      have HB3 := Lib.hid (below_call HBR.out hb3 HBR.out.size)
      have HLI3 := Lib.hid (HLI.out.below hb3)
      clear hfa hoa haa hob hb3 HBR HLI HLO HNOT hlal
      go_wp2_with fail
      refine (trun_call (H.out.below HB3.out) (HM.out.below HB3.out) HLI3.out hln).mono ?_
      rintro e w4 ⟨vc, vd, lb, rfl, hfb, hob, hab, hod, hb4⟩
      have HTB : Hid (Tasks w4 vc lb) := Lib.hid ⟨hob.slt, hab.below hb4⟩
      have hlbl : lb.length = l.length := by
        have := congrArg List.length hfb
        rw [runT_len, List.length_map, List.length_map] at this
        exact this
      have halone := runT_alone i lw (fts l) (counts ms) (by rw [List.length_map]; exact HIL.out) (counts_le ms) (by have := HLW.out; omega) (by rw [List.length_map]; exact HIS.out)
      have HEB : Hid ((fts lb).getD i ft0 = (stepsT ((fts l).getD i ft0) ms (lw.length : Int)).1) := Lib.hid (by
        rw [hfb, halone.1]
        unfold stepsT
        rw [show atMost (lw.length : Int) = lw.length by unfold atMost; have := HLW.out; omega])
      have HWD : Hid (Words w4 vd (stepsT ((fts l).getD i ft0) ms (lw.length : Int)).2.1) := Lib.hid (by
        have := hod.words
        rw [halone.2] at this
        unfold stepsT
        rw [show atMost (lw.length : Int) = lw.length by unfold atMost; have := HLW.out; omega]
        exact this)
      have HEJ : Hid (∀ j, j ≠ i → (fts lb).getD j ft0 = (fts l).getD j ft0) := Lib.hid (fun j hj => by
        rw [hfb]
        exact runT_stays j lw (fts l) (counts ms) (by rw [List.length_map]; exact fun x hx => by rw [HIS.out x hx]; exact Ne.symm hj))
      have HLBL := Lib.hid hlbl
      obtain ⟨Ab, cb, hvc, _, hcb, _⟩ := hob.slt.form
      rw [hlbl] at hvc
      unfold maxLen at hcb
      subst hvc
      have HB4 := Lib.hid (below_call HB3.out hb4 HB3.out.size)
      have HTA4 := Lib.hid (HTA.out.below hb4)
      clear hfb hob hab hod hb4 HB3 HLI3 HTA halone HIS hlbl
      have hT := H.out.2.at_ HIL.out
      obtain ⟨bl, ol, hA0, hbl, hrg⟩ := SlT.at_ H.out.1 rfl H.out.2.len HIL.out
      subst hA0
      have hl36 := H.out.2.len _ (List.getElem_mem HIL.out)
      have hli := fts_getD HIL.out
      rw [hli] at HEA HEB HWD
      generalize (l[i]'HIL.out).1 = CL at *
      generalize (l[i]'HIL.out).2 = T at *
      have HT := Lib.hid hT
      have HL36 : Hid ((Try.prog.info? 42).map (·.size) = some CL.length) := Lib.hid (by rw [hl36]; exact size_task)
      have HRG := Lib.hid (fun (W : World) (hW : Below w.heap.size w W) => range_below hrg hbl hW)
      clear hT hl36 hrg hli
      go_wp2_with (first | with_reducible refine mid_stop 42 _ rfl ?_ | with_reducible refine storeM_stop rfl 42 _ _ rfl ?_)
      refine AtMid.go rfl bl (ol + i * 36) rfl (HRG.out _ HB4.out) Try.underlying42 rfl HL36.out ?_
      go_wp2_with (first | with_reducible refine mid_stop 42 _ rfl ?_ | with_reducible refine storeM_stop rfl 42 _ _ rfl ?_)
      refine (steps_call (HT.out.below HB4.out) (HM.out.below HB4.out)).mono ?_
      rintro e w5 ⟨v5, v6, rfl, ht5, ho5, hb5⟩
      have hT5 := ht5 w5 (HT.out.below (below_call HB4.out hb5 HB4.out.size))
      obtain ⟨cl5, rfl, hsz5, hone5, _⟩ := hT5.list
      have HT5 := Lib.hid hT5
      have HW5 := Lib.hid ho5.words
      have HSZ5 := Lib.hid hsz5
      have HONE5 := Lib.hid hone5
      have HB5 := Lib.hid (below_call HB4.out hb5 HB4.out.size)
      have HTA5 := Lib.hid (HTA4.out.below hb5)
      have HTB5 := Lib.hid (HTB.out.below hb5)
      have HWD5 := Lib.hid (HWD.out.below hb5)
      clear ht5 ho5 hb5 hT5 hsz5 hone5 HB4 HTA4 HTB HWD
      generalize stepsT T ms (lw.length : Int) = R5 at *
      go_wp2_with (first | with_reducible refine mid_stop 42 _ rfl ?_ | with_reducible refine storeM_stop rfl 42 _ _ rfl ?_)
      refine AtStoreM.go w5.heap.size 0 (cs := cl5) rfl rfl (newRow (by rw [HSZ5.out]; rfl)).2.2 (by rw [HSZ5.out]; exact size_task) HONE5.out ?_
      refine wpl_at fun W6 hW6 => ?_
      have hbw6 : Below w5.heap.size w5 W6 := by rw [hW6]; exact (newRow (by rw [HSZ5.out]; rfl)).1
      have hY6 : Box W6 w5.heap.size 42 cl5.toArray := by rw [hW6]; exact (newRow (by rw [HSZ5.out]; rfl)).2.1
      have HB6 := Lib.hid (below_call HB5.out hbw6 HB5.out.size)
      have hTA6 := HTA5.out.below hbw6
      have hTB6 := HTB5.out.below hbw6
      have HWD6 := Lib.hid (HWD5.out.below hbw6)
      have HW6 := Lib.hid (HW5.out.below hbw6)
      have HT6 := Lib.hid (HT5.out.below hbw6)
      have hgW : w5.heap.size < W6.heap.size := hY6.lt
      have hila : i < la.length := by rw [HLAL.out]; exact HIL.out
      have hilb : i < lb.length := by rw [HLBL.out]; exact HIL.out
      obtain ⟨ba, oa, hAa, hbla, hra⟩ := SlT.at_ hTA6.1 HLAL.out.symm hTA6.2.len hila
      obtain ⟨bb, ob, hAb, hblb, hrb⟩ := SlT.at_ hTB6.1 HLBL.out.symm hTB6.2.len hilb
      subst hAa hAb
      have hTai := hTA6.2.at_ hila
      have hTbi := hTB6.2.at_ hilb
      have hea : (la[i]).2 = T := by rw [← fts_getD hila]; exact HEA.out
      have heb : (lb[i]).2 = R5.1 := by rw [← fts_getD hilb]; exact HEB.out
      have hla36 := hTA6.2.len _ (List.getElem_mem hila)
      have hlb36 := hTB6.2.len _ (List.getElem_mem hilb)
      rw [hea] at hTai
      rw [heb] at hTbi
      generalize (la[i]).1 = Ca at *
      generalize (lb[i]).1 = Cb at *
      have HIA : Hid ((Try.prog.info? 42).map (·.size) = some Ca.length) := Lib.hid (by rw [hla36]; exact size_task)
      have HIB : Hid ((Try.prog.info? 42).map (·.size) = some Cb.length) := Lib.hid (by rw [hlb36]; exact size_task)
      have HI5 : Hid ((Try.prog.info? 42).map (·.size) = some cl5.length) := Lib.hid (by rw [HSZ5.out]; exact size_task)
      have HTAI := Lib.hid hTai
      have HTBI := Lib.hid hTbi
      have HTB6 := Lib.hid hTB6
      have hrl := HRG.out _ HB6.out
      have hbl6 : bl < W6.heap.size := by have := HB6.out.size; omega
      have HS : Hid (∀ W, Below W6.heap.size W6 W → W.rangeAt ba (oa + i * 36) Ca ∧ W.rangeAt bl (ol + i * 36) CL ∧ W.rangeAt bb (ob + i * 36) Cb ∧ W.rangeAt w5.heap.size 0 cl5) := Lib.hid fun W hW =>
        ⟨range_below hra hbla hW, range_below hrl hbl6 hW, range_below hrb hblb hW, range_below hY6.range hgW hW⟩
      clear hW6 hbw6 hY6 HB5 hTA6 hTB6 HTA5 HTB5 HWD5 HW5 HT5 hra hrb hTai hTbi hea heb hla36 hlb36 hrl hila hilb HEA HEB
      go_wp2_with fail
      refine wp_region_held_drew (S := fun W => W.rangeAt ba (oa + i * 36) Ca ∧ W.rangeAt bl (ol + i * 36) CL ∧ W.rangeAt bb (ob + i * 36) Cb ∧ W.rangeAt w5.heap.size 0 cl5) (by kernel_rfl) (HS.out W6 (Below.refl _ _)) (fun hHeld => ?_)
      refine take_at (i := 0) (v := .slice (some ⟨ba, oa, none⟩) l.length ca) rfl rfl (by kernel_rfl) (by kernel_rfl) (by kernel_rfl) (fun _ _ _ h => h) (Or.inl ⟨by rfl, fun w hw => ?_⟩) hHeld ?_
      · go_simp
      simp only [List.setIfInBounds_toArray, List.set_cons_zero, List.set_cons_succ]
      refine take_at (i := 1) (v := .int .i64 (l.length : Int)) rfl rfl (by kernel_rfl) (by kernel_rfl) (by kernel_rfl) (fun _ _ _ h => h) (Or.inl ⟨by rfl, fun w hw => ?_⟩) hHeld ?_
      · go_simp
      simp only [List.setIfInBounds_toArray, List.set_cons_zero, List.set_cons_succ]
      refine take_at (i := 2) (v := .slice (some ⟨bl, ol, none⟩) l.length c0) rfl rfl (by kernel_rfl) (by kernel_rfl) (by kernel_rfl) (fun _ _ _ h => h) (Or.inl ⟨by rfl, fun w hw => ?_⟩) hHeld ?_
      · go_simp
      simp only [List.setIfInBounds_toArray, List.set_cons_zero, List.set_cons_succ]
      refine take_at (i := 3) (v := .int .i64 (l.length : Int)) rfl rfl (by kernel_rfl) (by kernel_rfl) (by kernel_rfl) (fun _ _ _ h => h) (Or.inl ⟨by rfl, fun w hw => ?_⟩) hHeld ?_
      · go_simp
      simp only [List.setIfInBounds_toArray, List.set_cons_zero, List.set_cons_succ]
      refine take_at (i := 4) (v := .bool false) rfl rfl (by kernel_rfl) (by kernel_rfl) (by kernel_rfl) (fun _ _ _ h => h) (Or.inl ⟨by rfl, fun w hw => ?_⟩) hHeld ?_
      · go_simp
      simp only [List.setIfInBounds_toArray, List.set_cons_zero, List.set_cons_succ]
      refine take_at (i := 5) (v := .bool false) rfl rfl (by kernel_rfl) (by kernel_rfl) (by kernel_rfl) (fun _ _ _ h => h) (Or.inl ⟨by rfl, fun w hw => ?_⟩) hHeld ?_
      · go_simp
      simp only [List.setIfInBounds_toArray, List.set_cons_zero, List.set_cons_succ]
      refine take_at (i := 6) (v := .slice (some ⟨bb, ob, none⟩) l.length cb) rfl rfl (by kernel_rfl) (by kernel_rfl) (by kernel_rfl) (fun _ _ _ h => h) (Or.inl ⟨by rfl, fun w hw => ?_⟩) hHeld ?_
      · go_simp
      simp only [List.setIfInBounds_toArray, List.set_cons_zero, List.set_cons_succ]
      refine take_at (i := 7) (v := .int .i64 (l.length : Int)) rfl rfl (by kernel_rfl) (by kernel_rfl) (by kernel_rfl) (fun _ _ _ h => h) (Or.inl ⟨by rfl, fun w hw => ?_⟩) hHeld ?_
      · go_simp
      simp only [List.setIfInBounds_toArray, List.set_cons_zero, List.set_cons_succ]
      refine take_at (i := 8) (v := .slice (some ⟨bl, ol, none⟩) l.length c0) rfl rfl (by kernel_rfl) (by kernel_rfl) (by kernel_rfl) (fun _ _ _ h => h) (Or.inl ⟨by rfl, fun w hw => ?_⟩) hHeld ?_
      · go_simp
      simp only [List.setIfInBounds_toArray, List.set_cons_zero, List.set_cons_succ]
      refine take_at (i := 9) (v := .int .i64 (l.length : Int)) rfl rfl (by kernel_rfl) (by kernel_rfl) (by kernel_rfl) (fun _ _ _ h => h) (Or.inl ⟨by rfl, fun w hw => ?_⟩) hHeld ?_
      · go_simp
      simp only [List.setIfInBounds_toArray, List.set_cons_zero, List.set_cons_succ]
      refine take_at (i := 10) (v := .bool false) rfl rfl (by kernel_rfl) (by kernel_rfl) (by kernel_rfl) (fun _ _ _ h => h) (Or.inl ⟨by rfl, fun w hw => ?_⟩) hHeld ?_
      · go_simp
      simp only [List.setIfInBounds_toArray, List.set_cons_zero, List.set_cons_succ]
      refine take_at (i := 11) (v := .bool false) rfl rfl (by kernel_rfl) (by kernel_rfl) (by kernel_rfl) (fun _ _ _ h => h) (Or.inl ⟨by rfl, fun w hw => ?_⟩) hHeld ?_
      · go_simp
      simp only [List.setIfInBounds_toArray, List.set_cons_zero, List.set_cons_succ]
      refine take_at (i := 12) (v := .bool false) rfl rfl (by kernel_rfl) (by kernel_rfl) (by kernel_rfl) (fun _ _ _ h => h) (Or.inl ⟨by rfl, fun w hw => ?_⟩) hHeld ?_
      · go_simp
      simp only [List.setIfInBounds_toArray, List.set_cons_zero, List.set_cons_succ]
      refine take_at (i := 13) (v := .slice (some ⟨ba, oa, none⟩) l.length ca) rfl rfl (by kernel_rfl) (by kernel_rfl) (by kernel_rfl) (fun _ _ _ h => h) (Or.inl ⟨by rfl, fun w hw => ?_⟩) hHeld ?_
      · go_simp
      simp only [List.setIfInBounds_toArray, List.set_cons_zero, List.set_cons_succ]
      refine take_at (i := 14) (v := .int .i64 (i : Int)) rfl rfl (by kernel_rfl) (by kernel_rfl) (by kernel_rfl) (fun _ _ _ h => h) (Or.inl ⟨by rfl, fun w hw => ?_⟩) hHeld ?_
      · go_simp
      simp only [List.setIfInBounds_toArray, List.set_cons_zero, List.set_cons_succ]
      refine take_at (i := 15) (v := .pointer (some ⟨ba, oa + i * 36, none⟩)) rfl rfl (by kernel_rfl) (by kernel_rfl) (by kernel_rfl) (fun _ _ _ h => h) (Or.inl ⟨by rfl, fun w hw => ?_⟩) hHeld ?_
      · go_simp
      simp only [List.setIfInBounds_toArray, List.set_cons_zero, List.set_cons_succ]
      refine take_at (i := 16) (v := .agg Ca.toArray) rfl rfl (by kernel_rfl) (by kernel_rfl) (by kernel_rfl) (fun _ _ _ h => h)
        (yieldsIf_load_mid (by rfl) 42 _ rfl ba (oa + i * 36) rfl Ca _ (fun _ h => h.1) Try.underlying42 rfl HIA.out) hHeld ?_
      simp only [List.setIfInBounds_toArray, List.set_cons_zero, List.set_cons_succ]
      refine take_at (i := 17) (v := .slice (some ⟨bl, ol, none⟩) l.length c0) rfl rfl (by kernel_rfl) (by kernel_rfl) (by kernel_rfl) (fun _ _ _ h => h) (Or.inl ⟨by rfl, fun w hw => ?_⟩) hHeld ?_
      · go_simp
      simp only [List.setIfInBounds_toArray, List.set_cons_zero, List.set_cons_succ]
      refine take_at (i := 18) (v := .int .i64 (i : Int)) rfl rfl (by kernel_rfl) (by kernel_rfl) (by kernel_rfl) (fun _ _ _ h => h) (Or.inl ⟨by rfl, fun w hw => ?_⟩) hHeld ?_
      · go_simp
      simp only [List.setIfInBounds_toArray, List.set_cons_zero, List.set_cons_succ]
      refine take_at (i := 19) (v := .pointer (some ⟨bl, ol + i * 36, none⟩)) rfl rfl (by kernel_rfl) (by kernel_rfl) (by kernel_rfl) (fun _ _ _ h => h) (Or.inl ⟨by rfl, fun w hw => ?_⟩) hHeld ?_
      · go_simp
      simp only [List.setIfInBounds_toArray, List.set_cons_zero, List.set_cons_succ]
      refine take_at (i := 20) (v := .agg CL.toArray) rfl rfl (by kernel_rfl) (by kernel_rfl) (by kernel_rfl) (fun _ _ _ h => h)
        (yieldsIf_load_mid (by rfl) 42 _ rfl bl (ol + i * 36) rfl CL _ (fun _ h => h.2.1) Try.underlying42 rfl HL36.out) hHeld ?_
      simp only [List.setIfInBounds_toArray, List.set_cons_zero, List.set_cons_succ]
      refine wpAnyH_ready (rs := [21]) (by kernel_rfl) (by simp) ?_
      refine AllReadyH.cons rfl (fun K hK => ?_) AllReadyH.nil
      rw [if_pos (by rfl)]
      go_simp
      refine (tsame_call (x := true) ⟨fun _ => sameT_refl _, fun _ => rfl⟩ (w := W6.drew) HTAI.out ((HT.out.below HB6.out : IsTask W6 _ _))).mono ?_
      rintro e w7 ⟨rfl, hb7'⟩
      have hb7 := below_of_drew hb7'
      have HB7 := Lib.hid hb7
      clear hb7'
      refine hK.out _ _ (HS.out _ hb7) (fun hHeld2 => ?_)
      clear hK K hb7
      refine take_at (i := 22) (v := .bool false) rfl rfl (by kernel_rfl) (by kernel_rfl) (by kernel_rfl) (fun _ _ _ h => h) (Or.inl ⟨by rfl, fun w hw => ?_⟩) hHeld2 ?_
      · go_simp
      simp only [List.setIfInBounds_toArray, List.set_cons_zero, List.set_cons_succ]
      refine take_at (i := 23) (v := .bool false) rfl rfl (by kernel_rfl) (by kernel_rfl) (by kernel_rfl) (fun _ _ _ h => h) (Or.inl ⟨by rfl, fun w hw => ?_⟩) hHeld2 ?_
      · go_simp
      simp only [List.setIfInBounds_toArray, List.set_cons_zero, List.set_cons_succ]
      refine take_at (i := 24) (v := .bool false) rfl rfl (by kernel_rfl) (by kernel_rfl) (by kernel_rfl) (fun _ _ _ h => h) (Or.inl ⟨by rfl, fun w hw => ?_⟩) hHeld2 ?_
      · go_simp
      simp only [List.setIfInBounds_toArray, List.set_cons_zero, List.set_cons_succ]
      refine take_at (i := 25) (v := .slice (some ⟨bb, ob, none⟩) l.length cb) rfl rfl (by kernel_rfl) (by kernel_rfl) (by kernel_rfl) (fun _ _ _ h => h) (Or.inl ⟨by rfl, fun w hw => ?_⟩) hHeld2 ?_
      · go_simp
      simp only [List.setIfInBounds_toArray, List.set_cons_zero, List.set_cons_succ]
      refine take_at (i := 26) (v := .int .i64 (i : Int)) rfl rfl (by kernel_rfl) (by kernel_rfl) (by kernel_rfl) (fun _ _ _ h => h) (Or.inl ⟨by rfl, fun w hw => ?_⟩) hHeld2 ?_
      · go_simp
      simp only [List.setIfInBounds_toArray, List.set_cons_zero, List.set_cons_succ]
      refine take_at (i := 27) (v := .pointer (some ⟨bb, ob + i * 36, none⟩)) rfl rfl (by kernel_rfl) (by kernel_rfl) (by kernel_rfl) (fun _ _ _ h => h) (Or.inl ⟨by rfl, fun w hw => ?_⟩) hHeld2 ?_
      · go_simp
      simp only [List.setIfInBounds_toArray, List.set_cons_zero, List.set_cons_succ]
      refine take_at (i := 28) (v := .agg Cb.toArray) rfl rfl (by kernel_rfl) (by kernel_rfl) (by kernel_rfl) (fun _ _ _ h => h)
        (yieldsIf_load_mid (by rfl) 42 _ rfl bb (ob + i * 36) rfl Cb _ (fun _ h => h.2.2.1) Try.underlying42 rfl HIB.out) hHeld2 ?_
      simp only [List.setIfInBounds_toArray, List.set_cons_zero, List.set_cons_succ]
      refine take_at (i := 29) (v := .agg cl5.toArray) rfl rfl (by kernel_rfl) (by kernel_rfl) (by kernel_rfl) (fun _ _ _ h => h)
        (yieldsIf_load_mid (by rfl) 42 _ rfl w5.heap.size (0) rfl cl5 _ (fun _ h => h.2.2.2) Try.underlying42 rfl HI5.out) hHeld2 ?_
      simp only [List.setIfInBounds_toArray, List.set_cons_zero, List.set_cons_succ]
      refine wpAnyH_ready (rs := [30]) (by kernel_rfl) (by simp) ?_
      refine AllReadyH.cons rfl (fun K hK => ?_) AllReadyH.nil
      rw [if_pos (by rfl)]
      go_simp
      refine (tsame_call (x := true) ⟨fun _ => sameT_refl _, fun _ => rfl⟩ (w := w7) (HTBI.out.below HB7.out) (HT6.out.below HB7.out)).mono ?_
      rintro e w8 ⟨rfl, hb8⟩
      have hb8' := below_call HB7.out hb8 HB7.out.size
      have HB8 := Lib.hid hb8'
      refine hK.out _ _ (HS.out _ hb8') (fun hHeld3 => ?_)
      clear hK K hb8 hb8' hHeld hHeld2
      refine take_at (i := 31) (v := .bool false) rfl rfl (by kernel_rfl) (by kernel_rfl) (by kernel_rfl) (fun _ _ _ h => h) (Or.inl ⟨by rfl, fun w hw => ?_⟩) hHeld3 ?_
      · go_simp
      simp only [List.setIfInBounds_toArray, List.set_cons_zero, List.set_cons_succ]
      refine take_at (i := 32) (v := .bool false) rfl rfl (by kernel_rfl) (by kernel_rfl) (by kernel_rfl) (fun _ _ _ h => h) (Or.inl ⟨by rfl, fun w hw => ?_⟩) hHeld3 ?_
      · go_simp
      simp only [List.setIfInBounds_toArray, List.set_cons_zero, List.set_cons_succ]
      refine take_at (i := 33) (v := .bool false) rfl rfl (by kernel_rfl) (by kernel_rfl) (by kernel_rfl) (fun _ _ _ h => h) (Or.inl ⟨by rfl, fun w hw => ?_⟩) hHeld3 ?_
      · go_simp
      simp only [List.setIfInBounds_toArray, List.set_cons_zero, List.set_cons_succ]
      refine take_at (i := 34) (v := vd) rfl rfl (by kernel_rfl) (by kernel_rfl) (by kernel_rfl) (fun _ _ _ h => h) (Or.inl ⟨by rfl, fun w hw => ?_⟩) hHeld3 ?_
      · go_simp
      simp only [List.setIfInBounds_toArray, List.set_cons_zero, List.set_cons_succ]
      refine take_at (i := 35) (v := v6) rfl rfl (by kernel_rfl) (by kernel_rfl) (by kernel_rfl) (fun _ _ _ h => h) (Or.inl ⟨by rfl, fun w hw => ?_⟩) hHeld3 ?_
      · go_simp
      simp only [List.setIfInBounds_toArray, List.set_cons_zero, List.set_cons_succ]
      refine wpAnyH_ready (rs := [36]) (by kernel_rfl) (by simp) ?_
      refine AllReadyH.cons rfl (fun K hK => ?_) AllReadyH.nil
      rw [if_pos (by rfl)]
      go_simp
      refine (same_call (HWD6.out.below HB8.out) (HW6.out.below HB8.out)).mono ?_
      rintro e w9 ⟨rfl, hb9⟩
      rw [decide_eq_true rfl]
      have hb9' := below_call HB8.out hb9 HB8.out.size
      have HB9 := Lib.hid (below_call HB6.out hb9' HB6.out.size)
      have HTB9 := Lib.hid (HTB6.out.below hb9')
      refine hK.out _ _ (HS.out _ hb9') (fun hHeld4 => ?_)
      clear hK K hb9 hb9' hHeld3
      refine take_at (i := 37) (v := .bool false) rfl rfl (by kernel_rfl) (by kernel_rfl) (by kernel_rfl) (fun _ _ _ h => h) (Or.inl ⟨by rfl, fun w hw => ?_⟩) hHeld4 ?_
      · go_simp
      simp only [List.setIfInBounds_toArray, List.set_cons_zero, List.set_cons_succ]
      refine take_at (i := 38) (v := .bool false) rfl rfl (by kernel_rfl) (by kernel_rfl) (by kernel_rfl) (fun _ _ _ h => h) (Or.inl ⟨by rfl, fun w hw => ?_⟩) hHeld4 ?_
      · go_simp
      simp only [List.setIfInBounds_toArray, List.set_cons_zero, List.set_cons_succ]
      refine wpAnyH_done (by kernel_rfl) ?_ _
      clear HS HB6 HB7 HB8 HT6 HTAI HTBI HTB6 HW6 HWD6
      go_wp2_with fail
      go_loopw [21] (fun q wr => ∃ k : Nat, k ≤ l.length ∧ q = .int .i64 (k : Int) ∧ Hid (Below w9.heap.size w9 wr)) (fun q _ => l.length - (intOf q).toNat)
      case atStart => exact ⟨0, Nat.zero_le _, rfl, Lib.hid (Below.refl _ _)⟩
      case round =>
        obtain ⟨k, hk, rfl, HV⟩ := hrel
        have HBV := Lib.hid (below_call HB9.out HV.out HB9.out.size)
        by_cases hlt : k < l.length
        · have hki : (k : Int) < (l.length : Int) := by omega
          by_cases hke : k = i
          · have hke' : (k : Int) = (i : Int) := by omega
            subst hke
            go_wp2_with fail
            refine wp_region_held_drew (S := fun _ => True) (by kernel_rfl) trivial (fun hHeld => ?_)
            refine take_at (i := 0) (v := .int .i64 (k : Int)) rfl rfl (by kernel_rfl) (by kernel_rfl) (by kernel_rfl) (fun _ _ _ h => h) (Or.inl ⟨by rfl, fun w hw => ?_⟩) hHeld ?_
            · go_simp
            simp only [List.setIfInBounds_toArray, List.set_cons_zero, List.set_cons_succ]
            refine take_at (i := 1) (v := .int .i64 (k : Int)) rfl rfl (by kernel_rfl) (by kernel_rfl) (by kernel_rfl) (fun _ _ _ h => h) (Or.inl ⟨by rfl, fun w hw => ?_⟩) hHeld ?_
            · go_simp
            simp only [List.setIfInBounds_toArray, List.set_cons_zero, List.set_cons_succ]
            refine take_at (i := 2) (v := .bool false) rfl rfl (by kernel_rfl) (by kernel_rfl) (by kernel_rfl) (fun _ _ _ h => h) (Or.inl ⟨by rfl, fun w hw => ?_⟩) hHeld ?_
            · go_simp
            simp only [List.setIfInBounds_toArray, List.set_cons_zero, List.set_cons_succ]
            refine take_at (i := 3) (v := .bool false) rfl rfl (by kernel_rfl) (by kernel_rfl) (by kernel_rfl) (fun _ _ _ h => h) (Or.inl ⟨by rfl, fun w hw => ?_⟩) hHeld ?_
            · go_simp
            simp only [List.setIfInBounds_toArray, List.set_cons_zero, List.set_cons_succ]
            refine take_at (i := 4) (v := undef) rfl rfl (by kernel_rfl) (by kernel_rfl) (by kernel_rfl) (fun _ _ _ h => h) (Or.inr ⟨by rfl, rfl⟩) hHeld ?_
            simp only [List.setIfInBounds_toArray, List.set_cons_zero, List.set_cons_succ]
            refine take_at (i := 5) (v := undef) rfl rfl (by kernel_rfl) (by kernel_rfl) (by kernel_rfl) (fun _ _ _ h => h) (Or.inr ⟨by rfl, rfl⟩) hHeld ?_
            simp only [List.setIfInBounds_toArray, List.set_cons_zero, List.set_cons_succ]
            refine take_at (i := 6) (v := undef) rfl rfl (by kernel_rfl) (by kernel_rfl) (by kernel_rfl) (fun _ _ _ h => h) (Or.inr ⟨by rfl, rfl⟩) hHeld ?_
            simp only [List.setIfInBounds_toArray, List.set_cons_zero, List.set_cons_succ]
            refine take_at (i := 7) (v := undef) rfl rfl (by kernel_rfl) (by kernel_rfl) (by kernel_rfl) (fun _ _ _ h => h) (Or.inr ⟨by rfl, rfl⟩) hHeld ?_
            simp only [List.setIfInBounds_toArray, List.set_cons_zero, List.set_cons_succ]
            refine take_at (i := 8) (v := undef) rfl rfl (by kernel_rfl) (by kernel_rfl) (by kernel_rfl) (fun _ _ _ h => h) (Or.inr ⟨by rfl, rfl⟩) hHeld ?_
            simp only [List.setIfInBounds_toArray, List.set_cons_zero, List.set_cons_succ]
            refine take_at (i := 9) (v := undef) rfl rfl (by kernel_rfl) (by kernel_rfl) (by kernel_rfl) (fun _ _ _ h => h) (Or.inr ⟨by rfl, rfl⟩) hHeld ?_
            simp only [List.setIfInBounds_toArray, List.set_cons_zero, List.set_cons_succ]
            refine take_at (i := 10) (v := undef) rfl rfl (by kernel_rfl) (by kernel_rfl) (by kernel_rfl) (fun _ _ _ h => h) (Or.inr ⟨by rfl, rfl⟩) hHeld ?_
            simp only [List.setIfInBounds_toArray, List.set_cons_zero, List.set_cons_succ]
            refine take_at (i := 11) (v := undef) rfl rfl (by kernel_rfl) (by kernel_rfl) (by kernel_rfl) (fun _ _ _ h => h) (Or.inr ⟨by rfl, rfl⟩) hHeld ?_
            simp only [List.setIfInBounds_toArray, List.set_cons_zero, List.set_cons_succ]
            refine take_at (i := 12) (v := undef) rfl rfl (by kernel_rfl) (by kernel_rfl) (by kernel_rfl) (fun _ _ _ h => h) (Or.inr ⟨by rfl, rfl⟩) hHeld ?_
            simp only [List.setIfInBounds_toArray, List.set_cons_zero, List.set_cons_succ]
            refine take_at (i := 13) (v := undef) rfl rfl (by kernel_rfl) (by kernel_rfl) (by kernel_rfl) (fun _ _ _ h => h) (Or.inr ⟨by rfl, rfl⟩) hHeld ?_
            simp only [List.setIfInBounds_toArray, List.set_cons_zero, List.set_cons_succ]
            refine take_at (i := 14) (v := .bool false) rfl rfl (by kernel_rfl) (by kernel_rfl) (by kernel_rfl) (fun _ _ _ h => h) (Or.inl ⟨by rfl, fun w hw => ?_⟩) hHeld ?_
            · go_simp
            simp only [List.setIfInBounds_toArray, List.set_cons_zero, List.set_cons_succ]
            refine wpAnyH_done (by kernel_rfl) ?_ _
            go_wp2
            go_roundw
            case rel => exact ⟨k + 1, by omega, by go_num, Lib.hid (below_drewN HV.out 1)⟩
            case measure => simp [intOf]; omega
          · have hke' : ¬ (k : Int) = (i : Int) := by omega
            have hkb : k < lb.length := by rw [HLBL.out]; exact hlt
            have hTB := HTB9.out.below HV.out
            have hTH := H.out.below HBV.out
            obtain ⟨bk, ok, hAk, hblk, hrk⟩ := SlT.at_ hTB.1 HLBL.out.symm hTB.2.len hkb
            obtain ⟨bm, om, hAm, hblm, hrm⟩ := SlT.at_ hTH.1 rfl hTH.2.len hlt
            injection hAk with hAk
            injection hAk with hk1 hk2
            subst hk1 hk2
            injection hAm with hAm
            injection hAm with hm1 hm2
            subst hm1 hm2
            have hTk := hTB.2.at_ hkb
            have hTm := hTH.2.at_ hlt
            have hek : (lb[k]).2 = (l[k]).2 := by rw [← fts_getD hkb, ← fts_getD hlt]; exact HEJ.out k hke
            have hlk36 := hTB.2.len _ (List.getElem_mem hkb)
            have hlm36 := hTH.2.len _ (List.getElem_mem hlt)
            rw [hek] at hTk
            generalize (lb[k]).1 = Ck at *
            generalize (l[k]).1 = Cm at *
            generalize (l[k]).2 = Tk at *
            have HIK : Hid ((Try.prog.info? 42).map (·.size) = some Ck.length) := Lib.hid (by rw [hlk36]; exact size_task)
            have HIM : Hid ((Try.prog.info? 42).map (·.size) = some Cm.length) := Lib.hid (by rw [hlm36]; exact size_task)
            have HTk := Lib.hid hTk
            have HTm := Lib.hid hTm
            have HS : Hid (∀ W, Below wr.heap.size wr W → W.rangeAt bb (ob + k * 36) Ck ∧ W.rangeAt bl (ol + k * 36) Cm) := Lib.hid fun W hW => ⟨range_below hrk hblk hW, range_below hrm hblm hW⟩
            clear hTB hTH hrk hrm hTk hTm hek hlk36 hlm36
            go_wp2_with fail
            refine wp_region_held_drew (S := fun W => W.rangeAt bb (ob + k * 36) Ck ∧ W.rangeAt bl (ol + k * 36) Cm) (by kernel_rfl) (HS.out wr (Below.refl _ _)) (fun hHeld => ?_)
            refine take_at (i := 0) (v := .int .i64 (k : Int)) rfl rfl (by kernel_rfl) (by kernel_rfl) (by kernel_rfl) (fun _ _ _ h => h) (Or.inl ⟨by rfl, fun w hw => ?_⟩) hHeld ?_
            · go_simp
            simp only [List.setIfInBounds_toArray, List.set_cons_zero, List.set_cons_succ]
            refine take_at (i := 1) (v := .int .i64 (i : Int)) rfl rfl (by kernel_rfl) (by kernel_rfl) (by kernel_rfl) (fun _ _ _ h => h) (Or.inl ⟨by rfl, fun w hw => ?_⟩) hHeld ?_
            · go_simp
            simp only [List.setIfInBounds_toArray, List.set_cons_zero, List.set_cons_succ]
            refine take_at (i := 2) (v := .bool true) rfl rfl (by kernel_rfl) (by kernel_rfl) (by kernel_rfl) (fun _ _ _ h => h) (Or.inl ⟨by rfl, fun w hw => ?_⟩) hHeld ?_
            · go_simp
            simp only [List.setIfInBounds_toArray, List.set_cons_zero, List.set_cons_succ]
            refine take_at (i := 3) (v := .bool true) rfl rfl (by kernel_rfl) (by kernel_rfl) (by kernel_rfl) (fun _ _ _ h => h) (Or.inl ⟨by rfl, fun w hw => ?_⟩) hHeld ?_
            · go_simp
            simp only [List.setIfInBounds_toArray, List.set_cons_zero, List.set_cons_succ]
            refine take_at (i := 4) (v := .slice (some ⟨bb, ob, none⟩) l.length cb) rfl rfl (by kernel_rfl) (by kernel_rfl) (by kernel_rfl) (fun _ _ _ h => h) (Or.inl ⟨by rfl, fun w hw => ?_⟩) hHeld ?_
            · go_simp
            simp only [List.setIfInBounds_toArray, List.set_cons_zero, List.set_cons_succ]
            refine take_at (i := 5) (v := .int .i64 (k : Int)) rfl rfl (by kernel_rfl) (by kernel_rfl) (by kernel_rfl) (fun _ _ _ h => h) (Or.inl ⟨by rfl, fun w hw => ?_⟩) hHeld ?_
            · go_simp
            simp only [List.setIfInBounds_toArray, List.set_cons_zero, List.set_cons_succ]
            refine take_at (i := 6) (v := .pointer (some ⟨bb, ob + k * 36, none⟩)) rfl rfl (by kernel_rfl) (by kernel_rfl) (by kernel_rfl) (fun _ _ _ h => h) (Or.inl ⟨by rfl, fun w hw => ?_⟩) hHeld ?_
            · go_simp
            simp only [List.setIfInBounds_toArray, List.set_cons_zero, List.set_cons_succ]
            refine take_at (i := 7) (v := .agg Ck.toArray) rfl rfl (by kernel_rfl) (by kernel_rfl) (by kernel_rfl) (fun _ _ _ h => h)
              (yieldsIf_load_mid (by rfl) 42 _ rfl bb (ob + k * 36) rfl Ck _ (fun _ h => h.1) Try.underlying42 rfl HIK.out) hHeld ?_
            simp only [List.setIfInBounds_toArray, List.set_cons_zero, List.set_cons_succ]
            refine take_at (i := 8) (v := .slice (some ⟨bl, ol, none⟩) l.length c0) rfl rfl (by kernel_rfl) (by kernel_rfl) (by kernel_rfl) (fun _ _ _ h => h) (Or.inl ⟨by rfl, fun w hw => ?_⟩) hHeld ?_
            · go_simp
            simp only [List.setIfInBounds_toArray, List.set_cons_zero, List.set_cons_succ]
            refine take_at (i := 9) (v := .int .i64 (k : Int)) rfl rfl (by kernel_rfl) (by kernel_rfl) (by kernel_rfl) (fun _ _ _ h => h) (Or.inl ⟨by rfl, fun w hw => ?_⟩) hHeld ?_
            · go_simp
            simp only [List.setIfInBounds_toArray, List.set_cons_zero, List.set_cons_succ]
            refine take_at (i := 10) (v := .pointer (some ⟨bl, ol + k * 36, none⟩)) rfl rfl (by kernel_rfl) (by kernel_rfl) (by kernel_rfl) (fun _ _ _ h => h) (Or.inl ⟨by rfl, fun w hw => ?_⟩) hHeld ?_
            · go_simp
            simp only [List.setIfInBounds_toArray, List.set_cons_zero, List.set_cons_succ]
            refine take_at (i := 11) (v := .agg Cm.toArray) rfl rfl (by kernel_rfl) (by kernel_rfl) (by kernel_rfl) (fun _ _ _ h => h)
              (yieldsIf_load_mid (by rfl) 42 _ rfl bl (ol + k * 36) rfl Cm _ (fun _ h => h.2) Try.underlying42 rfl HIM.out) hHeld ?_
            simp only [List.setIfInBounds_toArray, List.set_cons_zero, List.set_cons_succ]
            refine wpAnyH_ready (rs := [12]) (by kernel_rfl) (by simp) ?_
            refine AllReadyH.cons rfl (fun K hK => ?_) AllReadyH.nil
            rw [if_pos (by rfl)]
            go_simp
            refine (tsame_call (x := true) ⟨fun _ => sameT_refl _, fun _ => rfl⟩ (w := wr.drew) HTk.out HTm.out).mono ?_
            rintro e w10 ⟨rfl, hb10'⟩
            have hb10 := below_of_drew hb10'
            have HB10 := Lib.hid (below_call HV.out hb10 HV.out.size)
            clear hb10'
            refine hK.out _ _ (HS.out _ hb10) (fun hHeld2 => ?_)
            clear hK K hb10
            refine take_at (i := 13) (v := .bool false) rfl rfl (by kernel_rfl) (by kernel_rfl) (by kernel_rfl) (fun _ _ _ h => h) (Or.inl ⟨by rfl, fun w hw => ?_⟩) hHeld2 ?_
            · go_simp
            simp only [List.setIfInBounds_toArray, List.set_cons_zero, List.set_cons_succ]
            refine take_at (i := 14) (v := .bool false) rfl rfl (by kernel_rfl) (by kernel_rfl) (by kernel_rfl) (fun _ _ _ h => h) (Or.inl ⟨by rfl, fun w hw => ?_⟩) hHeld2 ?_
            · go_simp
            simp only [List.setIfInBounds_toArray, List.set_cons_zero, List.set_cons_succ]
            refine wpAnyH_done (by kernel_rfl) ?_ _
            go_wp2
            go_roundw
            case rel => exact ⟨k + 1, by omega, by go_num, HB10⟩
            case measure => simp [intOf]; omega
        · have hki : ¬ (k : Int) < (l.length : Int) := by omega
          go_wp2
          go_ret
          exact ⟨rfl, HBV.out⟩
end Go.Proofs.Ytpkelneimjmmkaa

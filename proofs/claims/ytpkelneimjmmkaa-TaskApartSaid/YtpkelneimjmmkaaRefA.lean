/- The contract of the reference's rest. -/
import Derived.Test.YtpkelneimjmmkaaTaskG
namespace Go.Proofs.Ytpkelneimjmmkaa
open Go.RowKit

/-- The task in its cell, at a turn of rest's loop. -/
structure RestRel (w : World) (cv : Value) (code : List Insn) (t t' : Tsk) (wr : World) : Prop where
  box : Box wr w.heap.size 42 (tcells cv t')
  res : ∃ z, Box wr (w.heap.size + 1) 42 z ∧ z.size = 36
  ok : t'.ok
  below : Below w.heap.size w wr
  same : rest code t' = rest code t
theorem RestRel.kept {w : World} {cv : Value} {code : List Insn} {t t' : Tsk} {wr w' : World} (h : RestRel w cv code t t' wr) (hb : Below wr.heap.size wr w') : RestRel w cv code t t' w' := by
  obtain ⟨h1, ⟨z, h2, hz⟩, h3, h4, h5⟩ := h
  exact ⟨h1.kept hb, ⟨z, h2.kept hb, hz⟩, h3, below_call h4 hb h4.size, h5⟩
theorem RestRel.set {w : World} {cv : Value} {code : List Insn} {t t' t2 : Tsk} {wr : World} (h : RestRel w cv code t t' wr) (i : Nat) (u : Value) (hc : (tcells cv t').setIfInBounds i u = tcells cv t2) (hok : t2.ok) (hs : rest code t2 = rest code t) :
    RestRel w cv code t t2 (wr.setCell ⟨w.heap.size, i, none⟩ u) := by
  obtain ⟨h1, ⟨z, h2, hz⟩, h3, h4, h5⟩ := h
  have hb := h1.set_ i u
  rw [hc] at hb
  exact ⟨hb, ⟨z, h2.far (p := ⟨w.heap.size, i, none⟩) (by simp) _, hz⟩, hok, h4.setCell (p := ⟨w.heap.size, i, none⟩) (Nat.le_refl _) _, hs⟩

theorem RestRel.set2 {w : World} {cv : Value} {code : List Insn} {t t' t2 : Tsk} {wr : World} (h : RestRel w cv code t t' wr) (i j : Nat) (u v : Value) (hc : ((tcells cv t').setIfInBounds i u).setIfInBounds j v = tcells cv t2) (hok : t2.ok) (hs : rest code t2 = rest code t) :
    RestRel w cv code t t2 ((wr.setCell ⟨w.heap.size, i, none⟩ u).setCell ⟨w.heap.size, j, none⟩ v) := by
  obtain ⟨h1, ⟨z, h2, hz⟩, h3, h4, h5⟩ := h
  have hb := (h1.set_ i u).set_ j v
  rw [hc] at hb
  exact ⟨hb, ⟨z, (h2.far (p := ⟨w.heap.size, i, none⟩) (by simp) _).far (p := ⟨w.heap.size, j, none⟩) (by simp) _, hz⟩, hok, (h4.setCell (p := ⟨w.heap.size, i, none⟩) (Nat.le_refl _) _).setCell (p := ⟨w.heap.size, j, none⟩) (Nat.le_refl _) _, hs⟩

set_option maxHeartbeats 8000000 in
set_option maxRecDepth 20000 in
theorem refRest_call {cv : Value} {code : List Insn} {t : Tsk} {w : World} (hs : Sane code) (hI : Inss w cv code) (ht : t.ok) (hone : cv.oneCell' = true) :
    Calls Try.prog 79 #[.agg (tcells cv t)] w (TskPost cv (rest code t) w) := by
  obtain ⟨A, c, hcv, hc1, hc2, _⟩ := hI.1.form
  unfold maxLen at hc2
  have HS := Lib.hid hs
  have HI := Lib.hid hI
  have hsl : code.length ≤ 200 := hs.2.2
  have HT := Lib.hid ht
  have HCV := Lib.hid hcv
  clear hs hI ht hcv
  go_enter Try.func79, Try.ntmps79
  go_wp2_with fail
  refine wp_at fun W0 hW0 => ?_
  have hR0 : RestRel w cv code t t W0 := by
    rw [hW0]
    exact ⟨(Box.new _ _ _).alloc _, ⟨_, Box.at_ (by simp) _ _, rfl⟩, HT.out, ((Below.refl _ w).alloc (Nat.le_refl _) _).alloc (by simp) _, rfl⟩
  have HR0 := Lib.hid hR0
  clear hW0 hR0
  go_loopw [] (fun wr => ∃ t', Hid (RestRel w cv code t t' wr)) (fun wr => roundsLeft code w.heap.size wr)
  case atStart => exact ⟨t, HR0⟩
  case round =>
    obtain ⟨t', HR⟩ := hrel
    clear HR0
    have h32 := HR.out.ok.1
    have hpc := HR.out.ok.2.2.1
    obtain ⟨z, hbr, hz⟩ := HR.out.res
    have BR := Lib.hid hbr
    have e34 := (HR.out.box.cell 34).trans (tcells_34 h32)
    have e1 := (HR.out.box.cell 1).trans tcells_1
    have e0 := (HR.out.box.cell 0).trans tcells_0
    have e34f := HR.out.box.frozen 34
    have e35f := HR.out.box.frozen 35
    have e1f := HR.out.box.frozen 1
    have e35 := (HR.out.box.cell 35).trans (tcells_35 h32)
    rw [HCV.out] at e0
    -- whoever ends here hands back the task that is in the cell
    have FIN : Hid (∀ t2 wr2, RestRel w cv code t t2 wr2 → rest code t2 = t2 → TskPost cv (rest code t) w (.returned (.agg (tcells cv t2))) (wr2.setRow (w.heap.size + 1) (tcells cv t2)) ∧ Box wr2 w.heap.size 42 (tcells cv t2) ∧
        (tcells cv t2).size = 36 ∧ (tcells cv t2).all (·.oneCell') = true ∧ ∃ z, Box wr2 (w.heap.size + 1) 42 z ∧ z.size = 36) := Lib.hid fun t2 wr2 h h2 =>
      ⟨⟨by rw [← h.same, h2], below_row h.below (by omega) _⟩, h.box, tcells_size h.ok.1, tcells_one hone, h.res⟩
    clear hbr
    by_cases hd : t'.done = true
    · rw [hd] at e34
      obtain ⟨f1, f2, f3, f4, _⟩ := FIN.out t' wr HR.out (rest_done hd)
      generalize tcells cv t' = C at *
      have F1 := Lib.hid f1
      have F2 := Lib.hid f2
      have F3 := Lib.hid f3
      have F4 := Lib.hid f4
      clear hd f1 f2 f3 f4 FIN
      go_wp2_with (first | with_reducible refine load_stop rfl 42 _ rfl ?_ | with_reducible refine store_stop rfl 42 _ _ rfl ?_)
      refine AtLoad.go w.heap.size rfl F2.out Try.underlying42 rfl (size_task' F3.out) ?_
      go_wp2_with (first | with_reducible refine load_stop rfl 42 _ rfl ?_ | with_reducible refine store_stop rfl 42 _ _ rfl ?_)
      refine AtStore.go (w.heap.size + 1) rfl rfl BR.out (size_task' F3.out) (by rw [hz, F3.out]) F4.out ?_
      go_wp2
      exact bodyPost_ret (results_cell_row Try.results79 _ _ (w.heap.size + 1) 42 _ (0, 0) _ rfl (BR.out.row _) Try.underlying42 rfl (size_task' F3.out)) rfl F1.out
    · have hd' : t'.done = false := by simpa using hd
      rw [hd'] at e34
      have HD := Lib.hid hd'
      clear hd hd'
      by_cases hin : 0 ≤ t'.pc ∧ t'.pc < (code.length : Int)
      · obtain ⟨hp0, hp1⟩ := hin
        obtain ⟨pc, hpce⟩ := Int.eq_ofNat_of_zero_le hp0
        have hpl : pc < code.length := by omega
        have hI' := HI.out.below HR.out.below
        rw [HCV.out] at hI'
        obtain ⟨b, off, rfl, hbl, c0, c1, c2, c3, c4⟩ := hI'.at_ rfl hpl
        have hxo := insn_ok HI.out.2 pc hpl
        have hxs := HS.out.1 pc hpl
        have hxe : code.getD t'.pc.toNat insn0 = code.getD pc insn0 := by rw [hpce]; rfl
        generalize hx : code.getD pc insn0 = x at *
        rw [hpce] at e1
        have HX := Lib.hid hxe
        have HPC := Lib.hid hpce
        have HXO := Lib.hid hxo
        have HXS := Lib.hid hxs
        clear hI' hxe hx hp1 hxo hxs
        have hneg : ¬ (pc : Int) < 0 := by omega
        have hge : ¬ (code.length : Int) ≤ (pc : Int) := by omega
        have hlt : (pc : Int) < (code.length : Int) := by omega
        have HO : Hid (∀ o, RestRel w cv code t t' (wr.alloc o)) := Lib.hid fun o => HR.out.kept ((Below.refl _ wr).alloc (Nat.le_refl _) o)
        have BO : Hid (∀ o, Box (wr.alloc o) (w.heap.size + 1) 42 z) := Lib.hid fun o => BR.out.alloc o
        by_cases hk : x.k ≤ 2
        · have hr := rest_at (code := code) HD.out hp0 (by rw [HPC.out]; omega) (by rw [HX.out]; exact hk)
          have F1 := Lib.hid fun o => (FIN.out t' _ (HO.out o) hr).1
          have F2 := Lib.hid fun o => (HO.out o).box
          have F3 := Lib.hid (tcells_size (cv := cv) h32)
          have F4 := Lib.hid (tcells_one (t := t') hone)
          have F5 := BO
          generalize tcells cv t' = C at *
          clear hr FIN HO BO
          go_wp2_with (first | with_reducible refine load_stop rfl 42 _ rfl ?_ | with_reducible refine store_stop rfl 42 _ _ rfl ?_)
          refine AtLoad.go w.heap.size rfl (F2.out _) Try.underlying42 rfl (size_task' F3.out) ?_
          go_wp2_with (first | with_reducible refine load_stop rfl 42 _ rfl ?_ | with_reducible refine store_stop rfl 42 _ _ rfl ?_)
          refine AtStore.go (w.heap.size + 1) rfl rfl (F5.out _) (size_task' F3.out) (by rw [hz, F3.out]) F4.out ?_
          go_wp2
          exact bodyPost_ret (results_cell_row Try.results79 _ _ (w.heap.size + 1) 42 _ (0, 0) _ rfl ((F5.out _).row _) Try.underlying42 rfl (size_task' F3.out)) rfl (F1.out _)
        · by_cases h6 : x.k = 6
          · have hb : byItself t' x = { t' with done := true, ans := s64 x.a } := by unfold byItself; rw [if_pos h6]
            have hrs : rest code { t' with done := true, ans := s64 x.a } = rest code t := by
              rw [← HR.out.same, rest_on HS.out HD.out hp0 (by rw [HPC.out]; omega) (by rw [HX.out]; exact hk), HX.out, hb]
            have hconv : IntKind.i64.wrap x.a = s64 x.a := by rw [IntKind.wrap_i64]; rfl
            have hset := fun o => (HO.out o).set2 (t2 := { t' with done := true, ans := s64 x.a }) 34 35 (.bool true) (.int .i64 (s64 x.a)) (by rw [tcells_set_34 h32, tcells_set_35 (t := { t' with done := true }) h32]) ⟨h32, HR.out.ok.2.1, HR.out.ok.2.2.1, s64_ok _⟩ hrs
            have F1 := Lib.hid fun o => (FIN.out _ _ (hset o) (rest_done rfl)).1
            have F2 := Lib.hid fun o => (hset o).box
            have F3 := Lib.hid (tcells_size (cv := cv) (t := { t' with done := true, ans := s64 x.a }) h32)
            have F4 := Lib.hid (tcells_one (t := { t' with done := true, ans := s64 x.a }) hone)
            have F5 : Hid (∀ o, Box (((wr.alloc o).setCell ⟨w.heap.size, 34, none⟩ (.bool true)).setCell ⟨w.heap.size, 35, none⟩ (.int .i64 (s64 x.a))) (w.heap.size + 1) 42 z) := Lib.hid fun o => ((BO.out o).far (p := ⟨w.heap.size, 34, none⟩) (by simp) _).far (p := ⟨w.heap.size, 35, none⟩) (by simp) _
            generalize tcells cv { t' with done := true, ans := s64 x.a } = C at *
            rw [h6] at c0
            have g34 : ∀ o, (wr.alloc o).frozen? ⟨w.heap.size, 34, none⟩ = false := fun o => (HO.out o).box.frozen 34
            have g35 : ∀ o, (wr.alloc o).frozen? ⟨w.heap.size, 35, none⟩ = false := fun o => (HO.out o).box.frozen 35
            have k34 : ∀ o, (wr.alloc o).cell? ⟨w.heap.size, 34, none⟩ = some (.bool false) := fun o => by rw [(HO.out o).box.cell 34, tcells_34 h32, HD.out]
            have k35 : ∀ o, (wr.alloc o).cell? ⟨w.heap.size, 35, none⟩ = some (.int .i64 t'.ans) := fun o => by rw [(HO.out o).box.cell 35, tcells_35 h32]
            clear hb hrs hset FIN HO BO hk h6
            go_wp2_with (first | with_reducible refine load_stop rfl 42 _ rfl ?_ | with_reducible refine store_stop rfl 42 _ _ rfl ?_)
            refine AtLoad.go w.heap.size rfl (F2.out _) Try.underlying42 rfl (size_task' F3.out) ?_
            go_wp2_with (first | with_reducible refine load_stop rfl 42 _ rfl ?_ | with_reducible refine store_stop rfl 42 _ _ rfl ?_)
            refine AtStore.go (w.heap.size + 1) rfl rfl (F5.out _) (size_task' F3.out) (by rw [hz, F3.out]) F4.out ?_
            go_wp2
            exact bodyPost_ret (results_cell_row Try.results79 _ _ (w.heap.size + 1) 42 _ (0, 0) _ rfl ((F5.out _).row _) Try.underlying42 rfl (size_task' F3.out)) rfl (F1.out _)
          · have hk5 : x.k ≤ 5 := by have := HXS.out.2.1; omega
            have hk3 : 3 ≤ x.k := by omega
            have hk2 : ¬ x.k ≤ 2 := hk
            obtain ⟨s0, s1, s2, s3, s4, s5⟩ := HXS.out
            have hst := rest_on HS.out HD.out hp0 (by rw [HPC.out]; omega) (by rw [HX.out]; exact hk)
            rw [HX.out, HR.out.same] at hst
            have hms := byItself_left HS.out hp0 (by rw [HPC.out]; omega) HD.out
            rw [HX.out] at hms
            have HST := Lib.hid hst
            have HMS := Lib.hid hms
            have HSZ := Lib.hid (tcells_size (cv := cv) h32)
            have BX : Hid (∀ o, Box (wr.alloc o) w.heap.size 42 (tcells cv t')) := Lib.hid fun o => (HO.out o).box
            have HH32 := Lib.hid h32
            generalize hC : tcells cv t' = C at *
            have HC := Lib.hid hC
            clear hst hms hC FIN
            go_wp2_with (first | with_reducible refine load_stop rfl 42 _ rfl ?_ | with_reducible refine store_stop rfl 42 _ _ rfl ?_)
            refine AtLoad.go w.heap.size rfl (BX.out _) Try.underlying42 rfl (size_task' HSZ.out) ?_
            go_wp2_with (first | with_reducible refine load_stop rfl 42 _ rfl ?_ | with_reducible refine store_stop rfl 42 _ _ rfl ?_)
            rw [← HC.out]
            refine calls_at fun W2 hW2 => ?_
            have hR2 : RestRel w cv code t t' W2 := by rw [hW2]; exact HO.out _
            have hx2 : Box W2 wr.heap.size 55 #[.int .i64 x.k, .int .i64 x.i, .int .i64 x.r, .int .i64 x.to, .int .u64 x.a] := by rw [hW2]; exact Box.new _ _ _
            clear hW2 HO BO BX e34 e35 e1 e0 e34f e35f e1f c0 c1 c2 c3 c4
            refine (refJump_call (x := x) HR.out.ok s2 s3 hk3 hk5).mono ?_
            rintro e w3 ⟨rfl, hb3⟩
            have hR3 := hR2.kept hb3
            have x3 := (hx2.kept hb3).cell 3
            simp only [List.getElem?_toArray, List.getElem?_cons_zero, List.getElem?_cons_succ] at x3
            have d1 := (hR3.box.cell 1).trans tcells_1
            have d1f := hR3.box.frozen 1
            rw [HPC.out] at d1
            have HR3 := Lib.hid hR3
            have hgl : w.heap.size < w3.heap.size := hR3.box.lt
            clear hR2 hx2 hb3 hR3
            by_cases hj : jumpB t'.regs x = true
            · rw [hj]
              have hb : byItself t' x = { t' with pc := x.to } := by unfold byItself; rw [if_neg h6, if_pos hj]
              have hset := HR3.out.set (t2 := byItself t' x) 1 (.int .i64 x.to) (by rw [tcells_set_1, hb]) (by rw [hb]; exact ⟨HR3.out.ok.1, HR3.out.ok.2.1, HXO.out.2.2.2.1, HR3.out.ok.2.2.2⟩) HST.out.symm
              have HSET := Lib.hid hset
              clear hset hb hj
              go_wp2
              go_roundw
              case rel => exact ⟨byItself t' x, HSET⟩
              case measure => rw [roundsLeft_eq HSET.out.box HSET.out.ok.1, roundsLeft_eq HR.out.box HH32.out]; exact HMS.out
            · have hj' : jumpB t'.regs x = false := by simpa using hj
              rw [hj']
              have hb : byItself t' x = { t' with pc := (pc : Int) + 1 } := by unfold byItself; rw [if_neg h6, if_neg hj, HPC.out]
              have hwr : IntKind.i64.wrap ((pc : Int) + 1) = (pc : Int) + 1 := by rw [IntKind.wrap_i64]; omega
              have hset := HR3.out.set (t2 := byItself t' x) 1 (.int .i64 ((pc : Int) + 1)) (by rw [tcells_set_1, hb]) (by rw [hb]; exact ⟨HR3.out.ok.1, HR3.out.ok.2.1, ⟨by simp only; omega, by simp only; omega⟩, HR3.out.ok.2.2.2⟩) HST.out.symm
              have HSET := Lib.hid hset
              clear hset hb hj hj'
              go_wp2
              go_roundw
              case rel => exact ⟨byItself t' x, HSET⟩
              case measure => rw [roundsLeft_eq HSET.out.box HSET.out.ok.1, roundsLeft_eq HR.out.box HH32.out]; exact HMS.out
      · have hrs : rest code t' = { t' with done := true, ans := -1 } := rest_out HD.out (by omega)
        have hrs2 : rest code { t' with done := true, ans := -1 } = rest code t := by
          rw [rest_done rfl, ← hrs]; exact HR.out.same
        have hset := HR.out.set2 (t2 := { t' with done := true, ans := -1 }) 34 35 (.bool true) (.int .i64 (-1)) (by rw [tcells_set_34 h32, tcells_set_35 (t := { t' with done := true }) h32]) ⟨h32, HR.out.ok.2.1, HR.out.ok.2.2.1, by unfold I64; constructor <;> (simp only; omega)⟩ hrs2
        have F1 := Lib.hid (FIN.out _ _ hset (rest_done rfl)).1
        have F2 := Lib.hid hset.box
        have F3 := Lib.hid (tcells_size (cv := cv) (t := { t' with done := true, ans := -1 }) h32)
        have F4 := Lib.hid (tcells_one (t := { t' with done := true, ans := -1 }) hone)
        have F5 : Hid (Box ((wr.setCell ⟨w.heap.size, 34, none⟩ (.bool true)).setCell ⟨w.heap.size, 35, none⟩ (.int .i64 (-1))) (w.heap.size + 1) 42 z) := Lib.hid ((BR.out.far (p := ⟨w.heap.size, 34, none⟩) (by simp) _).far (p := ⟨w.heap.size, 35, none⟩) (by simp) _)
        generalize tcells cv { t' with done := true, ans := -1 } = C at *
        have hcase : t'.pc < 0 ∨ (¬ t'.pc < 0 ∧ (code.length : Int) ≤ t'.pc) := by omega
        clear hin hrs hrs2 hset FIN
        rcases hcase with hneg | ⟨hneg, hge⟩
        all_goals
          go_wp2_with (first | with_reducible refine load_stop rfl 42 _ rfl ?_ | with_reducible refine store_stop rfl 42 _ _ rfl ?_)
          refine AtLoad.go w.heap.size rfl F2.out Try.underlying42 rfl (size_task' F3.out) ?_
          go_wp2_with (first | with_reducible refine load_stop rfl 42 _ rfl ?_ | with_reducible refine store_stop rfl 42 _ _ rfl ?_)
          refine AtStore.go (w.heap.size + 1) rfl rfl F5.out (size_task' F3.out) (by rw [hz, F3.out]) F4.out ?_
          go_wp2
          exact bodyPost_ret (results_cell_row Try.results79 _ _ (w.heap.size + 1) 42 _ (0, 0) _ rfl (F5.out.row _) Try.underlying42 rfl (size_task' F3.out)) rfl F1.out
end Go.Proofs.Ytpkelneimjmmkaa

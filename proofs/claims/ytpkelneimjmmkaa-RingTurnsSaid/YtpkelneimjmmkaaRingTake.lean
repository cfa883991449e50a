/- A step of who takes. -/
import Derived.Test.YtpkelneimjmmkaaRingLay
namespace Go.Proofs.Ytpkelneimjmmkaa
open Go.RowKit

set_option maxHeartbeats 16000000 in
set_option maxRecDepth 20000 in
theorem taker_call {base g b c s : Nat} {w0 w : World} {p : Ply} {m : List Int} {L : List (Value × Int)} {D T : Nat} {lay take : FT} {ls ps : Nat} (h : PlayI base g w0 w b c s p m L D T lay take ls ps)
    (hb : b ≤ 100) (hc : 1 ≤ c) (hc' : c ≤ 8) (hs : s < 400) :
    Calls Try.prog 68 #[.pointer (some ⟨g, 0, none⟩)] w (fun e w' => e = .returned (.tuple #[]) ∧ ∃ p' m' L' D' T' lay' take' ls' ps', PlayI base g w0 w' b c (s + 1) p' m' L' D' T' lay' take' ls' ps') := by
  have HI := Lib.hid h
  have hi8 : (Try.prog.info? 42).map (·.size) = some p.l2.length := by rw [h.ply.len2]; exact size_task
  have HI8 := Lib.hid hi8
  clear hi8
  obtain ⟨X, hX⟩ : ∃ X, X = Mine g p.vl := ⟨_, rfl⟩
  have HT1 : Hid (OffT X w p.l2 take) := Lib.hid (by rw [hX]; exact h.t2)
  have HM : Hid (OffW X w p.vm m) := Lib.hid (by rw [hX]; exact h.mem)
  have hXB : ∀ k, X k → k < w.heap.size := by
    intro k hk
    rw [hX] at hk
    rcases hk with rfl | hk
    · exact h.ply.box.lt
    · exact (h.laid.row.lt k hk).2
  have HXB := Lib.hid hXB
  have HS : Hid (∀ W, Below w.heap.size w W → W.rangeAt g 43 p.l2 ∧ W.cell? ⟨g, 0, none⟩ = some p.vm) := Lib.hid fun W hW => by
    have hp := h.ply.kept hW
    exact ⟨hp.r2, hp.low 0 (by omega)⟩
  have HXX := Lib.hid hX
  clear hX hXB h
  go_enter Try.func68, Try.ntmps68
  go_upto_region 1 with fail
  go_cut [2, 3] (fun s2 v9 wx => ∃ (g12 : Nat) (cl : List Value), s2 = .pointer (some ⟨g12, 0, none⟩) ∧ Hid (Aft X w wx g12 cl v9 (stepT take m).1 (stepT take m).2))
  case first =>
    refine wp_region_held_drew (S := fun W => W.rangeAt g 43 p.l2 ∧ W.cell? ⟨g, 0, none⟩ = some p.vm) (by kernel_rfl) (HS.out w (Below.refl _ _)) (fun hHeld => ?_)
    refine take_at (i := 0) (v := .pointer (some ⟨g, 0, none⟩)) rfl rfl (by kernel_rfl) (by kernel_rfl) (by kernel_rfl) (fun _ _ _ h => h) (Or.inl ⟨by rfl, fun w hw => ?_⟩) hHeld ?_
    · go_simp
    simp only [List.setIfInBounds_toArray, List.set_cons_zero, List.set_cons_succ]
    refine take_at (i := 1) (v := .pointer (some ⟨g, 0, none⟩)) rfl rfl (by kernel_rfl) (by kernel_rfl) (by kernel_rfl) (fun _ _ _ h => h) (Or.inl ⟨by rfl, fun w hw => ?_⟩) hHeld ?_
    · go_simp
    simp only [List.setIfInBounds_toArray, List.set_cons_zero, List.set_cons_succ]
    refine take_at (i := 2) (v := .pointer (some ⟨g, 43, none⟩)) rfl rfl (by kernel_rfl) (by kernel_rfl) (by kernel_rfl) (fun _ _ _ h => h) (Or.inl ⟨by rfl, fun w hw => ?_⟩) hHeld ?_
    · go_simp
    simp only [List.setIfInBounds_toArray, List.set_cons_zero, List.set_cons_succ]
    refine take_at (i := 3) (v := .agg p.l2.toArray) rfl rfl (by kernel_rfl) (by kernel_rfl) (by kernel_rfl) (fun _ _ _ h => h)
      (yieldsIf_load_mid (by rfl) 42 _ rfl g (43) rfl p.l2 _ (fun _ h => h.1) Try.underlying42 rfl HI8.out) hHeld ?_
    simp only [List.setIfInBounds_toArray, List.set_cons_zero, List.set_cons_succ]
    refine take_at (i := 4) (v := .pointer (some ⟨g, 0, none⟩)) rfl rfl (by kernel_rfl) (by kernel_rfl) (by kernel_rfl) (fun _ _ _ h => h) (Or.inl ⟨by rfl, fun w hw => ?_⟩) hHeld ?_
    · go_simp
    simp only [List.setIfInBounds_toArray, List.set_cons_zero, List.set_cons_succ]
    refine take_at (i := 5) (v := .pointer (some ⟨g, 0, none⟩)) rfl rfl (by kernel_rfl) (by kernel_rfl) (by kernel_rfl) (fun _ _ _ h => h) (Or.inl ⟨by rfl, fun w hw => ?_⟩) hHeld ?_
    · go_simp
    simp only [List.setIfInBounds_toArray, List.set_cons_zero, List.set_cons_succ]
    refine take_at (i := 6) (v := .pointer (some ⟨g, 0, none⟩)) rfl rfl (by kernel_rfl) (by kernel_rfl) (by kernel_rfl) (fun _ _ _ h => h) (Or.inl ⟨by rfl, fun w hw => ?_⟩) hHeld ?_
    · go_simp
    simp only [List.setIfInBounds_toArray, List.set_cons_zero, List.set_cons_succ]
    refine take_at (i := 7) (v := p.vm) rfl rfl (by kernel_rfl) (by kernel_rfl) (by kernel_rfl) (fun _ _ _ h => h) (Or.inl ⟨by rfl, fun w hw => ?_⟩) hHeld ?_
    · have h0 := hw.2; go_simp
    simp only [List.setIfInBounds_toArray, List.set_cons_zero, List.set_cons_succ]
    refine any_at fun W6 hW6 => ?_
    have HD0 : Hid (Below w.heap.size w W6) := Lib.hid (by rw [hW6]; exact ⟨rfl, rfl, rfl, Nat.le_refl _, fun _ _ => rfl⟩)
    replace hHeld := HS.out _ HD0.out
    clear hW6
    refine wpAnyH_ready (rs := [8, 12]) (by kernel_rfl) (by simp) ?_
    refine AllReadyH.cons rfl (fun KQ hKQ => ?_) (AllReadyH.cons rfl (fun KQ hKQ => ?_) AllReadyH.nil)
    · go_simp
      refine (step_call (HT1.out.chg (Chg.of HD0.out)).task (HM.out.chg (Chg.of HD0.out)).words).mono ?_
      rintro e wb1 ⟨v8, v9, rfl, ht9, ho9, hb9⟩
      have hT9 := ht9 wb1 ((HT1.out.chg (Chg.of HD0.out)).chg (Chg.of hb9)).task
      obtain ⟨cl9, rfl, hsz9, hone9, _, _, _⟩ := hT9.list
      have HSZ9 := Lib.hid hsz9
      have HONE9 := Lib.hid hone9
      have HA9 := Lib.hid ht9
      have HM9 : Hid (Own wb1 w.heap.size v9 (stepT take m).2) := Lib.hid ⟨row_base ho9.1 HD0.out.size, ho9.2⟩
      have HD1 : Hid (Below w.heap.size w wb1) := Lib.hid (below_call HD0.out hb9 HD0.out.size)
      clear ht9 ho9 hT9 hsz9 hone9
      refine hKQ.out _ _ (HS.out _ HD1.out) (fun hHeld => ?_)
      clear hKQ KQ hb9
      refine take_at (i := 9) (v := .tuple #[.agg cl9.toArray, v9]) rfl rfl (by kernel_rfl) (by kernel_rfl) (by kernel_rfl) (fun _ _ _ h => h) (Or.inl ⟨by rfl, fun w hw => ?_⟩) hHeld ?_
      · go_simp
      simp only [List.setIfInBounds_toArray, List.set_cons_zero, List.set_cons_succ]
      refine take_at (i := 10) (v := .agg cl9.toArray) rfl rfl (by kernel_rfl) (by kernel_rfl) (by kernel_rfl) (fun _ _ _ h => h) (Or.inl ⟨by rfl, fun w hw => ?_⟩) hHeld ?_
      · go_simp
      simp only [List.setIfInBounds_toArray, List.set_cons_zero, List.set_cons_succ]
      refine take_at (i := 11) (v := v9) rfl rfl (by kernel_rfl) (by kernel_rfl) (by kernel_rfl) (fun _ _ _ h => h) (Or.inl ⟨by rfl, fun w hw => ?_⟩) hHeld ?_
      · go_simp
      simp only [List.setIfInBounds_toArray, List.set_cons_zero, List.set_cons_succ]
      refine wpAnyH_ready (rs := [12]) (by kernel_rfl) (by simp) ?_
      refine AllReadyH.cons rfl (fun KQ hKQ => ?_) AllReadyH.nil
      go_simp
      refine hKQ.out _ _ (HS.out _ (HD1.out.alloc HD1.out.size _)) (fun hHeld0 => ?_)
      clear hKQ KQ hHeld0
      refine any_at fun wb2 hwb2 => ?_
      have hxz : ∃ Z, Box wb2 wb1.heap.size 42 Z ∧ Z.size = 36 := by rw [hwb2]; exact ⟨_, Box.new _ _ _, rfl⟩
      obtain ⟨Z12, hxz1, hxz2⟩ := hxz
      have HX12 := Lib.hid hxz1
      have HZ12 := Lib.hid hxz2
      have HD2 : Hid (Below w.heap.size w wb2) := Lib.hid (by rw [hwb2]; exact HD1.out.alloc HD1.out.size _)
      have HG12 : Hid (w.heap.size ≤ wb1.heap.size) := Lib.hid HD1.out.size
      have HNE : Hid (∀ k, v9.ownBlock = some k → k ≠ wb1.heap.size) := Lib.hid (fun k hk => by have := (HM9.out.1.lt k hk).2; omega)
      replace HM9 : Hid (Own wb2 w.heap.size v9 (stepT take m).2) := Lib.hid (by rw [hwb2]; exact ⟨HM9.out.1.alloc _, HM9.out.2⟩)
      have hHeld := HS.out _ HD2.out
      clear hwb2 hxz1 hxz2
      generalize wb1.heap.size = g12 at *
      refine wpAnyH_ready (rs := [13]) (by kernel_rfl) (by simp) ?_
      refine AllReadyH.cons rfl (fun KQ hKQ => ?_) AllReadyH.nil
      rw [if_pos (by rfl)]
      refine wp_store_mid 42 _ _ rfl g12 0 cl9.toArray rfl rfl (HX12.out.thereAll (by simp [HSZ9.out, HZ12.out])) (by rw [List.size_toArray, HSZ9.out]; exact size_task) HONE9.out ?_
      have hbx : Box (wb2.setCells g12 0 cl9) g12 42 cl9.toArray := HX12.out.setCells_all (by simp [HSZ9.out, HZ12.out])
      have hbf : Below w.heap.size w (wb2.setCells g12 0 cl9) := Below.setCells HD2.out HD2.out.size HG12.out _ _
      have hot : OffT X (wb2.setCells g12 0 cl9) cl9 (stepT take m).1 := (HT1.out.chg (Chg.of hbf)).step HA9.out
      have hom : OffW X (wb2.setCells g12 0 cl9) v9 (stepT take m).2 := OffW.new (own_setCells_off HM9.out HNE.out _ _) HXB.out
      refine hKQ.out _ _ (HS.out _ hbf) (fun hHeld => ?_)
      clear hKQ KQ
      refine wpAnyH_ready (rs := [14]) (by kernel_rfl) (by simp) ?_
      refine AllReadyH.cons rfl (fun KQ hKQ => ?_) AllReadyH.nil
      go_simp
      refine hKQ.out _ _ (HS.out _ hbf) (fun hHeld => ?_)
      clear hKQ KQ
      refine wpAnyH_done (by kernel_rfl) ?_ _
      have HAFT := Lib.hid (Aft.mk hbx HSZ9.out HONE9.out hot hom hbf HG12.out)
      clear hbx hbf hot hom
      go_wp2_with fail
      go_meet
      case rel => exact ⟨g12, cl9, rfl, HAFT⟩
    · go_simp
      refine hKQ.out _ _ (HS.out _ (HD0.out.alloc HD0.out.size _)) (fun hHeld0 => ?_)
      clear hKQ KQ hHeld0
      refine any_at fun wb1 hwb1 => ?_
      have hxz : ∃ Z, Box wb1 W6.heap.size 42 Z ∧ Z.size = 36 := by rw [hwb1]; exact ⟨_, Box.new _ _ _, rfl⟩
      obtain ⟨Z12, hxz1, hxz2⟩ := hxz
      have HX12 := Lib.hid hxz1
      have HZ12 := Lib.hid hxz2
      have HD1 : Hid (Below w.heap.size w wb1) := Lib.hid (by rw [hwb1]; exact HD0.out.alloc HD0.out.size _)
      have HG12 : Hid (w.heap.size ≤ W6.heap.size) := Lib.hid HD0.out.size
      have hHeld := HS.out _ HD1.out
      clear hwb1 hxz1 hxz2
      generalize W6.heap.size = g12 at *
      refine wpAnyH_ready (rs := [8]) (by kernel_rfl) (by simp) ?_
      refine AllReadyH.cons rfl (fun KQ hKQ => ?_) AllReadyH.nil
      go_simp
      refine (step_call (HT1.out.chg (Chg.of HD1.out)).task (HM.out.chg (Chg.of HD1.out)).words).mono ?_
      rintro e wb2 ⟨v8, v9, rfl, ht9, ho9, hb9⟩
      have hT9 := ht9 wb2 ((HT1.out.chg (Chg.of HD1.out)).chg (Chg.of hb9)).task
      obtain ⟨cl9, rfl, hsz9, hone9, _, _, _⟩ := hT9.list
      have HSZ9 := Lib.hid hsz9
      have HONE9 := Lib.hid hone9
      have HA9 := Lib.hid ht9
      have HM9 : Hid (Own wb2 w.heap.size v9 (stepT take m).2) := Lib.hid ⟨row_base ho9.1 HD1.out.size, ho9.2⟩
      have HD2 : Hid (Below w.heap.size w wb2) := Lib.hid (below_call HD1.out hb9 HD1.out.size)
      have HNE : Hid (∀ k, v9.ownBlock = some k → k ≠ g12) := Lib.hid (fun k hk => by have h1 := (ho9.1.lt k hk).1; have h2 := HX12.out.lt; omega)
      replace HX12 := Lib.hid (HX12.out.kept hb9)
      clear ht9 ho9 hT9 hsz9 hone9
      refine hKQ.out _ _ (HS.out _ HD2.out) (fun hHeld => ?_)
      clear hKQ KQ hb9
      refine take_at (i := 9) (v := .tuple #[.agg cl9.toArray, v9]) rfl rfl (by kernel_rfl) (by kernel_rfl) (by kernel_rfl) (fun _ _ _ h => h) (Or.inl ⟨by rfl, fun w hw => ?_⟩) hHeld ?_
      · go_simp
      simp only [List.setIfInBounds_toArray, List.set_cons_zero, List.set_cons_succ]
      refine take_at (i := 10) (v := .agg cl9.toArray) rfl rfl (by kernel_rfl) (by kernel_rfl) (by kernel_rfl) (fun _ _ _ h => h) (Or.inl ⟨by rfl, fun w hw => ?_⟩) hHeld ?_
      · go_simp
      simp only [List.setIfInBounds_toArray, List.set_cons_zero, List.set_cons_succ]
      refine take_at (i := 11) (v := v9) rfl rfl (by kernel_rfl) (by kernel_rfl) (by kernel_rfl) (fun _ _ _ h => h) (Or.inl ⟨by rfl, fun w hw => ?_⟩) hHeld ?_
      · go_simp
      simp only [List.setIfInBounds_toArray, List.set_cons_zero, List.set_cons_succ]
      refine wpAnyH_ready (rs := [13]) (by kernel_rfl) (by simp) ?_
      refine AllReadyH.cons rfl (fun KQ hKQ => ?_) AllReadyH.nil
      rw [if_pos (by rfl)]
      refine wp_store_mid 42 _ _ rfl g12 0 cl9.toArray rfl rfl (HX12.out.thereAll (by simp [HSZ9.out, HZ12.out])) (by rw [List.size_toArray, HSZ9.out]; exact size_task) HONE9.out ?_
      have hbx : Box (wb2.setCells g12 0 cl9) g12 42 cl9.toArray := HX12.out.setCells_all (by simp [HSZ9.out, HZ12.out])
      have hbf : Below w.heap.size w (wb2.setCells g12 0 cl9) := Below.setCells HD2.out HD2.out.size HG12.out _ _
      have hot : OffT X (wb2.setCells g12 0 cl9) cl9 (stepT take m).1 := (HT1.out.chg (Chg.of hbf)).step HA9.out
      have hom : OffW X (wb2.setCells g12 0 cl9) v9 (stepT take m).2 := OffW.new (own_setCells_off HM9.out HNE.out _ _) HXB.out
      refine hKQ.out _ _ (HS.out _ hbf) (fun hHeld => ?_)
      clear hKQ KQ
      refine wpAnyH_ready (rs := [14]) (by kernel_rfl) (by simp) ?_
      refine AllReadyH.cons rfl (fun KQ hKQ => ?_) AllReadyH.nil
      go_simp
      refine hKQ.out _ _ (HS.out _ hbf) (fun hHeld => ?_)
      clear hKQ KQ
      refine wpAnyH_done (by kernel_rfl) ?_ _
      have HAFT := Lib.hid (Aft.mk hbx HSZ9.out HONE9.out hot hom hbf HG12.out)
      clear hbx hbf hot hom
      go_wp2_with fail
      go_meet
      case rel => exact ⟨g12, cl9, rfl, HAFT⟩
  case rest =>
    obtain ⟨g12, cl9, rfl, HA⟩ := hcut
    obtain ⟨hps, hlaw⟩ := rt_taker hb hc hc' HI.out.law
    rw [List.length_map] at hlaw
    have hne : g12 ≠ g := by have h1 := HI.out.ply.box.lt; have h2 := HA.out.new; omega
    have hgl : g < w.heap.size := HI.out.ply.box.lt
    have HPL : Hid (PlyB wc g p) := Lib.hid (HI.out.ply.kept HA.out.below)
    obtain ⟨_, _, x34, x35⟩ := HA.out.task.size
    obtain ⟨A9, p9, hv9, _, _⟩ := row_form HA.out.mem.1.1
    subst hv9
    have HLAW := Lib.hid hlaw
    have HNE := Lib.hid hne
    have HGL := Lib.hid hgl
    have HPS := Lib.hid hps
    generalize hTT : (stepT take m).1 = T9 at *
    generalize hMM : (stepT take m).2 = m9 at *
    clear hlaw hTT hMM hps hgl
    go_wp2_with (first | with_reducible refine mid_stop 42 _ rfl ?_ | with_reducible refine storeM_stop rfl 42 _ _ rfl ?_)
    refine AtMid.go rfl g12 0 rfl HA.out.box.range Try.underlying42 rfl (by rw [HA.out.len]; exact size_task) ?_
    go_wp2_with (first | with_reducible refine mid_stop 42 _ rfl ?_ | with_reducible refine storeM_stop rfl 42 _ _ rfl ?_)
    refine AtStoreM.go g 43 (cs := cl9) rfl rfl (HPL.out.t2 HA.out.len) (by rw [HA.out.len]; exact size_task) HA.out.one ?_
    refine wpl_at fun W1 hW1 => ?_
    have PB1 : Hid (PlyB W1 g { p with l2 := cl9 }) := Lib.hid (by rw [hW1]; exact HPL.out.set2 HA.out.len)
    have BX1 : Hid (Box W1 g12 42 cl9.toArray) := Lib.hid (by rw [hW1]; exact HA.out.box.chg (X := (· = g)) (Chg.setCells (X := (· = g)) rfl 43 cl9) HNE.out)
    have CH1 : Hid (Chg (· = g) wc W1) := Lib.hid (by rw [hW1]; exact Chg.setCells (X := (· = g)) rfl 43 cl9)
    clear hW1
    have c80 : W1.cell? ⟨g, 80, none⟩ = some (.int .i64 (ps : Int)) := (PB1.out.high 1).trans (by simp [HI.out.pops_is])
    have c81 : W1.cell? ⟨g, 81, none⟩ = some (.bool true) := (PB1.out.high 2).trans (by simp [HI.out.ok_is])
    have c0 : W1.cell? ⟨g, 0, none⟩ = some p.vm := PB1.out.low 0 (by omega)
    have f0 := PB1.out.fz 0
    have f80 := PB1.out.fz 80
    have f81 := PB1.out.fz 81
    have d34 : W1.cell? ⟨g12, 34, none⟩ = some (.bool T9.t.done) := (BX1.out.cell 34).trans (by simpa using x34)
    have hw80 : IntKind.i64.wrap ((ps : Int) + 1) = ((ps : Int) + 1) := by have := HPS.out; rw [IntKind.wrap_i64]; omega
    have hl8 : decide (((ps : Int) + 1) ≤ 8) = true := decide_eq_true (by have := HPS.out; omega)
    clear x34 x35
    rcases HLAW.out with ⟨hd, hrt⟩ | ⟨hd, hB, hTL, hlt, hrt⟩ | ⟨hd, hB, hrt⟩
    · rw [hd] at d34
      have HRT := Lib.hid hrt
      clear hd hrt
      have HF : Hid (PlayI base g w0 (((W1.setCell ⟨g, 0, none⟩ (.slice A9 m9.length p9)).setCell ⟨g, 80, none⟩ (.int .i64 ((ps : Int) + 1))).setCell ⟨g, 81, none⟩ (.bool true)) b c (s + 1) { p with l2 := cl9, vm := .slice A9 m9.length p9, pops := ((ps : Int) + 1), ok := true } m9 L D T lay T9 ls (ps + 1)) := Lib.hid (by
        have hch : Chg (· = g) W1 (((W1.setCell ⟨g, 0, none⟩ (.slice A9 m9.length p9)).setCell ⟨g, 80, none⟩ (.int .i64 ((ps : Int) + 1))).setCell ⟨g, 81, none⟩ (.bool true)) := ((Chg.setCell (X := (· = g)) rfl _).trans (Chg.setCell (X := (· = g)) rfl _)).trans (Chg.setCell (X := (· = g)) rfl _)
        have hcm := (CH1.out.trans hch).mono (Y := Mine g p.vl) fun k _ e => .inl e
        exact HI.out.next ((Chg.of HA.out.below).trans (CH1.out.trans hch)) (((PB1.out.putVm _).putPops _).putOk true) rfl rfl rfl HI.out.next_is HI.out.drops_is HI.out.taken_is HI.out.lays_is rfl rfl
          (HXX.out ▸ (HA.out.mem.chg (HXX.out ▸ hcm))) (HXX.out ▸ ((HXX.out ▸ HI.out.t1 : OffT X w p.l1 lay).chg ((Chg.of HA.out.below).trans (HXX.out ▸ hcm)))) (HXX.out ▸ (HA.out.task.chg (HXX.out ▸ hcm))) HRT.out (by have := HI.out.few; omega))
      go_wp2
      (try simp only [Exit.inBlock, Exit.then])
      refine bodyPost_ret (results_none rfl _ _ _) rfl ?_
      exact ⟨rfl, _, _, _, _, _, _, _, _, _, HF.out⟩
    · rw [hd] at d34
      have HTLL := Lib.hid hTL
      have HLT := Lib.hid hlt
      clear hTL hlt
      have HRT := Lib.hid hrt
      have HB := Lib.hid hB
      clear hd hrt hB
      have HB1 : Hid (Box (((W1.setCell ⟨g, 0, none⟩ (.slice A9 m9.length p9)).setCell ⟨g, 80, none⟩ (.int .i64 ((ps : Int) + 1))).setCell ⟨g, 81, none⟩ (.bool true)) g12 42 cl9.toArray) := Lib.hid (BX1.out.chg (X := (· = g)) (((Chg.setCell (X := (· = g)) rfl _).trans (Chg.setCell (X := (· = g)) rfl _)).trans (Chg.setCell (X := (· = g)) rfl _)) HNE.out)
      go_wp2_with (first | with_reducible refine mid_stop 42 _ rfl ?_ | with_reducible refine storeM_stop rfl 42 _ _ rfl ?_)
      refine AtMid.go rfl g12 0 rfl HB1.out.range Try.underlying42 rfl (by rw [HA.out.len]; exact size_task) ?_
      go_wp2_with fail
      refine calls_at fun W2 hW2 => ?_
      have PB2 : Hid (PlyB W2 g { p with l2 := cl9, vm := .slice A9 m9.length p9, pops := (ps : Int) + 1, ok := true }) := Lib.hid (by rw [hW2]; exact ((PB1.out.putVm _).putPops _).putOk true)
      have CH2 : Hid (Chg (· = g) wc W2) := Lib.hid (by rw [hW2]; exact CH1.out.trans (((Chg.setCell (X := (· = g)) rfl _).trans (Chg.setCell (X := (· = g)) rfl _)).trans (Chg.setCell (X := (· = g)) rfl _)))
      clear hW2 c80 c81 c0 f0 f80 f81 d34 hw80 hl8 HB1
      have HTK : Hid (IsTask W2 (.agg cl9.toArray) T9) := Lib.hid ((HA.out.task.chg (HXX.out ▸ CH2.out.mono (Y := Mine g p.vl) fun k _ e => .inl e)).task)
      refine (takenR_call HTK.out).mono ?_
      rintro e W4 ⟨v8, rfl, ho8, hb8⟩
      rw [HB.out]
      rw [HTLL.out] at ho8
      have PB4 : Hid (PlyB W4 g { p with l2 := cl9, vm := .slice A9 m9.length p9, pops := (ps : Int) + 1, ok := true }) := Lib.hid (PB2.out.kept hb8)
      have HB4 := Lib.hid hb8
      have HL8 := Lib.hid ho8
      clear ho8 hb8
      obtain ⟨Al, pl, hvl, hvl1, hvl2⟩ := row_form HI.out.laid.row
      unfold maxLen at hvl2
      have hrow : W4.ownsRow base 22 1 p.vl L.length (L.map (·.1)) := row_chg HI.out.laid.row ((Chg.of HA.out.below).trans (CH2.out.trans (Chg.of HB4.out))) (fun k hk e => HI.out.ne (by rw [hk, e]))
      have hne0 : p.vl.ownBlock ≠ some g := HI.out.ne
      obtain ⟨el, hel⟩ : ∃ el, L[T]? = some el := ⟨_, List.getElem?_eq_getElem HLT.out⟩
      have helm : el ∈ L := by rw [List.getElem?_eq_getElem HLT.out] at hel; injection hel with hel; rw [← hel]; exact List.getElem_mem _
      have hx : (L.map (·.2)).getD T 0 = el.2 := by rw [List.getD_eq_getElem?_getD, List.getElem?_map, hel]; rfl
      rw [hx] at HL8
      have HEL : Hid (Words W4 el.1 (wordsR el.2)) := Lib.hid ((HI.out.laid.each el helm).chg (((Chg.of HA.out.below).trans (CH2.out.trans (Chg.of HB4.out))).mono (Y := Mine g p.vl) fun k _ e => .inl e)).words
      have hsl := Sl.of_own hrow
      rw [hvl] at hsl hne0
      obtain ⟨bl, ol, hAl, hbl, hcl⟩ := hsl.at_ (by have := HLT.out; omega) (by omega)
      subst hAl
      have hce : W4.cell? ⟨bl, ol + T, none⟩ = some el.1 := hcl T el.1 (by rw [List.getElem?_map, hel]; rfl)
      obtain ⟨Ae, pe, hve, _⟩ := HEL.out.1.form
      rw [hve] at hce
      have HVE := Lib.hid hve
      have HNB : Hid (bl ≠ g) := Lib.hid fun e => hne0 (by rw [e]; rfl)
      have HVL := Lib.hid hvl
      have HS4 : Hid (∀ V, Below W4.heap.size W4 V → V.cell? ⟨g, 4, none⟩ = some (.slice (some ⟨bl, ol, none⟩) L.length pl) ∧ V.cell? ⟨g, 6, none⟩ = some (.int .i64 (T : Int)) ∧ V.cell? ⟨g, 81, none⟩ = some (.bool true) ∧ V.cell? ⟨bl, ol + T, none⟩ = some (.slice Ae (wordsR el.2).length pe)) := Lib.hid fun V hV => by
        have hp := PB4.out.kept hV
        exact ⟨(hp.low 4 (by omega)).trans (by simp [HVL.out]), (hp.low 6 (by omega)).trans (by simp [HI.out.taken_is]), hp.high 2, (hV.cell (p := ⟨bl, ol + T, none⟩) hbl).trans hce⟩
      have hlt2 : ((T : Int) < (L.length : Int)) := by have := HLT.out; omega
      have hdlt : decide ((T : Int) < (L.length : Int)) = true := decide_eq_true hlt2
      have hsub1 : IntKind.i64.wrap ((L.length : Int) - 1) = (L.length : Int) - 1 := by have := HI.out.few; rw [IntKind.wrap_i64]; omega
      have hmin : min (T : Int) ((L.length : Int) - 1) = (T : Int) := by omega
      have hmin2 : ¬ (L.length : Int) - 1 < (T : Int) := by omega
      have hT0 : (0 : Int) ≤ (T : Int) := by omega
      clear hvl hne0 hrow hsl hcl hce hve hel helm hx
      go_wp2_with fail
      refine wp_region_held_drew (S := fun V => V.cell? ⟨g, 4, none⟩ = some (.slice (some ⟨bl, ol, none⟩) L.length pl) ∧ V.cell? ⟨g, 6, none⟩ = some (.int .i64 (T : Int)) ∧ V.cell? ⟨g, 81, none⟩ = some (.bool true) ∧ V.cell? ⟨bl, ol + T, none⟩ = some (.slice Ae (wordsR el.2).length pe)) (by kernel_rfl) (HS4.out W4 (Below.refl _ _)) (fun hHeld => ?_)
      refine take_at (i := 0) (v := .pointer (some ⟨g, 0, none⟩)) rfl rfl (by kernel_rfl) (by kernel_rfl) (by kernel_rfl) (fun _ _ _ h => h) (Or.inl ⟨by rfl, fun w hw => ?_⟩) hHeld ?_
      · go_simp
      simp only [List.setIfInBounds_toArray, List.set_cons_zero, List.set_cons_succ]
      refine take_at (i := 1) (v := .pointer (some ⟨g, 0, none⟩)) rfl rfl (by kernel_rfl) (by kernel_rfl) (by kernel_rfl) (fun _ _ _ h => h) (Or.inl ⟨by rfl, fun w hw => ?_⟩) hHeld ?_
      · go_simp
      simp only [List.setIfInBounds_toArray, List.set_cons_zero, List.set_cons_succ]
      refine take_at (i := 2) (v := .pointer (some ⟨g, 0, none⟩)) rfl rfl (by kernel_rfl) (by kernel_rfl) (by kernel_rfl) (fun _ _ _ h => h) (Or.inl ⟨by rfl, fun w hw => ?_⟩) hHeld ?_
      · go_simp
      simp only [List.setIfInBounds_toArray, List.set_cons_zero, List.set_cons_succ]
      refine take_at (i := 3) (v := .pointer (some ⟨g, 81, none⟩)) rfl rfl (by kernel_rfl) (by kernel_rfl) (by kernel_rfl) (fun _ _ _ h => h) (Or.inl ⟨by rfl, fun w hw => ?_⟩) hHeld ?_
      · go_simp
      simp only [List.setIfInBounds_toArray, List.set_cons_zero, List.set_cons_succ]
      refine take_at (i := 4) (v := .bool true) rfl rfl (by kernel_rfl) (by kernel_rfl) (by kernel_rfl) (fun _ _ _ h => h) (Or.inl ⟨by rfl, fun w hw => ?_⟩) hHeld ?_
      · have h0 := hw.2.2.1; go_simp
      simp only [List.setIfInBounds_toArray, List.set_cons_zero, List.set_cons_succ]
      refine take_at (i := 5) (v := .bool true) rfl rfl (by kernel_rfl) (by kernel_rfl) (by kernel_rfl) (fun _ _ _ h => h) (Or.inl ⟨by rfl, fun w hw => ?_⟩) hHeld ?_
      · go_simp
      simp only [List.setIfInBounds_toArray, List.set_cons_zero, List.set_cons_succ]
      refine take_at (i := 6) (v := .pointer (some ⟨g, 0, none⟩)) rfl rfl (by kernel_rfl) (by kernel_rfl) (by kernel_rfl) (fun _ _ _ h => h) (Or.inl ⟨by rfl, fun w hw => ?_⟩) hHeld ?_
      · go_simp
      simp only [List.setIfInBounds_toArray, List.set_cons_zero, List.set_cons_succ]
      refine take_at (i := 7) (v := .pointer (some ⟨g, 0, none⟩)) rfl rfl (by kernel_rfl) (by kernel_rfl) (by kernel_rfl) (fun _ _ _ h => h) (Or.inl ⟨by rfl, fun w hw => ?_⟩) hHeld ?_
      · go_simp
      simp only [List.setIfInBounds_toArray, List.set_cons_zero, List.set_cons_succ]
      refine take_at (i := 8) (v := .pointer (some ⟨g, 6, none⟩)) rfl rfl (by kernel_rfl) (by kernel_rfl) (by kernel_rfl) (fun _ _ _ h => h) (Or.inl ⟨by rfl, fun w hw => ?_⟩) hHeld ?_
      · go_simp
      simp only [List.setIfInBounds_toArray, List.set_cons_zero, List.set_cons_succ]
      refine take_at (i := 9) (v := .int .i64 (T : Int)) rfl rfl (by kernel_rfl) (by kernel_rfl) (by kernel_rfl) (fun _ _ _ h => h) (Or.inl ⟨by rfl, fun w hw => ?_⟩) hHeld ?_
      · have h0 := hw.2.1; go_simp
      simp only [List.setIfInBounds_toArray, List.set_cons_zero, List.set_cons_succ]
      refine take_at (i := 10) (v := .pointer (some ⟨g, 0, none⟩)) rfl rfl (by kernel_rfl) (by kernel_rfl) (by kernel_rfl) (fun _ _ _ h => h) (Or.inl ⟨by rfl, fun w hw => ?_⟩) hHeld ?_
      · go_simp
      simp only [List.setIfInBounds_toArray, List.set_cons_zero, List.set_cons_succ]
      refine take_at (i := 11) (v := .pointer (some ⟨g, 0, none⟩)) rfl rfl (by kernel_rfl) (by kernel_rfl) (by kernel_rfl) (fun _ _ _ h => h) (Or.inl ⟨by rfl, fun w hw => ?_⟩) hHeld ?_
      · go_simp
      simp only [List.setIfInBounds_toArray, List.set_cons_zero, List.set_cons_succ]
      refine take_at (i := 12) (v := .pointer (some ⟨g, 4, none⟩)) rfl rfl (by kernel_rfl) (by kernel_rfl) (by kernel_rfl) (fun _ _ _ h => h) (Or.inl ⟨by rfl, fun w hw => ?_⟩) hHeld ?_
      · go_simp
      simp only [List.setIfInBounds_toArray, List.set_cons_zero, List.set_cons_succ]
      refine take_at (i := 13) (v := .slice (some ⟨bl, ol, none⟩) L.length pl) rfl rfl (by kernel_rfl) (by kernel_rfl) (by kernel_rfl) (fun _ _ _ h => h) (Or.inl ⟨by rfl, fun w hw => ?_⟩) hHeld ?_
      · have h0 := hw.1; go_simp
      simp only [List.setIfInBounds_toArray, List.set_cons_zero, List.set_cons_succ]
      refine take_at (i := 14) (v := .int .i64 (L.length : Int)) rfl rfl (by kernel_rfl) (by kernel_rfl) (by kernel_rfl) (fun _ _ _ h => h) (Or.inl ⟨by rfl, fun w hw => ?_⟩) hHeld ?_
      · go_simp
      simp only [List.setIfInBounds_toArray, List.set_cons_zero, List.set_cons_succ]
      refine take_at (i := 15) (v := .bool true) rfl rfl (by kernel_rfl) (by kernel_rfl) (by kernel_rfl) (fun _ _ _ h => h) (Or.inl ⟨by rfl, fun w hw => ?_⟩) hHeld ?_
      · go_simp
      simp only [List.setIfInBounds_toArray, List.set_cons_zero, List.set_cons_succ]
      refine take_at (i := 16) (v := .bool true) rfl rfl (by kernel_rfl) (by kernel_rfl) (by kernel_rfl) (fun _ _ _ h => h) (Or.inl ⟨by rfl, fun w hw => ?_⟩) hHeld ?_
      · go_simp
      simp only [List.setIfInBounds_toArray, List.set_cons_zero, List.set_cons_succ]
      refine take_at (i := 17) (v := .bool true) rfl rfl (by kernel_rfl) (by kernel_rfl) (by kernel_rfl) (fun _ _ _ h => h) (Or.inl ⟨by rfl, fun w hw => ?_⟩) hHeld ?_
      · go_simp
      simp only [List.setIfInBounds_toArray, List.set_cons_zero, List.set_cons_succ]
      refine take_at (i := 18) (v := v8) rfl rfl (by kernel_rfl) (by kernel_rfl) (by kernel_rfl) (fun _ _ _ h => h) (Or.inl ⟨by rfl, fun w hw => ?_⟩) hHeld ?_
      · go_simp
      simp only [List.setIfInBounds_toArray, List.set_cons_zero, List.set_cons_succ]
      refine take_at (i := 19) (v := .pointer (some ⟨g, 0, none⟩)) rfl rfl (by kernel_rfl) (by kernel_rfl) (by kernel_rfl) (fun _ _ _ h => h) (Or.inl ⟨by rfl, fun w hw => ?_⟩) hHeld ?_
      · go_simp
      simp only [List.setIfInBounds_toArray, List.set_cons_zero, List.set_cons_succ]
      refine take_at (i := 20) (v := .pointer (some ⟨g, 0, none⟩)) rfl rfl (by kernel_rfl) (by kernel_rfl) (by kernel_rfl) (fun _ _ _ h => h) (Or.inl ⟨by rfl, fun w hw => ?_⟩) hHeld ?_
      · go_simp
      simp only [List.setIfInBounds_toArray, List.set_cons_zero, List.set_cons_succ]
      refine take_at (i := 21) (v := .pointer (some ⟨g, 4, none⟩)) rfl rfl (by kernel_rfl) (by kernel_rfl) (by kernel_rfl) (fun _ _ _ h => h) (Or.inl ⟨by rfl, fun w hw => ?_⟩) hHeld ?_
      · go_simp
      simp only [List.setIfInBounds_toArray, List.set_cons_zero, List.set_cons_succ]
      refine take_at (i := 22) (v := .slice (some ⟨bl, ol, none⟩) L.length pl) rfl rfl (by kernel_rfl) (by kernel_rfl) (by kernel_rfl) (fun _ _ _ h => h) (Or.inl ⟨by rfl, fun w hw => ?_⟩) hHeld ?_
      · have h0 := hw.1; go_simp
      simp only [List.setIfInBounds_toArray, List.set_cons_zero, List.set_cons_succ]
      refine take_at (i := 23) (v := .pointer (some ⟨g, 0, none⟩)) rfl rfl (by kernel_rfl) (by kernel_rfl) (by kernel_rfl) (fun _ _ _ h => h) (Or.inl ⟨by rfl, fun w hw => ?_⟩) hHeld ?_
      · go_simp
      simp only [List.setIfInBounds_toArray, List.set_cons_zero, List.set_cons_succ]
      refine take_at (i := 24) (v := .pointer (some ⟨g, 0, none⟩)) rfl rfl (by kernel_rfl) (by kernel_rfl) (by kernel_rfl) (fun _ _ _ h => h) (Or.inl ⟨by rfl, fun w hw => ?_⟩) hHeld ?_
      · go_simp
      simp only [List.setIfInBounds_toArray, List.set_cons_zero, List.set_cons_succ]
      refine take_at (i := 25) (v := .pointer (some ⟨g, 6, none⟩)) rfl rfl (by kernel_rfl) (by kernel_rfl) (by kernel_rfl) (fun _ _ _ h => h) (Or.inl ⟨by rfl, fun w hw => ?_⟩) hHeld ?_
      · go_simp
      simp only [List.setIfInBounds_toArray, List.set_cons_zero, List.set_cons_succ]
      refine take_at (i := 26) (v := .int .i64 (T : Int)) rfl rfl (by kernel_rfl) (by kernel_rfl) (by kernel_rfl) (fun _ _ _ h => h) (Or.inl ⟨by rfl, fun w hw => ?_⟩) hHeld ?_
      · have h0 := hw.2.1; go_simp
      simp only [List.setIfInBounds_toArray, List.set_cons_zero, List.set_cons_succ]
      refine take_at (i := 27) (v := .pointer (some ⟨g, 0, none⟩)) rfl rfl (by kernel_rfl) (by kernel_rfl) (by kernel_rfl) (fun _ _ _ h => h) (Or.inl ⟨by rfl, fun w hw => ?_⟩) hHeld ?_
      · go_simp
      simp only [List.setIfInBounds_toArray, List.set_cons_zero, List.set_cons_succ]
      refine take_at (i := 28) (v := .pointer (some ⟨g, 0, none⟩)) rfl rfl (by kernel_rfl) (by kernel_rfl) (by kernel_rfl) (fun _ _ _ h => h) (Or.inl ⟨by rfl, fun w hw => ?_⟩) hHeld ?_
      · go_simp
      simp only [List.setIfInBounds_toArray, List.set_cons_zero, List.set_cons_succ]
      refine take_at (i := 29) (v := .pointer (some ⟨g, 4, none⟩)) rfl rfl (by kernel_rfl) (by kernel_rfl) (by kernel_rfl) (fun _ _ _ h => h) (Or.inl ⟨by rfl, fun w hw => ?_⟩) hHeld ?_
      · go_simp
      simp only [List.setIfInBounds_toArray, List.set_cons_zero, List.set_cons_succ]
      refine take_at (i := 30) (v := .slice (some ⟨bl, ol, none⟩) L.length pl) rfl rfl (by kernel_rfl) (by kernel_rfl) (by kernel_rfl) (fun _ _ _ h => h) (Or.inl ⟨by rfl, fun w hw => ?_⟩) hHeld ?_
      · have h0 := hw.1; go_simp
      simp only [List.setIfInBounds_toArray, List.set_cons_zero, List.set_cons_succ]
      refine take_at (i := 31) (v := .int .i64 (L.length : Int)) rfl rfl (by kernel_rfl) (by kernel_rfl) (by kernel_rfl) (fun _ _ _ h => h) (Or.inl ⟨by rfl, fun w hw => ?_⟩) hHeld ?_
      · go_simp
      simp only [List.setIfInBounds_toArray, List.set_cons_zero, List.set_cons_succ]
      refine take_at (i := 32) (v := .int .i64 ((L.length : Int) - 1)) rfl rfl (by kernel_rfl) (by kernel_rfl) (by kernel_rfl) (fun _ _ _ h => h) (Or.inl ⟨by rfl, fun w hw => ?_⟩) hHeld ?_
      · go_simp
      simp only [List.setIfInBounds_toArray, List.set_cons_zero, List.set_cons_succ]
      refine take_at (i := 33) (v := .int .i64 (T : Int)) rfl rfl (by kernel_rfl) (by kernel_rfl) (by kernel_rfl) (fun _ _ _ h => h) (Or.inl ⟨by rfl, fun w hw => ?_⟩) hHeld ?_
      · (go_simp; omega)
      simp only [List.setIfInBounds_toArray, List.set_cons_zero, List.set_cons_succ]
      refine take_at (i := 34) (v := .pointer (some ⟨bl, ol + T, none⟩)) rfl rfl (by kernel_rfl) (by kernel_rfl) (by kernel_rfl) (fun _ _ _ h => h) (Or.inl ⟨by rfl, fun w hw => ?_⟩) hHeld ?_
      · go_simp
      simp only [List.setIfInBounds_toArray, List.set_cons_zero, List.set_cons_succ]
      refine take_at (i := 35) (v := .slice Ae (wordsR el.2).length pe) rfl rfl (by kernel_rfl) (by kernel_rfl) (by kernel_rfl) (fun _ _ _ h => h) (Or.inl ⟨by rfl, fun w hw => ?_⟩) hHeld ?_
      · have h0 := hw.2.2.2; go_simp
      simp only [List.setIfInBounds_toArray, List.set_cons_zero, List.set_cons_succ]
      refine wpAnyH_ready (rs := [36]) (by kernel_rfl) (by simp) ?_
      refine AllReadyH.cons rfl (fun KQ hKQ => ?_) AllReadyH.nil
      rw [if_pos (by rfl)]
      go_simp
      have hel2 : Words W4 (.slice Ae (wordsR el.2).length pe) (wordsR el.2) := by have := HEL.out; rwa [HVE.out] at this
      refine (same_call (w := W4.drew) HL8.out hel2).mono ?_
      clear hel2
      rintro e V6 ⟨rfl, hb6⟩
      rw [decide_eq_true rfl]
      have HB6 : Hid (Below W4.heap.size W4 V6) := Lib.hid ⟨hb6.os, hb6.tape, hb6.output, hb6.size, hb6.block⟩
      refine hKQ.out _ _ (HS4.out _ HB6.out) (fun hHeld => ?_)
      clear hKQ KQ hb6
      refine take_at (i := 37) (v := .bool true) rfl rfl (by kernel_rfl) (by kernel_rfl) (by kernel_rfl) (fun _ _ _ h => h) (Or.inl ⟨by rfl, fun w hw => ?_⟩) hHeld ?_
      · go_simp
      simp only [List.setIfInBounds_toArray, List.set_cons_zero, List.set_cons_succ]
      refine take_at (i := 38) (v := .pointer (some ⟨g, 0, none⟩)) rfl rfl (by kernel_rfl) (by kernel_rfl) (by kernel_rfl) (fun _ _ _ h => h) (Or.inl ⟨by rfl, fun w hw => ?_⟩) hHeld ?_
      · go_simp
      simp only [List.setIfInBounds_toArray, List.set_cons_zero, List.set_cons_succ]
      refine take_at (i := 39) (v := .pointer (some ⟨g, 81, none⟩)) rfl rfl (by kernel_rfl) (by kernel_rfl) (by kernel_rfl) (fun _ _ _ h => h) (Or.inl ⟨by rfl, fun w hw => ?_⟩) hHeld ?_
      · go_simp
      simp only [List.setIfInBounds_toArray, List.set_cons_zero, List.set_cons_succ]
      refine wpAnyH_ready (rs := [40]) (by kernel_rfl) (by simp) ?_
      refine AllReadyH.cons rfl (fun KQ hKQ => ?_) AllReadyH.nil
      have q81 := (HS4.out _ HB6.out).2.2.1
      have q81f := (PB4.out.kept HB6.out).fz 81
      go_simp
      have hP6 := (PB4.out.kept HB6.out).putOk true
      refine hKQ.out _ _ ⟨(hP6.low 4 (by omega)).trans (by simp [HVL.out]), (hP6.low 6 (by omega)).trans (by simp [HI.out.taken_is]), hP6.high 2, (World.cell?_of_block (Below.heap_setCell V6 ⟨g, 81, none⟩ _ bl HNB.out)).trans (HS4.out _ HB6.out).2.2.2⟩ (fun hHeld => ?_)
      clear hKQ KQ q81 q81f
      refine wpAnyH_done (by kernel_rfl) ?_ _
      obtain ⟨W5, hW5⟩ : ∃ W5, W5 = V6.setCell ⟨g, 81, none⟩ (.bool true) := ⟨_, rfl⟩
      rw [← hW5] at hP6 ⊢
      have PB5 := Lib.hid hP6
      have CH5 : Hid (Chg (· = g) wc W5) := Lib.hid (by rw [hW5]; exact ((CH2.out.trans (Chg.of HB4.out)).trans (Chg.of HB6.out)).trans (Chg.setCell (X := (· = g)) rfl _))
      clear hP6 hW5 hHeld hlt2 hdlt hsub1 hmin hmin2 hT0
      have c6 : W5.cell? ⟨g, 6, none⟩ = some (.int .i64 (T : Int)) := (PB5.out.low 6 (by omega)).trans (by simp [HI.out.taken_is])
      have c80 : W5.cell? ⟨g, 80, none⟩ = some (.int .i64 ((ps : Int) + 1)) := PB5.out.high 1
      have f6 := PB5.out.fz 6
      have f80 := PB5.out.fz 80
      have hw6 : IntKind.i64.wrap ((T : Int) + 1) = (T : Int) + 1 := by have h1 := HI.out.few; have h2 := HLT.out; rw [IntKind.wrap_i64]; omega
      go_wp2_with fail
      refine wp_at fun W3 hW3 => ?_
      have PB3 : Hid (PlyB W3 g { p with l2 := cl9, vm := .slice A9 m9.length p9, pops := 0, ok := true, taken := ((T : Int) + 1) }) := Lib.hid (by rw [hW3]; exact (PB5.out.putTaken _).putPops 0)
      have CH3 : Hid (Chg (· = g) wc W3) := Lib.hid (by rw [hW3]; first | exact CH5.out.trans ((Chg.setCell (X := (· = g)) rfl _).trans (Chg.setCell (X := (· = g)) rfl _)) | exact (CH5.out.trans ((Chg.setCell (X := (· = g)) rfl _).trans (Chg.setCell (X := (· = g)) rfl _))).drew)
      clear hW3 c6 c80 f6 f80 hw6
      have HSW : Hid (∀ V, Below W3.heap.size W3 V → V.cell? ⟨g, 1, none⟩ = some (.int .i64 (b : Int)) ∧ V.cell? ⟨g, 2, none⟩ = some (.int .i64 (c : Int)) ∧ V.cell? ⟨g, 6, none⟩ = some (.int .i64 (((T : Int) + 1)))) := Lib.hid fun V hV => by
        have hp := PB3.out.kept hV
        exact ⟨(hp.low 1 (by omega)).trans (by simp [HI.out.b_is]), (hp.low 2 (by omega)).trans (by simp [HI.out.c_is]), hp.low 6 (by omega)⟩
      have HXN : Hid (∀ k, X k → k < W3.heap.size) := Lib.hid fun k hk => by have h1 := HXB.out k hk; have h2 := HA.out.below.size; have h3 := CH3.out.size; omega
      have hii : I64 (((T : Int) + 1)) := by have h1 := HI.out.few; have h2 := HLT.out; unfold I64; omega
      have HII := Lib.hid hii
      clear hii
      refine wp_region_held_drew (S := fun V => V.cell? ⟨g, 1, none⟩ = some (.int .i64 (b : Int)) ∧ V.cell? ⟨g, 2, none⟩ = some (.int .i64 (c : Int)) ∧ V.cell? ⟨g, 6, none⟩ = some (.int .i64 ((T : Int) + 1))) (by kernel_rfl) (HSW.out W3 (Below.refl _ _)) (fun hHeld => ?_)
      refine take_at (i := 0) (v := .pointer (some ⟨g, 0, none⟩)) rfl rfl (by kernel_rfl) (by kernel_rfl) (by kernel_rfl) (fun _ _ _ h => h) (Or.inl ⟨by rfl, fun w hw => ?_⟩) hHeld ?_
      · go_simp
      simp only [List.setIfInBounds_toArray, List.set_cons_zero, List.set_cons_succ]
      refine take_at (i := 1) (v := .pointer (some ⟨g, 0, none⟩)) rfl rfl (by kernel_rfl) (by kernel_rfl) (by kernel_rfl) (fun _ _ _ h => h) (Or.inl ⟨by rfl, fun w hw => ?_⟩) hHeld ?_
      · go_simp
      simp only [List.setIfInBounds_toArray, List.set_cons_zero, List.set_cons_succ]
      refine take_at (i := 2) (v := .pointer (some ⟨g, 0, none⟩)) rfl rfl (by kernel_rfl) (by kernel_rfl) (by kernel_rfl) (fun _ _ _ h => h) (Or.inl ⟨by rfl, fun w hw => ?_⟩) hHeld ?_
      · go_simp
      simp only [List.setIfInBounds_toArray, List.set_cons_zero, List.set_cons_succ]
      refine take_at (i := 3) (v := .pointer (some ⟨g, 1, none⟩)) rfl rfl (by kernel_rfl) (by kernel_rfl) (by kernel_rfl) (fun _ _ _ h => h) (Or.inl ⟨by rfl, fun w hw => ?_⟩) hHeld ?_
      · go_simp
      simp only [List.setIfInBounds_toArray, List.set_cons_zero, List.set_cons_succ]
      refine take_at (i := 4) (v := .int .i64 (b : Int)) rfl rfl (by kernel_rfl) (by kernel_rfl) (by kernel_rfl) (fun _ _ _ h => h) (Or.inl ⟨by rfl, fun w hw => ?_⟩) hHeld ?_
      · have h0 := hw.1; go_simp
      simp only [List.setIfInBounds_toArray, List.set_cons_zero, List.set_cons_succ]
      refine take_at (i := 5) (v := .pointer (some ⟨g, 0, none⟩)) rfl rfl (by kernel_rfl) (by kernel_rfl) (by kernel_rfl) (fun _ _ _ h => h) (Or.inl ⟨by rfl, fun w hw => ?_⟩) hHeld ?_
      · go_simp
      simp only [List.setIfInBounds_toArray, List.set_cons_zero, List.set_cons_succ]
      refine take_at (i := 6) (v := .pointer (some ⟨g, 0, none⟩)) rfl rfl (by kernel_rfl) (by kernel_rfl) (by kernel_rfl) (fun _ _ _ h => h) (Or.inl ⟨by rfl, fun w hw => ?_⟩) hHeld ?_
      · go_simp
      simp only [List.setIfInBounds_toArray, List.set_cons_zero, List.set_cons_succ]
      refine take_at (i := 7) (v := .pointer (some ⟨g, 2, none⟩)) rfl rfl (by kernel_rfl) (by kernel_rfl) (by kernel_rfl) (fun _ _ _ h => h) (Or.inl ⟨by rfl, fun w hw => ?_⟩) hHeld ?_
      · go_simp
      simp only [List.setIfInBounds_toArray, List.set_cons_zero, List.set_cons_succ]
      refine take_at (i := 8) (v := .int .i64 (c : Int)) rfl rfl (by kernel_rfl) (by kernel_rfl) (by kernel_rfl) (fun _ _ _ h => h) (Or.inl ⟨by rfl, fun w hw => ?_⟩) hHeld ?_
      · have h0 := hw.2.1; go_simp
      simp only [List.setIfInBounds_toArray, List.set_cons_zero, List.set_cons_succ]
      refine take_at (i := 9) (v := .pointer (some ⟨g, 0, none⟩)) rfl rfl (by kernel_rfl) (by kernel_rfl) (by kernel_rfl) (fun _ _ _ h => h) (Or.inl ⟨by rfl, fun w hw => ?_⟩) hHeld ?_
      · go_simp
      simp only [List.setIfInBounds_toArray, List.set_cons_zero, List.set_cons_succ]
      refine take_at (i := 10) (v := .pointer (some ⟨g, 0, none⟩)) rfl rfl (by kernel_rfl) (by kernel_rfl) (by kernel_rfl) (fun _ _ _ h => h) (Or.inl ⟨by rfl, fun w hw => ?_⟩) hHeld ?_
      · go_simp
      simp only [List.setIfInBounds_toArray, List.set_cons_zero, List.set_cons_succ]
      refine take_at (i := 11) (v := .pointer (some ⟨g, 6, none⟩)) rfl rfl (by kernel_rfl) (by kernel_rfl) (by kernel_rfl) (fun _ _ _ h => h) (Or.inl ⟨by rfl, fun w hw => ?_⟩) hHeld ?_
      · go_simp
      simp only [List.setIfInBounds_toArray, List.set_cons_zero, List.set_cons_succ]
      refine take_at (i := 12) (v := .int .i64 ((T : Int) + 1)) rfl rfl (by kernel_rfl) (by kernel_rfl) (by kernel_rfl) (fun _ _ _ h => h) (Or.inl ⟨by rfl, fun w hw => ?_⟩) hHeld ?_
      · have h0 := hw.2.2; go_simp
      simp only [List.setIfInBounds_toArray, List.set_cons_zero, List.set_cons_succ]
      refine wpAnyH_ready (rs := [13]) (by kernel_rfl) (by simp) ?_
      refine AllReadyH.cons rfl (fun KQ hKQ => ?_) AllReadyH.nil
      go_simp
      refine (popR_own HII.out).mono ?_
      rintro e V8 ⟨v6, rfl, hi6, hb6⟩
      have HB8 : Hid (Below W3.heap.size W3 V8) := Lib.hid ⟨hb6.os, hb6.tape, hb6.output, hb6.size, hb6.block⟩
      have HI6 : Hid (OwnI V8 W3.heap.size v6 (popC (b : Int) (c : Int) ((T : Int) + 1))) := Lib.hid hi6
      refine hKQ.out _ _ (HSW.out _ HB8.out) (fun hHeld => ?_)
      clear hKQ KQ hi6 hb6
      refine wpAnyH_ready (rs := [14]) (by kernel_rfl) (by simp) ?_
      refine AllReadyH.cons rfl (fun KQ hKQ => ?_) AllReadyH.nil
      go_simp
      refine (start_call HI6.out.inss).mono ?_
      rintro e V9 ⟨rfl, hb7⟩
      have HB9 : Hid (Below W3.heap.size W3 V9) := Lib.hid (below_call HB8.out hb7 HB8.out.size)
      have hot := OffT.start (X := X) (w := V9) (HI6.out.kept hb7) HXN.out rfl
      generalize tcells (startCv _ _) (startT _).t = C7 at *
      obtain ⟨cl7, rfl⟩ : ∃ l : List Value, C7 = l.toArray := ⟨C7.toList, by simp⟩
      have hot2 : OffT X V9 cl7 (startT (popC (b : Int) (c : Int) ((T : Int) + 1))) := hot
      have hsz := hot2.size
      have HOT := Lib.hid hot2
      have HSZ7 := Lib.hid hsz.1
      have HONE7 := Lib.hid hsz.2.1
      refine hKQ.out _ _ (HSW.out _ HB9.out) (fun hHeld => ?_)
      clear hKQ KQ hb7 hot hot2 hsz
      refine take_at (i := 15) (v := .pointer (some ⟨g, 0, none⟩)) rfl rfl (by kernel_rfl) (by kernel_rfl) (by kernel_rfl) (fun _ _ _ h => h) (Or.inl ⟨by rfl, fun w hw => ?_⟩) hHeld ?_
      · go_simp
      simp only [List.setIfInBounds_toArray, List.set_cons_zero, List.set_cons_succ]
      refine take_at (i := 16) (v := .pointer (some ⟨g, 43, none⟩)) rfl rfl (by kernel_rfl) (by kernel_rfl) (by kernel_rfl) (fun _ _ _ h => h) (Or.inl ⟨by rfl, fun w hw => ?_⟩) hHeld ?_
      · go_simp
      simp only [List.setIfInBounds_toArray, List.set_cons_zero, List.set_cons_succ]
      refine wpAnyH_ready (rs := [17]) (by kernel_rfl) (by simp) ?_
      refine AllReadyH.cons rfl (fun KQ hKQ => ?_) AllReadyH.nil
      rw [if_pos (by rfl)]
      refine wp_store_mid 42 _ _ rfl g 43 cl7.toArray rfl rfl ((PB3.out.kept HB9.out).t2 (by simp [HSZ7.out])) (by rw [List.size_toArray, HSZ7.out]; exact size_task) HONE7.out ?_
      have hP4 : PlyB (V9.setCells g 43 cl7) g { p with l2 := cl7, vm := .slice A9 m9.length p9, pops := 0, ok := true, taken := ((T : Int) + 1) } := (PB3.out.kept HB9.out).set2 HSZ7.out
      have hC4 : Chg (· = g) wc (V9.setCells g 43 cl7) := CH3.out.trans ((Chg.of HB9.out).trans (Chg.setCells (X := (· = g)) rfl 43 cl7))
      have hcm := hC4.mono (Y := Mine g p.vl) fun k _ e => .inl e
      have hF : PlayI base g w0 (V9.setCells g 43 cl7) b c (s + 1) { p with l2 := cl7, vm := .slice A9 m9.length p9, pops := 0, ok := true, taken := ((T : Int) + 1) } m9 L D (T + 1) lay (startT (popC (b : Int) (c : Int) ((T : Int) + 1))) ls 0 :=
        HI.out.next ((Chg.of HA.out.below).trans hC4) hP4 rfl rfl rfl HI.out.next_is HI.out.drops_is (by simp only; omega) HI.out.lays_is rfl rfl
          (HXX.out ▸ (HA.out.mem.chg (HXX.out ▸ hcm))) (HXX.out ▸ ((HXX.out ▸ HI.out.t1 : OffT X w p.l1 lay).chg ((Chg.of HA.out.below).trans (HXX.out ▸ hcm))))
          (HXX.out ▸ (HOT.out.chg (by rw [HXX.out]; exact (Chg.setCells (X := (· = g)) rfl 43 cl7).mono fun k _ e => .inl e))) (by have := HRT.out; rw [show ((T + 1 : Nat) : Int) = (T : Int) + 1 by omega] at this; exact this) (by have := HI.out.few; omega)
      have HF := Lib.hid hF
      refine hKQ.out _ _ (by
        refine ⟨(hP4.low 1 (by omega)).trans (by simp [HI.out.b_is]), (hP4.low 2 (by omega)).trans (by simp [HI.out.c_is]), hP4.low 6 (by omega)⟩) (fun hHeld => ?_)
      clear hKQ KQ hF hcm hC4 hP4
      refine wpAnyH_done (by kernel_rfl) ?_ _
      go_wp2
      go_end0
      exact ⟨rfl, _, _, _, _, _, _, _, _, _, HF.out⟩
    · rw [hd] at d34
      have HRT := Lib.hid hrt
      have HB := Lib.hid hB
      clear hd hrt hB
      have HB1 : Hid (Box (((W1.setCell ⟨g, 0, none⟩ (.slice A9 m9.length p9)).setCell ⟨g, 80, none⟩ (.int .i64 ((ps : Int) + 1))).setCell ⟨g, 81, none⟩ (.bool true)) g12 42 cl9.toArray) := Lib.hid (BX1.out.chg (X := (· = g)) (((Chg.setCell (X := (· = g)) rfl _).trans (Chg.setCell (X := (· = g)) rfl _)).trans (Chg.setCell (X := (· = g)) rfl _)) HNE.out)
      go_wp2_with (first | with_reducible refine mid_stop 42 _ rfl ?_ | with_reducible refine storeM_stop rfl 42 _ _ rfl ?_)
      refine AtMid.go rfl g12 0 rfl HB1.out.range Try.underlying42 rfl (by rw [HA.out.len]; exact size_task) ?_
      go_wp2_with fail
      refine calls_at fun W2 hW2 => ?_
      have PB2 : Hid (PlyB W2 g { p with l2 := cl9, vm := .slice A9 m9.length p9, pops := (ps : Int) + 1, ok := true }) := Lib.hid (by rw [hW2]; exact ((PB1.out.putVm _).putPops _).putOk true)
      have CH2 : Hid (Chg (· = g) wc W2) := Lib.hid (by rw [hW2]; exact CH1.out.trans (((Chg.setCell (X := (· = g)) rfl _).trans (Chg.setCell (X := (· = g)) rfl _)).trans (Chg.setCell (X := (· = g)) rfl _)))
      clear hW2 c80 c81 c0 f0 f80 f81 d34 hw80 hl8 HB1
      have HTK : Hid (IsTask W2 (.agg cl9.toArray) T9) := Lib.hid ((HA.out.task.chg (HXX.out ▸ CH2.out.mono (Y := Mine g p.vl) fun k _ e => .inl e)).task)
      refine (takenR_call HTK.out).mono ?_
      rintro e W4 ⟨v8, rfl, ho8, hb8⟩
      rw [HB.out]
      have PB4 : Hid (PlyB W4 g { p with l2 := cl9, vm := .slice A9 m9.length p9, pops := (ps : Int) + 1, ok := true }) := Lib.hid (PB2.out.kept hb8)
      have CH4 : Hid (Chg (· = g) wc W4) := Lib.hid (CH2.out.trans (Chg.of hb8))
      obtain ⟨A8, p8, hv8, _⟩ := ho8.1.form
      subst hv8
      clear ho8 hb8
      have c80 : W4.cell? ⟨g, 80, none⟩ = some (.int .i64 ((ps : Int) + 1)) := PB4.out.high 1
      have f80 := PB4.out.fz 80
      go_wp2_with fail
      refine wp_at fun W3 hW3 => ?_
      have PB3 : Hid (PlyB W3 g { p with l2 := cl9, vm := .slice A9 m9.length p9, pops := 0, ok := true, taken := p.taken }) := Lib.hid (by rw [hW3]; exact PB4.out.putPops 0)
      have CH3 : Hid (Chg (· = g) wc W3) := Lib.hid (by rw [hW3]; first | exact CH4.out.trans (Chg.setCell (X := (· = g)) rfl _) | exact (CH4.out.trans (Chg.setCell (X := (· = g)) rfl _)).drew)
      clear hW3 c80 f80
      have HSW : Hid (∀ V, Below W3.heap.size W3 V → V.cell? ⟨g, 1, none⟩ = some (.int .i64 (b : Int)) ∧ V.cell? ⟨g, 2, none⟩ = some (.int .i64 (c : Int)) ∧ V.cell? ⟨g, 6, none⟩ = some (.int .i64 (p.taken))) := Lib.hid fun V hV => by
        have hp := PB3.out.kept hV
        exact ⟨(hp.low 1 (by omega)).trans (by simp [HI.out.b_is]), (hp.low 2 (by omega)).trans (by simp [HI.out.c_is]), hp.low 6 (by omega)⟩
      have HXN : Hid (∀ k, X k → k < W3.heap.size) := Lib.hid fun k hk => by have h1 := HXB.out k hk; have h2 := HA.out.below.size; have h3 := CH3.out.size; omega
      have hii : I64 (p.taken) := by have h1 := HI.out.few; have h2 := HI.out.law.some; have h3 := HI.out.taken_is; rw [List.length_map] at h2; unfold I64; omega
      have HII := Lib.hid hii
      clear hii
      refine wp_region_held_drew (S := fun V => V.cell? ⟨g, 1, none⟩ = some (.int .i64 (b : Int)) ∧ V.cell? ⟨g, 2, none⟩ = some (.int .i64 (c : Int)) ∧ V.cell? ⟨g, 6, none⟩ = some (.int .i64 p.taken)) (by kernel_rfl) (HSW.out W3 (Below.refl _ _)) (fun hHeld => ?_)
      refine take_at (i := 0) (v := .pointer (some ⟨g, 0, none⟩)) rfl rfl (by kernel_rfl) (by kernel_rfl) (by kernel_rfl) (fun _ _ _ h => h) (Or.inl ⟨by rfl, fun w hw => ?_⟩) hHeld ?_
      · go_simp
      simp only [List.setIfInBounds_toArray, List.set_cons_zero, List.set_cons_succ]
      refine take_at (i := 1) (v := .pointer (some ⟨g, 0, none⟩)) rfl rfl (by kernel_rfl) (by kernel_rfl) (by kernel_rfl) (fun _ _ _ h => h) (Or.inl ⟨by rfl, fun w hw => ?_⟩) hHeld ?_
      · go_simp
      simp only [List.setIfInBounds_toArray, List.set_cons_zero, List.set_cons_succ]
      refine take_at (i := 2) (v := .pointer (some ⟨g, 0, none⟩)) rfl rfl (by kernel_rfl) (by kernel_rfl) (by kernel_rfl) (fun _ _ _ h => h) (Or.inl ⟨by rfl, fun w hw => ?_⟩) hHeld ?_
      · go_simp
      simp only [List.setIfInBounds_toArray, List.set_cons_zero, List.set_cons_succ]
      refine take_at (i := 3) (v := .pointer (some ⟨g, 1, none⟩)) rfl rfl (by kernel_rfl) (by kernel_rfl) (by kernel_rfl) (fun _ _ _ h => h) (Or.inl ⟨by rfl, fun w hw => ?_⟩) hHeld ?_
      · go_simp
      simp only [List.setIfInBounds_toArray, List.set_cons_zero, List.set_cons_succ]
      refine take_at (i := 4) (v := .int .i64 (b : Int)) rfl rfl (by kernel_rfl) (by kernel_rfl) (by kernel_rfl) (fun _ _ _ h => h) (Or.inl ⟨by rfl, fun w hw => ?_⟩) hHeld ?_
      · have h0 := hw.1; go_simp
      simp only [List.setIfInBounds_toArray, List.set_cons_zero, List.set_cons_succ]
      refine take_at (i := 5) (v := .pointer (some ⟨g, 0, none⟩)) rfl rfl (by kernel_rfl) (by kernel_rfl) (by kernel_rfl) (fun _ _ _ h => h) (Or.inl ⟨by rfl, fun w hw => ?_⟩) hHeld ?_
      · go_simp
      simp only [List.setIfInBounds_toArray, List.set_cons_zero, List.set_cons_succ]
      refine take_at (i := 6) (v := .pointer (some ⟨g, 0, none⟩)) rfl rfl (by kernel_rfl) (by kernel_rfl) (by kernel_rfl) (fun _ _ _ h => h) (Or.inl ⟨by rfl, fun w hw => ?_⟩) hHeld ?_
      · go_simp
      simp only [List.setIfInBounds_toArray, List.set_cons_zero, List.set_cons_succ]
      refine take_at (i := 7) (v := .pointer (some ⟨g, 2, none⟩)) rfl rfl (by kernel_rfl) (by kernel_rfl) (by kernel_rfl) (fun _ _ _ h => h) (Or.inl ⟨by rfl, fun w hw => ?_⟩) hHeld ?_
      · go_simp
      simp only [List.setIfInBounds_toArray, List.set_cons_zero, List.set_cons_succ]
      refine take_at (i := 8) (v := .int .i64 (c : Int)) rfl rfl (by kernel_rfl) (by kernel_rfl) (by kernel_rfl) (fun _ _ _ h => h) (Or.inl ⟨by rfl, fun w hw => ?_⟩) hHeld ?_
      · have h0 := hw.2.1; go_simp
      simp only [List.setIfInBounds_toArray, List.set_cons_zero, List.set_cons_succ]
      refine take_at (i := 9) (v := .pointer (some ⟨g, 0, none⟩)) rfl rfl (by kernel_rfl) (by kernel_rfl) (by kernel_rfl) (fun _ _ _ h => h) (Or.inl ⟨by rfl, fun w hw => ?_⟩) hHeld ?_
      · go_simp
      simp only [List.setIfInBounds_toArray, List.set_cons_zero, List.set_cons_succ]
      refine take_at (i := 10) (v := .pointer (some ⟨g, 0, none⟩)) rfl rfl (by kernel_rfl) (by kernel_rfl) (by kernel_rfl) (fun _ _ _ h => h) (Or.inl ⟨by rfl, fun w hw => ?_⟩) hHeld ?_
      · go_simp
      simp only [List.setIfInBounds_toArray, List.set_cons_zero, List.set_cons_succ]
      refine take_at (i := 11) (v := .pointer (some ⟨g, 6, none⟩)) rfl rfl (by kernel_rfl) (by kernel_rfl) (by kernel_rfl) (fun _ _ _ h => h) (Or.inl ⟨by rfl, fun w hw => ?_⟩) hHeld ?_
      · go_simp
      simp only [List.setIfInBounds_toArray, List.set_cons_zero, List.set_cons_succ]
      refine take_at (i := 12) (v := .int .i64 p.taken) rfl rfl (by kernel_rfl) (by kernel_rfl) (by kernel_rfl) (fun _ _ _ h => h) (Or.inl ⟨by rfl, fun w hw => ?_⟩) hHeld ?_
      · have h0 := hw.2.2; go_simp
      simp only [List.setIfInBounds_toArray, List.set_cons_zero, List.set_cons_succ]
      refine wpAnyH_ready (rs := [13]) (by kernel_rfl) (by simp) ?_
      refine AllReadyH.cons rfl (fun KQ hKQ => ?_) AllReadyH.nil
      go_simp
      refine (popR_own HII.out).mono ?_
      rintro e V8 ⟨v6, rfl, hi6, hb6⟩
      have HB8 : Hid (Below W3.heap.size W3 V8) := Lib.hid ⟨hb6.os, hb6.tape, hb6.output, hb6.size, hb6.block⟩
      have HI6 : Hid (OwnI V8 W3.heap.size v6 (popC (b : Int) (c : Int) p.taken)) := Lib.hid hi6
      refine hKQ.out _ _ (HSW.out _ HB8.out) (fun hHeld => ?_)
      clear hKQ KQ hi6 hb6
      refine wpAnyH_ready (rs := [14]) (by kernel_rfl) (by simp) ?_
      refine AllReadyH.cons rfl (fun KQ hKQ => ?_) AllReadyH.nil
      go_simp
      refine (start_call HI6.out.inss).mono ?_
      rintro e V9 ⟨rfl, hb7⟩
      have HB9 : Hid (Below W3.heap.size W3 V9) := Lib.hid (below_call HB8.out hb7 HB8.out.size)
      have hot := OffT.start (X := X) (w := V9) (HI6.out.kept hb7) HXN.out rfl
      generalize tcells (startCv _ _) (startT _).t = C7 at *
      obtain ⟨cl7, rfl⟩ : ∃ l : List Value, C7 = l.toArray := ⟨C7.toList, by simp⟩
      have hot2 : OffT X V9 cl7 (startT (popC (b : Int) (c : Int) p.taken)) := hot
      have hsz := hot2.size
      have HOT := Lib.hid hot2
      have HSZ7 := Lib.hid hsz.1
      have HONE7 := Lib.hid hsz.2.1
      refine hKQ.out _ _ (HSW.out _ HB9.out) (fun hHeld => ?_)
      clear hKQ KQ hb7 hot hot2 hsz
      refine take_at (i := 15) (v := .pointer (some ⟨g, 0, none⟩)) rfl rfl (by kernel_rfl) (by kernel_rfl) (by kernel_rfl) (fun _ _ _ h => h) (Or.inl ⟨by rfl, fun w hw => ?_⟩) hHeld ?_
      · go_simp
      simp only [List.setIfInBounds_toArray, List.set_cons_zero, List.set_cons_succ]
      refine take_at (i := 16) (v := .pointer (some ⟨g, 43, none⟩)) rfl rfl (by kernel_rfl) (by kernel_rfl) (by kernel_rfl) (fun _ _ _ h => h) (Or.inl ⟨by rfl, fun w hw => ?_⟩) hHeld ?_
      · go_simp
      simp only [List.setIfInBounds_toArray, List.set_cons_zero, List.set_cons_succ]
      refine wpAnyH_ready (rs := [17]) (by kernel_rfl) (by simp) ?_
      refine AllReadyH.cons rfl (fun KQ hKQ => ?_) AllReadyH.nil
      rw [if_pos (by rfl)]
      refine wp_store_mid 42 _ _ rfl g 43 cl7.toArray rfl rfl ((PB3.out.kept HB9.out).t2 (by simp [HSZ7.out])) (by rw [List.size_toArray, HSZ7.out]; exact size_task) HONE7.out ?_
      have hP4 : PlyB (V9.setCells g 43 cl7) g { p with l2 := cl7, vm := .slice A9 m9.length p9, pops := 0, ok := true, taken := p.taken } := (PB3.out.kept HB9.out).set2 HSZ7.out
      have hC4 : Chg (· = g) wc (V9.setCells g 43 cl7) := CH3.out.trans ((Chg.of HB9.out).trans (Chg.setCells (X := (· = g)) rfl 43 cl7))
      have hcm := hC4.mono (Y := Mine g p.vl) fun k _ e => .inl e
      have hF : PlayI base g w0 (V9.setCells g 43 cl7) b c (s + 1) { p with l2 := cl7, vm := .slice A9 m9.length p9, pops := 0, ok := true, taken := p.taken } m9 L D T lay (startT (popC (b : Int) (c : Int) p.taken)) ls 0 :=
        HI.out.next ((Chg.of HA.out.below).trans hC4) hP4 rfl rfl rfl HI.out.next_is HI.out.drops_is HI.out.taken_is HI.out.lays_is rfl rfl
          (HXX.out ▸ (HA.out.mem.chg (HXX.out ▸ hcm))) (HXX.out ▸ ((HXX.out ▸ HI.out.t1 : OffT X w p.l1 lay).chg ((Chg.of HA.out.below).trans (HXX.out ▸ hcm))))
          (HXX.out ▸ (HOT.out.chg (by rw [HXX.out]; exact (Chg.setCells (X := (· = g)) rfl 43 cl7).mono fun k _ e => .inl e))) (by have := HRT.out; rw [← HI.out.taken_is] at this; exact this) (by have := HI.out.few; omega)
      have HF := Lib.hid hF
      refine hKQ.out _ _ (by
        refine ⟨(hP4.low 1 (by omega)).trans (by simp [HI.out.b_is]), (hP4.low 2 (by omega)).trans (by simp [HI.out.c_is]), hP4.low 6 (by omega)⟩) (fun hHeld => ?_)
      clear hKQ KQ hF hcm hC4 hP4
      refine wpAnyH_done (by kernel_rfl) ?_ _
      go_wp2
      go_end0
      exact ⟨rfl, _, _, _, _, _, _, _, _, _, HF.out⟩
end Go.Proofs.Ytpkelneimjmmkaa

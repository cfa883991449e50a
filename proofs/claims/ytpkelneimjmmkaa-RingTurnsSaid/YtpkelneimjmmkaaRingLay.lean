/- A step of who lays. -/
import Derived.Test.YtpkelneimjmmkaaRingP
import Derived.Deep.DeepCutAuto
import Derived.StillTailTactics
namespace Go.Proofs.Ytpkelneimjmmkaa
open Go.RowKit

/-- What an append of words to what was laid leaves. -/
structure Apd (base g : Nat) (vl : Value) (w w' : World) (q : Ply) (L : List (Value × Int)) (x : Int) (v5 vl' : Value) : Prop where
  ply : PlyB w' g q
  chg : Chg (Mine g vl) w w'
  row : w'.ownsRow base 22 1 vl' (L.length + 1) (L.map (·.1) ++ [v5])
  word : OffW (Mine g vl) w' v5 (wordsR x)
  apart : ∀ k, v5.ownBlock = some k → vl'.ownBlock ≠ some k
  lies : vl'.ownBlock = vl.ownBlock ∨ ∃ k, vl'.ownBlock = some k ∧ w.heap.size ≤ k
theorem apd_mk {base g : Nat} {vl vl' v5 : Value} {W2 V1 V2 V3 : World} {q : Ply} {L : List (Value × Int)} {x : Int} (_hne : vl.ownBlock ≠ some g) (hX : ∀ k, Mine g vl k → k < W2.heap.size) (h1 : Below W2.heap.size W2 V1) (h2 : Below V1.heap.size V1 V2) (hs2 : V1.heap.size < V2.heap.size)
    (h5 : Own V1 W2.heap.size v5 (wordsR x)) (hown : V3.ownsRow base 22 1 vl' (L.length + 1) (L.map (·.1) ++ [v5])) (hgrow : V2.grownBy V3 vl.ownBlock) (hat : vl'.ownBlock = vl.ownBlock ∨ vl'.ownBlock = some V2.heap.size) (hp : PlyB V3 g q) : Apd base g vl W2 V3 q L x v5 vl' := by
  have c23 : Chg (Mine g vl) V2 V3 := Chg.grown hgrow (fun k hk => .inr hk)
  have c13 : Chg (Mine g vl) V1 V3 := (Chg.of h2).trans c23
  refine ⟨hp, (Chg.of h1).trans c13, hown, (OffW.new h5 hX).chg c13, fun k hk e => ?_, ?_⟩
  · have hk1 := h5.1.lt k hk
    rcases hat with e2 | e2
    · rw [e2] at e
      have := hX k (.inr e)
      omega
    · rw [e2] at e
      injection e with e
      omega
  · rcases hat with e2 | e2
    · exact .inl e2
    · exact .inr ⟨_, e2, by have := h1.size; omega⟩

set_option maxHeartbeats 16000000 in
set_option maxRecDepth 20000 in
theorem layer_call {base g b c s : Nat} {w0 w : World} {p : Ply} {m : List Int} {L : List (Value × Int)} {D T : Nat} {lay take : FT} {ls ps : Nat} (h : PlayI base g w0 w b c s p m L D T lay take ls ps)
    (hb : b ≤ 100) (hc : 1 ≤ c) (hc' : c ≤ 8) (hs : s < 400) :
    Calls Try.prog 67 #[.pointer (some ⟨g, 0, none⟩)] w (fun e w' => e = .returned (.tuple #[]) ∧ ∃ p' m' L' D' T' lay' take' ls' ps', PlayI base g w0 w' b c (s + 1) p' m' L' D' T' lay' take' ls' ps') := by
  have HI := Lib.hid h
  have hi8 : (Try.prog.info? 42).map (·.size) = some p.l1.length := by rw [h.ply.len1]; exact size_task
  have HI8 := Lib.hid hi8
  clear hi8
  obtain ⟨X, hX⟩ : ∃ X, X = Mine g p.vl := ⟨_, rfl⟩
  have HT1 : Hid (OffT X w p.l1 lay) := Lib.hid (by rw [hX]; exact h.t1)
  have HM : Hid (OffW X w p.vm m) := Lib.hid (by rw [hX]; exact h.mem)
  have hXB : ∀ k, X k → k < w.heap.size := by
    intro k hk
    rw [hX] at hk
    rcases hk with rfl | hk
    · exact h.ply.box.lt
    · exact (h.laid.row.lt k hk).2
  have HXB := Lib.hid hXB
  have HS : Hid (∀ W, Below w.heap.size w W → W.rangeAt g 7 p.l1 ∧ W.cell? ⟨g, 0, none⟩ = some p.vm) := Lib.hid fun W hW => by
    have hp := h.ply.kept hW
    exact ⟨hp.r1, hp.low 0 (by omega)⟩
  have HXX := Lib.hid hX
  clear hX hXB h
  go_enter Try.func67, Try.ntmps67
  go_upto_region 1 with fail
  go_cut [2, 3] (fun s2 v9 wx => ∃ (g12 : Nat) (cl : List Value), s2 = .pointer (some ⟨g12, 0, none⟩) ∧ Hid (Aft X w wx g12 cl v9 (stepT lay m).1 (stepT lay m).2))
  case first =>
    refine wp_region_held_drew (S := fun W => W.rangeAt g 7 p.l1 ∧ W.cell? ⟨g, 0, none⟩ = some p.vm) (by kernel_rfl) (HS.out w (Below.refl _ _)) (fun hHeld => ?_)
    refine take_at (i := 0) (v := .pointer (some ⟨g, 0, none⟩)) rfl rfl (by kernel_rfl) (by kernel_rfl) (by kernel_rfl) (fun _ _ _ h => h) (Or.inl ⟨by rfl, fun w hw => ?_⟩) hHeld ?_
    · go_simp
    simp only [List.setIfInBounds_toArray, List.set_cons_zero, List.set_cons_succ]
    refine take_at (i := 1) (v := .pointer (some ⟨g, 0, none⟩)) rfl rfl (by kernel_rfl) (by kernel_rfl) (by kernel_rfl) (fun _ _ _ h => h) (Or.inl ⟨by rfl, fun w hw => ?_⟩) hHeld ?_
    · go_simp
    simp only [List.setIfInBounds_toArray, List.set_cons_zero, List.set_cons_succ]
    refine take_at (i := 2) (v := .pointer (some ⟨g, 7, none⟩)) rfl rfl (by kernel_rfl) (by kernel_rfl) (by kernel_rfl) (fun _ _ _ h => h) (Or.inl ⟨by rfl, fun w hw => ?_⟩) hHeld ?_
    · go_simp
    simp only [List.setIfInBounds_toArray, List.set_cons_zero, List.set_cons_succ]
    refine take_at (i := 3) (v := .agg p.l1.toArray) rfl rfl (by kernel_rfl) (by kernel_rfl) (by kernel_rfl) (fun _ _ _ h => h)
      (yieldsIf_load_mid (by rfl) 42 _ rfl g (7) rfl p.l1 _ (fun _ h => h.1) Try.underlying42 rfl HI8.out) hHeld ?_
    simp only [List.setIfInBounds_toArray, List.set_cons_zero, List.set_cons_succ]
    refine take_at (i := 4) (v := .pointer (some ⟨g, 0, none⟩)) rfl rfl (by kernel_rfl) (by kernel_rfl) (by kernel_rfl) (fun _ _ _ h => h) (Or.inl ⟨by rfl, fun w hw => ?_⟩) hHeld ?_
    · go_simp
    simp only [List.setIfInBounds_toArray, List.set_cons_zero, List.set_cons_succ]
    refine take_at (i := 5) (v := .pointer (some ⟨g, 0, none⟩)) rfl rfl (by kernel_rfl) (by kernel_rfl) (by kernel_rfl) (fun _ _ _ h => h) (Or.inl ⟨by rfl, fun w hw => ?_⟩) hHeld ?_
    · go_simp
    simp only [List.setIfInBounds_toArray, List.set_cons_zero, List.set_cons_succ]
    refine take_at (i := 6) (v := .pointer (some ⟨g, 0, none⟩)) rfl rfl (by kernel_rfl) (by kernel_rfl) (by kernel_rfl) (fun _ _ _ h => h) (Or.inl ⟨by rfl, fun w hw => ?_⟩) hHeld ?_
    · go_simp
    simp only [List.setIfInBounds_toArray, List.set_cons_zero, List.set_cons_succ]
    refine take_at (i := 7) (v := p.vm) rfl rfl (by kernel_rfl) (by kernel_rfl) (by kernel_rfl) (fun _ _ _ h => h) (Or.inl ⟨by rfl, fun w hw => ?_⟩) hHeld ?_
    · have h0 := hw.2; go_simp
    simp only [List.setIfInBounds_toArray, List.set_cons_zero, List.set_cons_succ]
    refine any_at fun W6 hW6 => ?_
    have HD0 : Hid (Below w.heap.size w W6) := Lib.hid (by rw [hW6]; exact ⟨rfl, rfl, rfl, Nat.le_refl _, fun _ _ => rfl⟩)
    replace hHeld := HS.out _ HD0.out
    clear hW6
    refine wpAnyH_ready (rs := [8, 12]) (by kernel_rfl) (by simp) ?_
    refine AllReadyH.cons rfl (fun KQ hKQ => ?_) (AllReadyH.cons rfl (fun KQ hKQ => ?_) AllReadyH.nil)
    · go_simp
      refine (step_call (HT1.out.chg (Chg.of HD0.out)).task (HM.out.chg (Chg.of HD0.out)).words).mono ?_
      rintro e wb1 ⟨v8, v9, rfl, ht9, ho9, hb9⟩
      have hT9 := ht9 wb1 ((HT1.out.chg (Chg.of HD0.out)).chg (Chg.of hb9)).task
      obtain ⟨cl9, rfl, hsz9, hone9, _, _, _⟩ := hT9.list
      have HSZ9 := Lib.hid hsz9
      have HONE9 := Lib.hid hone9
      have HA9 := Lib.hid ht9
      have HM9 : Hid (Own wb1 w.heap.size v9 (stepT lay m).2) := Lib.hid ⟨row_base ho9.1 HD0.out.size, ho9.2⟩
      have HD1 : Hid (Below w.heap.size w wb1) := Lib.hid (below_call HD0.out hb9 HD0.out.size)
      clear ht9 ho9 hT9 hsz9 hone9
      refine hKQ.out _ _ (HS.out _ HD1.out) (fun hHeld => ?_)
      clear hKQ KQ hb9
      refine take_at (i := 9) (v := .tuple #[.agg cl9.toArray, v9]) rfl rfl (by kernel_rfl) (by kernel_rfl) (by kernel_rfl) (fun _ _ _ h => h) (Or.inl ⟨by rfl, fun w hw => ?_⟩) hHeld ?_
      · go_simp
      simp only [List.setIfInBounds_toArray, List.set_cons_zero, List.set_cons_succ]
      refine take_at (i := 10) (v := .agg cl9.toArray) rfl rfl (by kernel_rfl) (by kernel_rfl) (by kernel_rfl) (fun _ _ _ h => h) (Or.inl ⟨by rfl, fun w hw => ?_⟩) hHeld ?_
      · go_simp
      simp only [List.setIfInBounds_toArray, List.set_cons_zero, List.set_cons_succ]
      refine take_at (i := 11) (v := v9) rfl rfl (by kernel_rfl) (by kernel_rfl) (by kernel_rfl) (fun _ _ _ h => h) (Or.inl ⟨by rfl, fun w hw => ?_⟩) hHeld ?_
      · go_simp
      simp only [List.setIfInBounds_toArray, List.set_cons_zero, List.set_cons_succ]
      refine wpAnyH_ready (rs := [12]) (by kernel_rfl) (by simp) ?_
      refine AllReadyH.cons rfl (fun KQ hKQ => ?_) AllReadyH.nil
      go_simp
      refine hKQ.out _ _ (HS.out _ (HD1.out.alloc HD1.out.size _)) (fun hHeld0 => ?_)
      clear hKQ KQ hHeld0
      refine any_at fun wb2 hwb2 => ?_
      have hxz : ∃ Z, Box wb2 wb1.heap.size 42 Z ∧ Z.size = 36 := by rw [hwb2]; exact ⟨_, Box.new _ _ _, rfl⟩
      obtain ⟨Z12, hxz1, hxz2⟩ := hxz
      have HX12 := Lib.hid hxz1
      have HZ12 := Lib.hid hxz2
      have HD2 : Hid (Below w.heap.size w wb2) := Lib.hid (by rw [hwb2]; exact HD1.out.alloc HD1.out.size _)
      have HG12 : Hid (w.heap.size ≤ wb1.heap.size) := Lib.hid HD1.out.size
      have HNE : Hid (∀ k, v9.ownBlock = some k → k ≠ wb1.heap.size) := Lib.hid (fun k hk => by have := (HM9.out.1.lt k hk).2; omega)
      replace HM9 : Hid (Own wb2 w.heap.size v9 (stepT lay m).2) := Lib.hid (by rw [hwb2]; exact ⟨HM9.out.1.alloc _, HM9.out.2⟩)
      have hHeld := HS.out _ HD2.out
      clear hwb2 hxz1 hxz2
      generalize wb1.heap.size = g12 at *
      refine wpAnyH_ready (rs := [13]) (by kernel_rfl) (by simp) ?_
      refine AllReadyH.cons rfl (fun KQ hKQ => ?_) AllReadyH.nil
      rw [if_pos (by rfl)]
      refine wp_store_mid 42 _ _ rfl g12 0 cl9.toArray rfl rfl (HX12.out.thereAll (by simp [HSZ9.out, HZ12.out])) (by rw [List.size_toArray, HSZ9.out]; exact size_task) HONE9.out ?_
      have hbx : Box (wb2.setCells g12 0 cl9) g12 42 cl9.toArray := HX12.out.setCells_all (by simp [HSZ9.out, HZ12.out])
      have hbf : Below w.heap.size w (wb2.setCells g12 0 cl9) := Below.setCells HD2.out HD2.out.size HG12.out _ _
      have hot : OffT X (wb2.setCells g12 0 cl9) cl9 (stepT lay m).1 := (HT1.out.chg (Chg.of hbf)).step HA9.out
      have hom : OffW X (wb2.setCells g12 0 cl9) v9 (stepT lay m).2 := OffW.new (own_setCells_off HM9.out HNE.out _ _) HXB.out
      refine hKQ.out _ _ (HS.out _ hbf) (fun hHeld => ?_)
      clear hKQ KQ
      refine wpAnyH_ready (rs := [14]) (by kernel_rfl) (by simp) ?_
      refine AllReadyH.cons rfl (fun KQ hKQ => ?_) AllReadyH.nil
      go_simp
      refine hKQ.out _ _ (HS.out _ hbf) (fun hHeld => ?_)
      clear hKQ KQ
      refine wpAnyH_done (by kernel_rfl) ?_ _
      have HAFT := Lib.hid (Aft.mk hbx HSZ9.out HONE9.out hot hom hbf HG12.out)
      clear hbx hbf hot hom
      go_wp2_with fail
      go_meet
      case rel => exact ⟨g12, cl9, rfl, HAFT⟩
    · go_simp
      refine hKQ.out _ _ (HS.out _ (HD0.out.alloc HD0.out.size _)) (fun hHeld0 => ?_)
      clear hKQ KQ hHeld0
      refine any_at fun wb1 hwb1 => ?_
      have hxz : ∃ Z, Box wb1 W6.heap.size 42 Z ∧ Z.size = 36 := by rw [hwb1]; exact ⟨_, Box.new _ _ _, rfl⟩
      obtain ⟨Z12, hxz1, hxz2⟩ := hxz
      have HX12 := Lib.hid hxz1
      have HZ12 := Lib.hid hxz2
      have HD1 : Hid (Below w.heap.size w wb1) := Lib.hid (by rw [hwb1]; exact HD0.out.alloc HD0.out.size _)
      have HG12 : Hid (w.heap.size ≤ W6.heap.size) := Lib.hid HD0.out.size
      have hHeld := HS.out _ HD1.out
      clear hwb1 hxz1 hxz2
      generalize W6.heap.size = g12 at *
      refine wpAnyH_ready (rs := [8]) (by kernel_rfl) (by simp) ?_
      refine AllReadyH.cons rfl (fun KQ hKQ => ?_) AllReadyH.nil
      go_simp
      refine (step_call (HT1.out.chg (Chg.of HD1.out)).task (HM.out.chg (Chg.of HD1.out)).words).mono ?_
      rintro e wb2 ⟨v8, v9, rfl, ht9, ho9, hb9⟩
      have hT9 := ht9 wb2 ((HT1.out.chg (Chg.of HD1.out)).chg (Chg.of hb9)).task
      obtain ⟨cl9, rfl, hsz9, hone9, _, _, _⟩ := hT9.list
      have HSZ9 := Lib.hid hsz9
      have HONE9 := Lib.hid hone9
      have HA9 := Lib.hid ht9
      have HM9 : Hid (Own wb2 w.heap.size v9 (stepT lay m).2) := Lib.hid ⟨row_base ho9.1 HD1.out.size, ho9.2⟩
      have HD2 : Hid (Below w.heap.size w wb2) := Lib.hid (below_call HD1.out hb9 HD1.out.size)
      have HNE : Hid (∀ k, v9.ownBlock = some k → k ≠ g12) := Lib.hid (fun k hk => by have h1 := (ho9.1.lt k hk).1; have h2 := HX12.out.lt; omega)
      replace HX12 := Lib.hid (HX12.out.kept hb9)
      clear ht9 ho9 hT9 hsz9 hone9
      refine hKQ.out _ _ (HS.out _ HD2.out) (fun hHeld => ?_)
      clear hKQ KQ hb9
      refine take_at (i := 9) (v := .tuple #[.agg cl9.toArray, v9]) rfl rfl (by kernel_rfl) (by kernel_rfl) (by kernel_rfl) (fun _ _ _ h => h) (Or.inl ⟨by rfl, fun w hw => ?_⟩) hHeld ?_
      · go_simp
      simp only [List.setIfInBounds_toArray, List.set_cons_zero, List.set_cons_succ]
      refine take_at (i := 10) (v := .agg cl9.toArray) rfl rfl (by kernel_rfl) (by kernel_rfl) (by kernel_rfl) (fun _ _ _ h => h) (Or.inl ⟨by rfl, fun w hw => ?_⟩) hHeld ?_
      · go_simp
      simp only [List.setIfInBounds_toArray, List.set_cons_zero, List.set_cons_succ]
      refine take_at (i := 11) (v := v9) rfl rfl (by kernel_rfl) (by kernel_rfl) (by kernel_rfl) (fun _ _ _ h => h) (Or.inl ⟨by rfl, fun w hw => ?_⟩) hHeld ?_
      · go_simp
      simp only [List.setIfInBounds_toArray, List.set_cons_zero, List.set_cons_succ]
      refine wpAnyH_ready (rs := [13]) (by kernel_rfl) (by simp) ?_
      refine AllReadyH.cons rfl (fun KQ hKQ => ?_) AllReadyH.nil
      rw [if_pos (by rfl)]
      refine wp_store_mid 42 _ _ rfl g12 0 cl9.toArray rfl rfl (HX12.out.thereAll (by simp [HSZ9.out, HZ12.out])) (by rw [List.size_toArray, HSZ9.out]; exact size_task) HONE9.out ?_
      have hbx : Box (wb2.setCells g12 0 cl9) g12 42 cl9.toArray := HX12.out.setCells_all (by simp [HSZ9.out, HZ12.out])
      have hbf : Below w.heap.size w (wb2.setCells g12 0 cl9) := Below.setCells HD2.out HD2.out.size HG12.out _ _
      have hot : OffT X (wb2.setCells g12 0 cl9) cl9 (stepT lay m).1 := (HT1.out.chg (Chg.of hbf)).step HA9.out
      have hom : OffW X (wb2.setCells g12 0 cl9) v9 (stepT lay m).2 := OffW.new (own_setCells_off HM9.out HNE.out _ _) HXB.out
      refine hKQ.out _ _ (HS.out _ hbf) (fun hHeld => ?_)
      clear hKQ KQ
      refine wpAnyH_ready (rs := [14]) (by kernel_rfl) (by simp) ?_
      refine AllReadyH.cons rfl (fun KQ hKQ => ?_) AllReadyH.nil
      go_simp
      refine hKQ.out _ _ (HS.out _ hbf) (fun hHeld => ?_)
      clear hKQ KQ
      refine wpAnyH_done (by kernel_rfl) ?_ _
      have HAFT := Lib.hid (Aft.mk hbx HSZ9.out HONE9.out hot hom hbf HG12.out)
      clear hbx hbf hot hom
      go_wp2_with fail
      go_meet
      case rel => exact ⟨g12, cl9, rfl, HAFT⟩
  case rest =>
    obtain ⟨g12, cl9, rfl, HA⟩ := hcut
    obtain ⟨hls, hlaw⟩ := rt_layer hb hc hc' HI.out.law (by have := HI.out.few; rw [List.length_map]; omega)
    rw [List.length_map] at hlaw
    have hne : g12 ≠ g := by have h1 := HI.out.ply.box.lt; have h2 := HA.out.new; omega
    have hgl : g < w.heap.size := HI.out.ply.box.lt
    have HPL : Hid (PlyB wc g p) := Lib.hid (HI.out.ply.kept HA.out.below)
    obtain ⟨_, _, x34, x35⟩ := HA.out.task.size
    obtain ⟨A9, p9, hv9, _, _⟩ := row_form HA.out.mem.1.1
    subst hv9
    have HLAW := Lib.hid hlaw
    have HNE := Lib.hid hne
    have HGL := Lib.hid hgl
    have HLS := Lib.hid hls
    generalize hTT : (stepT lay m).1 = T9 at *
    generalize hMM : (stepT lay m).2 = m9 at *
    clear hlaw hTT hMM hls hgl
    go_wp2_with (first | with_reducible refine mid_stop 42 _ rfl ?_ | with_reducible refine storeM_stop rfl 42 _ _ rfl ?_)
    refine AtMid.go rfl g12 0 rfl HA.out.box.range Try.underlying42 rfl (by rw [HA.out.len]; exact size_task) ?_
    go_wp2_with (first | with_reducible refine mid_stop 42 _ rfl ?_ | with_reducible refine storeM_stop rfl 42 _ _ rfl ?_)
    refine AtStoreM.go g 7 (cs := cl9) rfl rfl (HPL.out.t1 HA.out.len) (by rw [HA.out.len]; exact size_task) HA.out.one ?_
    refine wpl_at fun W1 hW1 => ?_
    have PB1 : Hid (PlyB W1 g { p with l1 := cl9 }) := Lib.hid (by rw [hW1]; exact HPL.out.set1 HA.out.len)
    have BX1 : Hid (Box W1 g12 42 cl9.toArray) := Lib.hid (by rw [hW1]; exact HA.out.box.chg (X := (· = g)) (Chg.setCells (X := (· = g)) rfl 7 cl9) HNE.out)
    have CH1 : Hid (Chg (· = g) wc W1) := Lib.hid (by rw [hW1]; exact Chg.setCells (X := (· = g)) rfl 7 cl9)
    clear hW1
    have c79 : W1.cell? ⟨g, 79, none⟩ = some (.int .i64 (ls : Int)) := (PB1.out.high 0).trans (by simp [HI.out.lays_is])
    have c81 : W1.cell? ⟨g, 81, none⟩ = some (.bool true) := (PB1.out.high 2).trans (by simp [HI.out.ok_is])
    have c0 : W1.cell? ⟨g, 0, none⟩ = some p.vm := PB1.out.low 0 (by omega)
    have c3 : W1.cell? ⟨g, 3, none⟩ = some (.int .i64 ((L.length + D : Nat) : Int)) := (PB1.out.low 3 (by omega)).trans (by simp [HI.out.next_is])
    have f0 := PB1.out.fz 0
    have f79 := PB1.out.fz 79
    have f81 := PB1.out.fz 81
    have d34 : W1.cell? ⟨g12, 34, none⟩ = some (.bool T9.t.done) := (BX1.out.cell 34).trans (by simpa using x34)
    have d35 : W1.cell? ⟨g12, 35, none⟩ = some (.int .i64 T9.t.ans) := (BX1.out.cell 35).trans (by simpa using x35)
    have hw79 : IntKind.i64.wrap ((ls : Int) + 1) = ((ls : Int) + 1) := by have := HLS.out; rw [IntKind.wrap_i64]; omega
    have hl8 : decide (((ls : Int) + 1) ≤ 8) = true := decide_eq_true (by have := HLS.out; omega)
    clear x34 x35
    rcases HLAW.out with ⟨hd, hrt⟩ | ⟨hd, ha, hrt⟩ | ⟨hd, ha, hrt⟩
    · rw [hd] at d34
      have HRT := Lib.hid hrt
      clear hd hrt d35 c3
      have HF : Hid (PlayI base g w0 (((W1.setCell ⟨g, 0, none⟩ (.slice A9 m9.length p9)).setCell ⟨g, 79, none⟩ (.int .i64 ((ls : Int) + 1))).setCell ⟨g, 81, none⟩ (.bool true)) b c (s + 1) { p with l1 := cl9, vm := .slice A9 m9.length p9, lays := ((ls : Int) + 1), ok := true } m9 L D T T9 take (ls + 1) ps) := Lib.hid (by
        have hch : Chg (· = g) W1 (((W1.setCell ⟨g, 0, none⟩ (.slice A9 m9.length p9)).setCell ⟨g, 79, none⟩ (.int .i64 ((ls : Int) + 1))).setCell ⟨g, 81, none⟩ (.bool true)) := ((Chg.setCell (X := (· = g)) rfl _).trans (Chg.setCell (X := (· = g)) rfl _)).trans (Chg.setCell (X := (· = g)) rfl _)
        have hcm := (CH1.out.trans hch).mono (Y := Mine g p.vl) fun k _ e => .inl e
        exact HI.out.next ((Chg.of HA.out.below).trans (CH1.out.trans hch)) (((PB1.out.putVm _).putLays _).putOk true) rfl rfl rfl HI.out.next_is HI.out.drops_is HI.out.taken_is rfl HI.out.pops_is rfl
          (HXX.out ▸ (HA.out.mem.chg (HXX.out ▸ hcm))) (HXX.out ▸ (HA.out.task.chg (HXX.out ▸ hcm))) (HXX.out ▸ ((HXX.out ▸ HI.out.t2 : OffT X w p.l2 take).chg ((Chg.of HA.out.below).trans (HXX.out ▸ hcm)))) HRT.out (by have := HI.out.few; omega))
      go_wp2
      (try simp only [Exit.inBlock, Exit.then])
      refine bodyPost_ret (results_none rfl _ _ _) rfl ?_
      exact ⟨rfl, _, _, _, _, _, _, _, _, _, HF.out⟩
    · rw [hd] at d34
      rw [ha] at d35
      have HRT := Lib.hid hrt
      clear hd ha hrt c3
      go_wp2_with fail
      refine wp_at fun W2 hW2 => ?_
      have PB2 : Hid (PlyB W2 g { p with l1 := cl9, vm := .slice A9 m9.length p9, lays := (ls : Int) + 1, ok := true }) := Lib.hid (by rw [hW2]; exact ((PB1.out.putVm _).putLays _).putOk true)
      have CH2 : Hid (Chg (· = g) wc W2) := Lib.hid (by rw [hW2]; exact CH1.out.trans (((Chg.setCell (X := (· = g)) rfl _).trans (Chg.setCell (X := (· = g)) rfl _)).trans (Chg.setCell (X := (· = g)) rfl _)))
      clear hW2 c79 c81 c0 f0 f79 f81 d34 d35 hw79 hl8
      obtain ⟨Al, pl, hvl, hvl1, hvl2⟩ := row_form HI.out.laid.row
      unfold maxLen at hvl2
      have HVL := Lib.hid hvl
      clear hvl
      obtain ⟨nx, hnx⟩ : ∃ nx : Nat, nx = L.length + D := ⟨_, rfl⟩
      have HNX := Lib.hid hnx
      clear hnx
      have HSV : Hid (∀ V, PlyB V g { p with l1 := cl9, vm := .slice A9 m9.length p9, lays := (ls : Int) + 1, ok := true } → V.cell? ⟨g, 3, none⟩ = some (.int .i64 (nx : Int)) ∧ V.cell? ⟨g, 4, none⟩ = some (.slice Al L.length pl)) := Lib.hid fun V hp => by
        exact ⟨(hp.low 3 (by omega)).trans (by simp [HI.out.next_is, HNX.out]), (hp.low 4 (by omega)).trans (by simp [HVL.out])⟩
      obtain ⟨i0, hi0, hz0, hz1, hz2⟩ := info_parts info_words
      have HI0 := Lib.hid hi0
      have HZ0 := Lib.hid hz0
      have HZ1 := Lib.hid hz1
      have HZ2 := Lib.hid hz2
      clear hi0 hz0 hz1 hz2
      have HXM : Hid (∀ k, Mine g p.vl k → k < W2.heap.size) := Lib.hid fun k hk => by
        have h2 := HA.out.below.size; have h3 := CH2.out.size
        have h1 := HXB.out k (by rw [HXX.out]; exact hk)
        omega
      have HROW : Hid (W2.ownsRow base 22 1 p.vl L.length (L.map (·.1))) := Lib.hid (row_chg HI.out.laid.row ((Chg.of HA.out.below).trans CH2.out) (fun k hk e => HI.out.ne (by rw [hk, e])))
      go_upto_region 10 with fail
      go_cut [] (fun wx => ∃ (V3 : World) (A62 : Option Addr) (p62 : Nat) (v15 : Value), wx = V3.setCell ⟨g, 4, none⟩ (.slice A62 (L.length + 1) p62) ∧ Hid (Apd base g p.vl W2 V3 { p with l1 := cl9, vm := .slice A9 m9.length p9, lays := (ls : Int) + 1, ok := true } L (nx : Int) v15 (.slice A62 (L.length + 1) p62)))
      case first =>
        refine wp_region_held_drew (S := fun V => V.cell? ⟨g, 3, none⟩ = some (.int .i64 (nx : Int))) (by kernel_rfl) ((HSV.out W2 PB2.out).1) (fun hHeld => ?_)
        refine take_at (i := 0) (v := .pointer (some ⟨g, 0, none⟩)) rfl rfl (by kernel_rfl) (by kernel_rfl) (by kernel_rfl) (fun _ _ _ h => h) (Or.inl ⟨by rfl, fun w hw => ?_⟩) hHeld ?_
        · go_simp
        simp only [List.setIfInBounds_toArray, List.set_cons_zero, List.set_cons_succ]
        refine take_at (i := 1) (v := .pointer (some ⟨g, 0, none⟩)) rfl rfl (by kernel_rfl) (by kernel_rfl) (by kernel_rfl) (fun _ _ _ h => h) (Or.inl ⟨by rfl, fun w hw => ?_⟩) hHeld ?_
        · go_simp
        simp only [List.setIfInBounds_toArray, List.set_cons_zero, List.set_cons_succ]
        refine take_at (i := 2) (v := .pointer (some ⟨g, 0, none⟩)) rfl rfl (by kernel_rfl) (by kernel_rfl) (by kernel_rfl) (fun _ _ _ h => h) (Or.inl ⟨by rfl, fun w hw => ?_⟩) hHeld ?_
        · go_simp
        simp only [List.setIfInBounds_toArray, List.set_cons_zero, List.set_cons_succ]
        refine take_at (i := 3) (v := .pointer (some ⟨g, 4, none⟩)) rfl rfl (by kernel_rfl) (by kernel_rfl) (by kernel_rfl) (fun _ _ _ h => h) (Or.inl ⟨by rfl, fun w hw => ?_⟩) hHeld ?_
        · go_simp
        simp only [List.setIfInBounds_toArray, List.set_cons_zero, List.set_cons_succ]
        refine take_at (i := 5) (v := .pointer (some ⟨g, 0, none⟩)) rfl rfl (by kernel_rfl) (by kernel_rfl) (by kernel_rfl) (fun _ _ _ h => h) (Or.inl ⟨by rfl, fun w hw => ?_⟩) hHeld ?_
        · go_simp
        simp only [List.setIfInBounds_toArray, List.set_cons_zero, List.set_cons_succ]
        refine take_at (i := 6) (v := .pointer (some ⟨g, 0, none⟩)) rfl rfl (by kernel_rfl) (by kernel_rfl) (by kernel_rfl) (fun _ _ _ h => h) (Or.inl ⟨by rfl, fun w hw => ?_⟩) hHeld ?_
        · go_simp
        simp only [List.setIfInBounds_toArray, List.set_cons_zero, List.set_cons_succ]
        refine take_at (i := 7) (v := .pointer (some ⟨g, 3, none⟩)) rfl rfl (by kernel_rfl) (by kernel_rfl) (by kernel_rfl) (fun _ _ _ h => h) (Or.inl ⟨by rfl, fun w hw => ?_⟩) hHeld ?_
        · go_simp
        simp only [List.setIfInBounds_toArray, List.set_cons_zero, List.set_cons_succ]
        refine take_at (i := 8) (v := .int .i64 (nx : Int)) rfl rfl (by kernel_rfl) (by kernel_rfl) (by kernel_rfl) (fun _ _ _ h => h) (Or.inl ⟨by rfl, fun w hw => ?_⟩) hHeld ?_
        · have h0 := hw; go_simp
        simp only [List.setIfInBounds_toArray, List.set_cons_zero, List.set_cons_succ]
        refine any_at fun V0 hV0 => ?_
        have HB0 : Hid (Below W2.heap.size W2 V0) := Lib.hid (by rw [hV0]; exact ⟨rfl, rfl, rfl, Nat.le_refl _, fun _ _ => rfl⟩)
        clear hV0
        refine wpAnyH_ready (rs := [4, 9]) (by kernel_rfl) (by simp) ?_
        refine AllReadyH.cons rfl (fun KQ hKQ => ?_) (AllReadyH.cons rfl (fun KQ hKQ => ?_) AllReadyH.nil)
        · have q4 := (HSV.out _ (PB2.out.kept HB0.out)).2
          go_simp
          refine hKQ.out _ _ (HSV.out _ (PB2.out.kept HB0.out)).1 (fun hHeld => ?_)
          clear hKQ KQ q4
          refine wpAnyH_ready (rs := [9]) (by kernel_rfl) (by simp) ?_
          refine AllReadyH.cons rfl (fun KQ hKQ => ?_) AllReadyH.nil
          go_simp
          refine (words14_own _ _).mono ?_
          rintro e V1 ⟨v15, rfl, ho5, hb5⟩
          have HB1 : Hid (Below W2.heap.size W2 V1) := Lib.hid (below_call HB0.out hb5 HB0.out.size)
          obtain ⟨A5, p5, hv15, _, _⟩ := row_form ho5.1
          subst hv15
          have HO5 : Hid (Own V1 W2.heap.size (.slice A5 (wordsR (nx : Int)).length p5) (wordsR (nx : Int))) := Lib.hid ⟨row_base ho5.1 HB0.out.size, ho5.2⟩
          refine hKQ.out _ _ (HSV.out _ (PB2.out.kept HB1.out)).1 (fun hHeld => ?_)
          clear hKQ KQ ho5 hb5
          refine wpAnyH_ready (rs := [10]) (by kernel_rfl) (by simp) ?_
          refine AllReadyH.cons rfl (fun KQ hKQ => ?_) AllReadyH.nil
          go_simp
          refine hKQ.out _ _ (HSV.out _ ((PB2.out.kept HB1.out).kept ((Below.refl _ _).alloc (Nat.le_refl _) _))).1 (fun hHeld0 => ?_)
          clear hKQ KQ hHeld0
          refine any_at fun V2 hV2 => ?_
          have HN2 : Hid (Sl V2 (.slice (some ⟨V1.heap.size, 0, none⟩) 1 1) 1 1 [.slice A5 (wordsR (nx : Int)).length p5]) := Lib.hid (by rw [hV2]; exact Sl.of_own (own_new _ _ 1 #[.slice A5 (wordsR (nx : Int)).length p5] 1 rfl (by decide)))
          have HB2 : Hid (Below V1.heap.size V1 V2) := Lib.hid (by rw [hV2]; exact (Below.refl _ _).alloc (Nat.le_refl _) _)
          have HS2 : Hid (V1.heap.size < V2.heap.size) := Lib.hid (by rw [hV2]; simp)
          clear hV2
          refine wpAnyH_ready (rs := [11]) (by kernel_rfl) (by simp) ?_
          refine AllReadyH.cons rfl (fun KQ hKQ => ?_) AllReadyH.nil
          rw [if_pos (by rfl)]
          refine wp_append_sl _ _ _ 48 rfl base 22 i0 _ 1 24 Try.underlying48 HI0.out HZ0.out HZ1.out HZ2.out rfl (by decide) (.slice Al L.length pl) L.length (L.map (·.1)) rfl (by have := row_chg (X := (· = g)) (row_chg (X := (· = g)) HROW.out (Chg.of HB1.out) (fun k hk e => HI.out.ne (by rw [hk, e]))) (Chg.of HB2.out) (fun k hk e => HI.out.ne (by rw [hk, e])); rwa [HVL.out] at this) (.slice (some ⟨V1.heap.size, 0, none⟩) 1 1) 1 [.slice A5 (wordsR (nx : Int)).length p5] rfl HN2.out ?_ (by have := HI.out.few; simp only [maxLen]; omega) (by have := HI.out.few; omega) (by have h0 := HI.out.lo; have h1 := HXM.out g (.inl rfl); have h2 := HB1.out.size; have h3 := HB2.out.size; omega) ?_
          · intro u hu; simp at hu; subst hu; rfl
          intro v62 V3 hown hgrow hat
          obtain ⟨A62, p62, hv62, _, hq62⟩ := row_form hown
          subst hv62
          unfold maxLen at hq62
          have PB5 : Hid (PlyB V3 g { p with l1 := cl9, vm := .slice A9 m9.length p9, lays := (ls : Int) + 1, ok := true }) := Lib.hid (((((PB2.out.kept HB1.out).kept HB2.out))).chg (Chg.grown (X := fun k => p.vl.ownBlock = some k) hgrow (fun k hk => by rw [HVL.out]; exact hk)) (fun e => HI.out.ne e))
          have HAPD := Lib.hid (apd_mk HI.out.ne HXM.out HB1.out HB2.out HS2.out HO5.out hown (by rw [HVL.out]; exact hgrow) (by rw [HVL.out]; exact hat) PB5.out)
          clear hown hgrow hat
          go_simp
          refine hKQ.out _ _ (HSV.out _ PB5.out).1 (fun hHeld => ?_)
          clear hKQ KQ
          refine take_at (i := 12) (v := .pointer (some ⟨g, 0, none⟩)) rfl rfl (by kernel_rfl) (by kernel_rfl) (by kernel_rfl) (fun _ _ _ h => h) (Or.inl ⟨by rfl, fun w hw => ?_⟩) hHeld ?_
          · go_simp
          simp only [List.setIfInBounds_toArray, List.set_cons_zero, List.set_cons_succ]
          refine take_at (i := 13) (v := .pointer (some ⟨g, 4, none⟩)) rfl rfl (by kernel_rfl) (by kernel_rfl) (by kernel_rfl) (fun _ _ _ h => h) (Or.inl ⟨by rfl, fun w hw => ?_⟩) hHeld ?_
          · go_simp
          simp only [List.setIfInBounds_toArray, List.set_cons_zero, List.set_cons_succ]
          refine wpAnyH_ready (rs := [14]) (by kernel_rfl) (by simp) ?_
          refine AllReadyH.cons rfl (fun KQ hKQ => ?_) AllReadyH.nil
          have q4 := (HSV.out _ PB5.out).2
          have q4f := PB5.out.fz 4
          go_simp
          refine hKQ.out _ _ ((PB5.out.putVl _).low 3 (by omega) |>.trans ((PB5.out.low 3 (by omega)).symm.trans (HSV.out _ PB5.out).1)) (fun hHeld => ?_)
          clear hKQ KQ q4 q4f
          refine wpAnyH_done (by kernel_rfl) ?_ _
          go_wp2_with fail
          go_meet
          case rel => exact ⟨V3, A62, p62, _, rfl, HAPD⟩
        · go_simp
          refine (words14_own _ _).mono ?_
          rintro e V1 ⟨v15, rfl, ho5, hb5⟩
          have HB1 : Hid (Below W2.heap.size W2 V1) := Lib.hid (below_call HB0.out hb5 HB0.out.size)
          obtain ⟨A5, p5, hv15, _, _⟩ := row_form ho5.1
          subst hv15
          have HO5 : Hid (Own V1 W2.heap.size (.slice A5 (wordsR (nx : Int)).length p5) (wordsR (nx : Int))) := Lib.hid ⟨row_base ho5.1 HB0.out.size, ho5.2⟩
          refine hKQ.out _ _ (HSV.out _ (PB2.out.kept HB1.out)).1 (fun hHeld => ?_)
          clear hKQ KQ ho5 hb5
          refine wpAnyH_ready (rs := [4, 10]) (by kernel_rfl) (by simp) ?_
          refine AllReadyH.cons rfl (fun KQ hKQ => ?_) (AllReadyH.cons rfl (fun KQ hKQ => ?_) AllReadyH.nil)
          · have q4 := (HSV.out _ (PB2.out.kept HB1.out)).2
            go_simp
            refine hKQ.out _ _ (HSV.out _ (PB2.out.kept HB1.out)).1 (fun hHeld => ?_)
            clear hKQ KQ q4
            refine wpAnyH_ready (rs := [10]) (by kernel_rfl) (by simp) ?_
            refine AllReadyH.cons rfl (fun KQ hKQ => ?_) AllReadyH.nil
            go_simp
            refine hKQ.out _ _ (HSV.out _ ((PB2.out.kept HB1.out).kept ((Below.refl _ _).alloc (Nat.le_refl _) _))).1 (fun hHeld0 => ?_)
            clear hKQ KQ hHeld0
            refine any_at fun V2 hV2 => ?_
            have HN2 : Hid (Sl V2 (.slice (some ⟨V1.heap.size, 0, none⟩) 1 1) 1 1 [.slice A5 (wordsR (nx : Int)).length p5]) := Lib.hid (by rw [hV2]; exact Sl.of_own (own_new _ _ 1 #[.slice A5 (wordsR (nx : Int)).length p5] 1 rfl (by decide)))
            have HB2 : Hid (Below V1.heap.size V1 V2) := Lib.hid (by rw [hV2]; exact (Below.refl _ _).alloc (Nat.le_refl _) _)
            have HS2 : Hid (V1.heap.size < V2.heap.size) := Lib.hid (by rw [hV2]; simp)
            clear hV2
            refine wpAnyH_ready (rs := [11]) (by kernel_rfl) (by simp) ?_
            refine AllReadyH.cons rfl (fun KQ hKQ => ?_) AllReadyH.nil
            rw [if_pos (by rfl)]
            refine wp_append_sl _ _ _ 48 rfl base 22 i0 _ 1 24 Try.underlying48 HI0.out HZ0.out HZ1.out HZ2.out rfl (by decide) (.slice Al L.length pl) L.length (L.map (·.1)) rfl (by have := row_chg (X := (· = g)) (row_chg (X := (· = g)) HROW.out (Chg.of HB1.out) (fun k hk e => HI.out.ne (by rw [hk, e]))) (Chg.of HB2.out) (fun k hk e => HI.out.ne (by rw [hk, e])); rwa [HVL.out] at this) (.slice (some ⟨V1.heap.size, 0, none⟩) 1 1) 1 [.slice A5 (wordsR (nx : Int)).length p5] rfl HN2.out ?_ (by have := HI.out.few; simp only [maxLen]; omega) (by have := HI.out.few; omega) (by have h0 := HI.out.lo; have h1 := HXM.out g (.inl rfl); have h2 := HB1.out.size; have h3 := HB2.out.size; omega) ?_
            · intro u hu; simp at hu; subst hu; rfl
            intro v62 V3 hown hgrow hat
            obtain ⟨A62, p62, hv62, _, hq62⟩ := row_form hown
            subst hv62
            unfold maxLen at hq62
            have PB5 : Hid (PlyB V3 g { p with l1 := cl9, vm := .slice A9 m9.length p9, lays := (ls : Int) + 1, ok := true }) := Lib.hid (((((PB2.out.kept HB1.out).kept HB2.out))).chg (Chg.grown (X := fun k => p.vl.ownBlock = some k) hgrow (fun k hk => by rw [HVL.out]; exact hk)) (fun e => HI.out.ne e))
            have HAPD := Lib.hid (apd_mk HI.out.ne HXM.out HB1.out HB2.out HS2.out HO5.out hown (by rw [HVL.out]; exact hgrow) (by rw [HVL.out]; exact hat) PB5.out)
            clear hown hgrow hat
            go_simp
            refine hKQ.out _ _ (HSV.out _ PB5.out).1 (fun hHeld => ?_)
            clear hKQ KQ
            refine take_at (i := 12) (v := .pointer (some ⟨g, 0, none⟩)) rfl rfl (by kernel_rfl) (by kernel_rfl) (by kernel_rfl) (fun _ _ _ h => h) (Or.inl ⟨by rfl, fun w hw => ?_⟩) hHeld ?_
            · go_simp
            simp only [List.setIfInBounds_toArray, List.set_cons_zero, List.set_cons_succ]
            refine take_at (i := 13) (v := .pointer (some ⟨g, 4, none⟩)) rfl rfl (by kernel_rfl) (by kernel_rfl) (by kernel_rfl) (fun _ _ _ h => h) (Or.inl ⟨by rfl, fun w hw => ?_⟩) hHeld ?_
            · go_simp
            simp only [List.setIfInBounds_toArray, List.set_cons_zero, List.set_cons_succ]
            refine wpAnyH_ready (rs := [14]) (by kernel_rfl) (by simp) ?_
            refine AllReadyH.cons rfl (fun KQ hKQ => ?_) AllReadyH.nil
            have q4 := (HSV.out _ PB5.out).2
            have q4f := PB5.out.fz 4
            go_simp
            refine hKQ.out _ _ ((PB5.out.putVl _).low 3 (by omega) |>.trans ((PB5.out.low 3 (by omega)).symm.trans (HSV.out _ PB5.out).1)) (fun hHeld => ?_)
            clear hKQ KQ q4 q4f
            refine wpAnyH_done (by kernel_rfl) ?_ _
            go_wp2_with fail
            go_meet
            case rel => exact ⟨V3, A62, p62, _, rfl, HAPD⟩
          · go_simp
            refine hKQ.out _ _ (HSV.out _ ((PB2.out.kept HB1.out).kept ((Below.refl _ _).alloc (Nat.le_refl _) _))).1 (fun hHeld0 => ?_)
            clear hKQ KQ hHeld0
            refine any_at fun V2 hV2 => ?_
            have HN2 : Hid (Sl V2 (.slice (some ⟨V1.heap.size, 0, none⟩) 1 1) 1 1 [.slice A5 (wordsR (nx : Int)).length p5]) := Lib.hid (by rw [hV2]; exact Sl.of_own (own_new _ _ 1 #[.slice A5 (wordsR (nx : Int)).length p5] 1 rfl (by decide)))
            have HB2 : Hid (Below V1.heap.size V1 V2) := Lib.hid (by rw [hV2]; exact (Below.refl _ _).alloc (Nat.le_refl _) _)
            have HS2 : Hid (V1.heap.size < V2.heap.size) := Lib.hid (by rw [hV2]; simp)
            clear hV2
            refine wpAnyH_ready (rs := [4]) (by kernel_rfl) (by simp) ?_
            refine AllReadyH.cons rfl (fun KQ hKQ => ?_) AllReadyH.nil
            have q4 := (HSV.out _ ((PB2.out.kept HB1.out).kept HB2.out)).2
            go_simp
            refine hKQ.out _ _ (HSV.out _ ((PB2.out.kept HB1.out).kept HB2.out)).1 (fun hHeld => ?_)
            clear hKQ KQ q4
            refine wpAnyH_ready (rs := [11]) (by kernel_rfl) (by simp) ?_
            refine AllReadyH.cons rfl (fun KQ hKQ => ?_) AllReadyH.nil
            rw [if_pos (by rfl)]
            refine wp_append_sl _ _ _ 48 rfl base 22 i0 _ 1 24 Try.underlying48 HI0.out HZ0.out HZ1.out HZ2.out rfl (by decide) (.slice Al L.length pl) L.length (L.map (·.1)) rfl (by have := row_chg (X := (· = g)) (row_chg (X := (· = g)) HROW.out (Chg.of HB1.out) (fun k hk e => HI.out.ne (by rw [hk, e]))) (Chg.of HB2.out) (fun k hk e => HI.out.ne (by rw [hk, e])); rwa [HVL.out] at this) (.slice (some ⟨V1.heap.size, 0, none⟩) 1 1) 1 [.slice A5 (wordsR (nx : Int)).length p5] rfl HN2.out ?_ (by have := HI.out.few; simp only [maxLen]; omega) (by have := HI.out.few; omega) (by have h0 := HI.out.lo; have h1 := HXM.out g (.inl rfl); have h2 := HB1.out.size; have h3 := HB2.out.size; omega) ?_
            · intro u hu; simp at hu; subst hu; rfl
            intro v62 V3 hown hgrow hat
            obtain ⟨A62, p62, hv62, _, hq62⟩ := row_form hown
            subst hv62
            unfold maxLen at hq62
            have PB5 : Hid (PlyB V3 g { p with l1 := cl9, vm := .slice A9 m9.length p9, lays := (ls : Int) + 1, ok := true }) := Lib.hid (((((PB2.out.kept HB1.out).kept HB2.out))).chg (Chg.grown (X := fun k => p.vl.ownBlock = some k) hgrow (fun k hk => by rw [HVL.out]; exact hk)) (fun e => HI.out.ne e))
            have HAPD := Lib.hid (apd_mk HI.out.ne HXM.out HB1.out HB2.out HS2.out HO5.out hown (by rw [HVL.out]; exact hgrow) (by rw [HVL.out]; exact hat) PB5.out)
            clear hown hgrow hat
            go_simp
            refine hKQ.out _ _ (HSV.out _ PB5.out).1 (fun hHeld => ?_)
            clear hKQ KQ
            refine take_at (i := 12) (v := .pointer (some ⟨g, 0, none⟩)) rfl rfl (by kernel_rfl) (by kernel_rfl) (by kernel_rfl) (fun _ _ _ h => h) (Or.inl ⟨by rfl, fun w hw => ?_⟩) hHeld ?_
            · go_simp
            simp only [List.setIfInBounds_toArray, List.set_cons_zero, List.set_cons_succ]
            refine take_at (i := 13) (v := .pointer (some ⟨g, 4, none⟩)) rfl rfl (by kernel_rfl) (by kernel_rfl) (by kernel_rfl) (fun _ _ _ h => h) (Or.inl ⟨by rfl, fun w hw => ?_⟩) hHeld ?_
            · go_simp
            simp only [List.setIfInBounds_toArray, List.set_cons_zero, List.set_cons_succ]
            refine wpAnyH_ready (rs := [14]) (by kernel_rfl) (by simp) ?_
            refine AllReadyH.cons rfl (fun KQ hKQ => ?_) AllReadyH.nil
            have q4 := (HSV.out _ PB5.out).2
            have q4f := PB5.out.fz 4
            go_simp
            refine hKQ.out _ _ ((PB5.out.putVl _).low 3 (by omega) |>.trans ((PB5.out.low 3 (by omega)).symm.trans (HSV.out _ PB5.out).1)) (fun hHeld => ?_)
            clear hKQ KQ q4 q4f
            refine wpAnyH_done (by kernel_rfl) ?_ _
            go_wp2_with fail
            go_meet
            case rel => exact ⟨V3, A62, p62, _, rfl, HAPD⟩
      case rest =>
        obtain ⟨V3, A62, p62, v15, rfl, HP⟩ := hcut
        obtain ⟨W4, hW4⟩ : ∃ W4, W4 = V3.setCell ⟨g, 4, none⟩ (.slice A62 (L.length + 1) p62) := ⟨_, rfl⟩
        rw [← hW4]
        have PB4 : Hid (PlyB W4 g { p with l1 := cl9, vm := .slice A9 m9.length p9, lays := (ls : Int) + 1, ok := true, vl := .slice A62 (L.length + 1) p62 }) := Lib.hid (by rw [hW4]; exact HP.out.ply.putVl _)
        have CH4 : Hid (Chg (· = g) V3 W4) := Lib.hid (by rw [hW4]; exact Chg.setCell (X := (· = g)) rfl _)
        clear hW4
        have c3 : W4.cell? ⟨g, 3, none⟩ = some (.int .i64 (nx : Int)) := (PB4.out.low 3 (by omega)).trans (by simp [HI.out.next_is, HNX.out])
        have c79 : W4.cell? ⟨g, 79, none⟩ = some (.int .i64 ((ls : Int) + 1)) := PB4.out.high 0
        have f3 := PB4.out.fz 3
        have f79 := PB4.out.fz 79
        have hw3 : IntKind.i64.wrap ((nx : Int) + 1) = (nx : Int) + 1 := by have := HI.out.few; have := HNX.out; rw [IntKind.wrap_i64]; omega
        go_wp2_with fail
        refine wp_at fun W3 hW3 => ?_
        have PB3 : Hid (PlyB W3 g { p with l1 := cl9, vm := .slice A9 m9.length p9, lays := 0, ok := true, vl := .slice A62 (L.length + 1) p62, next := (nx : Int) + 1 }) := Lib.hid (by rw [hW3]; exact (PB4.out.putNext _).putLays 0)
        have CH3 : Hid (Chg (· = g) V3 W3) := Lib.hid (by rw [hW3]; exact CH4.out.trans ((Chg.setCell (X := (· = g)) rfl _).trans (Chg.setCell (X := (· = g)) rfl _)))
        clear hW3 c3 c79 f3 f79 hw3 CH4 PB4
        have HSW : Hid (∀ V, Below W3.heap.size W3 V → V.cell? ⟨g, 1, none⟩ = some (.int .i64 (b : Int)) ∧ V.cell? ⟨g, 2, none⟩ = some (.int .i64 (c : Int)) ∧ V.cell? ⟨g, 3, none⟩ = some (.int .i64 ((nx : Int) + 1)) ∧ V.cell? ⟨g, 4, none⟩ = some (.slice A62 (L.length + 1) p62)) := Lib.hid fun V hV => by
          have hp := PB3.out.kept hV
          exact ⟨(hp.low 1 (by omega)).trans (by simp [HI.out.b_is]), (hp.low 2 (by omega)).trans (by simp [HI.out.c_is]), hp.low 3 (by omega), hp.low 4 (by omega)⟩
        obtain ⟨XN, hxn⟩ : ∃ XN, XN = Mine g (.slice A62 (L.length + 1) p62) := ⟨_, rfl⟩
        have HXN : Hid (∀ k, XN k → k < W3.heap.size) := Lib.hid fun k hk => by
          rw [hxn] at hk
          have h3 := CH3.out.size
          rcases hk with rfl | hk
          · have := PB3.out.box.lt; omega
          · have := (HP.out.row.lt k hk).2; omega
        have HXE := Lib.hid hxn
        have hii : I64 ((L.length : Int) + 1) := by have := HI.out.few; unfold I64; omega
        have HII := Lib.hid hii
        clear hii hxn
        refine wp_region_held_drew (S := fun V => V.cell? ⟨g, 1, none⟩ = some (.int .i64 (b : Int)) ∧ V.cell? ⟨g, 2, none⟩ = some (.int .i64 (c : Int)) ∧ V.cell? ⟨g, 3, none⟩ = some (.int .i64 ((nx : Int) + 1)) ∧ V.cell? ⟨g, 4, none⟩ = some (.slice A62 (L.length + 1) p62)) (by kernel_rfl) (HSW.out W3 (Below.refl _ _)) (fun hHeld => ?_)
        refine take_at (i := 0) (v := .pointer (some ⟨g, 0, none⟩)) rfl rfl (by kernel_rfl) (by kernel_rfl) (by kernel_rfl) (fun _ _ _ h => h) (Or.inl ⟨by rfl, fun w hw => ?_⟩) hHeld ?_
        · go_simp
        simp only [List.setIfInBounds_toArray, List.set_cons_zero, List.set_cons_succ]
        refine take_at (i := 1) (v := .pointer (some ⟨g, 0, none⟩)) rfl rfl (by kernel_rfl) (by kernel_rfl) (by kernel_rfl) (fun _ _ _ h => h) (Or.inl ⟨by rfl, fun w hw => ?_⟩) hHeld ?_
        · go_simp
        simp only [List.setIfInBounds_toArray, List.set_cons_zero, List.set_cons_succ]
        refine take_at (i := 2) (v := .pointer (some ⟨g, 0, none⟩)) rfl rfl (by kernel_rfl) (by kernel_rfl) (by kernel_rfl) (fun _ _ _ h => h) (Or.inl ⟨by rfl, fun w hw => ?_⟩) hHeld ?_
        · go_simp
        simp only [List.setIfInBounds_toArray, List.set_cons_zero, List.set_cons_succ]
        refine take_at (i := 3) (v := .pointer (some ⟨g, 1, none⟩)) rfl rfl (by kernel_rfl) (by kernel_rfl) (by kernel_rfl) (fun _ _ _ h => h) (Or.inl ⟨by rfl, fun w hw => ?_⟩) hHeld ?_
        · go_simp
        simp only [List.setIfInBounds_toArray, List.set_cons_zero, List.set_cons_succ]
        refine take_at (i := 4) (v := .int .i64 (b : Int)) rfl rfl (by kernel_rfl) (by kernel_rfl) (by kernel_rfl) (fun _ _ _ h => h) (Or.inl ⟨by rfl, fun w hw => ?_⟩) hHeld ?_
        · have h0 := hw.1; go_simp
        simp only [List.setIfInBounds_toArray, List.set_cons_zero, List.set_cons_succ]
        refine take_at (i := 5) (v := .pointer (some ⟨g, 0, none⟩)) rfl rfl (by kernel_rfl) (by kernel_rfl) (by kernel_rfl) (fun _ _ _ h => h) (Or.inl ⟨by rfl, fun w hw => ?_⟩) hHeld ?_
        · go_simp
        simp only [List.setIfInBounds_toArray, List.set_cons_zero, List.set_cons_succ]
        refine take_at (i := 6) (v := .pointer (some ⟨g, 0, none⟩)) rfl rfl (by kernel_rfl) (by kernel_rfl) (by kernel_rfl) (fun _ _ _ h => h) (Or.inl ⟨by rfl, fun w hw => ?_⟩) hHeld ?_
        · go_simp
        simp only [List.setIfInBounds_toArray, List.set_cons_zero, List.set_cons_succ]
        refine take_at (i := 7) (v := .pointer (some ⟨g, 2, none⟩)) rfl rfl (by kernel_rfl) (by kernel_rfl) (by kernel_rfl) (fun _ _ _ h => h) (Or.inl ⟨by rfl, fun w hw => ?_⟩) hHeld ?_
        · go_simp
        simp only [List.setIfInBounds_toArray, List.set_cons_zero, List.set_cons_succ]
        refine take_at (i := 8) (v := .int .i64 (c : Int)) rfl rfl (by kernel_rfl) (by kernel_rfl) (by kernel_rfl) (fun _ _ _ h => h) (Or.inl ⟨by rfl, fun w hw => ?_⟩) hHeld ?_
        · have h0 := hw.2.1; go_simp
        simp only [List.setIfInBounds_toArray, List.set_cons_zero, List.set_cons_succ]
        refine take_at (i := 9) (v := .pointer (some ⟨g, 0, none⟩)) rfl rfl (by kernel_rfl) (by kernel_rfl) (by kernel_rfl) (fun _ _ _ h => h) (Or.inl ⟨by rfl, fun w hw => ?_⟩) hHeld ?_
        · go_simp
        simp only [List.setIfInBounds_toArray, List.set_cons_zero, List.set_cons_succ]
        refine take_at (i := 10) (v := .pointer (some ⟨g, 0, none⟩)) rfl rfl (by kernel_rfl) (by kernel_rfl) (by kernel_rfl) (fun _ _ _ h => h) (Or.inl ⟨by rfl, fun w hw => ?_⟩) hHeld ?_
        · go_simp
        simp only [List.setIfInBounds_toArray, List.set_cons_zero, List.set_cons_succ]
        refine take_at (i := 11) (v := .pointer (some ⟨g, 4, none⟩)) rfl rfl (by kernel_rfl) (by kernel_rfl) (by kernel_rfl) (fun _ _ _ h => h) (Or.inl ⟨by rfl, fun w hw => ?_⟩) hHeld ?_
        · go_simp
        simp only [List.setIfInBounds_toArray, List.set_cons_zero, List.set_cons_succ]
        refine take_at (i := 12) (v := (.slice A62 (L.length + 1) p62)) rfl rfl (by kernel_rfl) (by kernel_rfl) (by kernel_rfl) (fun _ _ _ h => h) (Or.inl ⟨by rfl, fun w hw => ?_⟩) hHeld ?_
        · have h0 := hw.2.2.2; go_simp
        simp only [List.setIfInBounds_toArray, List.set_cons_zero, List.set_cons_succ]
        refine take_at (i := 13) (v := .int .i64 ((L.length : Int) + 1)) rfl rfl (by kernel_rfl) (by kernel_rfl) (by kernel_rfl) (fun _ _ _ h => h) (Or.inl ⟨by rfl, fun w hw => ?_⟩) hHeld ?_
        · go_simp
        simp only [List.setIfInBounds_toArray, List.set_cons_zero, List.set_cons_succ]
        refine take_at (i := 14) (v := .pointer (some ⟨g, 0, none⟩)) rfl rfl (by kernel_rfl) (by kernel_rfl) (by kernel_rfl) (fun _ _ _ h => h) (Or.inl ⟨by rfl, fun w hw => ?_⟩) hHeld ?_
        · go_simp
        simp only [List.setIfInBounds_toArray, List.set_cons_zero, List.set_cons_succ]
        refine take_at (i := 15) (v := .pointer (some ⟨g, 0, none⟩)) rfl rfl (by kernel_rfl) (by kernel_rfl) (by kernel_rfl) (fun _ _ _ h => h) (Or.inl ⟨by rfl, fun w hw => ?_⟩) hHeld ?_
        · go_simp
        simp only [List.setIfInBounds_toArray, List.set_cons_zero, List.set_cons_succ]
        refine take_at (i := 16) (v := .pointer (some ⟨g, 3, none⟩)) rfl rfl (by kernel_rfl) (by kernel_rfl) (by kernel_rfl) (fun _ _ _ h => h) (Or.inl ⟨by rfl, fun w hw => ?_⟩) hHeld ?_
        · go_simp
        simp only [List.setIfInBounds_toArray, List.set_cons_zero, List.set_cons_succ]
        refine take_at (i := 17) (v := .int .i64 ((nx : Int) + 1)) rfl rfl (by kernel_rfl) (by kernel_rfl) (by kernel_rfl) (fun _ _ _ h => h) (Or.inl ⟨by rfl, fun w hw => ?_⟩) hHeld ?_
        · have h0 := hw.2.2.1; go_simp
        simp only [List.setIfInBounds_toArray, List.set_cons_zero, List.set_cons_succ]
        refine wpAnyH_ready (rs := [18]) (by kernel_rfl) (by simp) ?_
        refine AllReadyH.cons rfl (fun KQ hKQ => ?_) AllReadyH.nil
        go_simp
        refine (words14_own _ _).mono ?_
        rintro e V7 ⟨v5, rfl, ho5, hb5⟩
        have HB1 : Hid (Below W3.heap.size W3 V7) := Lib.hid ⟨hb5.os, hb5.tape, hb5.output, hb5.size, hb5.block⟩
        have HQ5 := Lib.hid ho5.words
        refine hKQ.out _ _ (HSW.out _ HB1.out) (fun hHeld => ?_)
        clear hKQ KQ ho5 hb5
        refine wpAnyH_ready (rs := [19]) (by kernel_rfl) (by simp) ?_
        refine AllReadyH.cons rfl (fun KQ hKQ => ?_) AllReadyH.nil
        go_simp
        refine (pushR_own HII.out HQ5.out).mono ?_
        rintro e V8 ⟨v6, rfl, hi6, hb6⟩
        have HB2 : Hid (Below W3.heap.size W3 V8) := Lib.hid (below_call HB1.out hb6 HB1.out.size)
        have HI6 : Hid (OwnI V8 W3.heap.size v6 (pushC (b : Int) (c : Int) ((L.length : Int) + 1) (wordsR ((nx : Int) + 1)))) := Lib.hid (hi6.base HB1.out.size)
        refine hKQ.out _ _ (HSW.out _ HB2.out) (fun hHeld => ?_)
        clear hKQ KQ hi6 hb6
        refine wpAnyH_ready (rs := [20]) (by kernel_rfl) (by simp) ?_
        refine AllReadyH.cons rfl (fun KQ hKQ => ?_) AllReadyH.nil
        go_simp
        refine (start_call HI6.out.inss).mono ?_
        rintro e V9 ⟨rfl, hb7⟩
        have HB3 : Hid (Below W3.heap.size W3 V9) := Lib.hid (below_call HB2.out hb7 HB2.out.size)
        have hot := OffT.start (X := XN) (w := V9) (HI6.out.kept hb7) HXN.out rfl
        generalize tcells (startCv _ _) (startT _).t = C7 at *
        obtain ⟨cl7, rfl⟩ : ∃ l : List Value, C7 = l.toArray := ⟨C7.toList, by simp⟩
        have hot2 : OffT XN V9 cl7 (startT (pushC (b : Int) (c : Int) ((L.length : Int) + 1) (wordsR ((nx : Int) + 1)))) := hot
        have hsz := hot2.size
        have HOT := Lib.hid hot2
        have HSZ7 := Lib.hid hsz.1
        have HONE7 := Lib.hid hsz.2.1
        refine hKQ.out _ _ (HSW.out _ HB3.out) (fun hHeld => ?_)
        clear hKQ KQ hb7 hot hot2 hsz
        refine take_at (i := 21) (v := .pointer (some ⟨g, 0, none⟩)) rfl rfl (by kernel_rfl) (by kernel_rfl) (by kernel_rfl) (fun _ _ _ h => h) (Or.inl ⟨by rfl, fun w hw => ?_⟩) hHeld ?_
        · go_simp
        simp only [List.setIfInBounds_toArray, List.set_cons_zero, List.set_cons_succ]
        refine take_at (i := 22) (v := .pointer (some ⟨g, 7, none⟩)) rfl rfl (by kernel_rfl) (by kernel_rfl) (by kernel_rfl) (fun _ _ _ h => h) (Or.inl ⟨by rfl, fun w hw => ?_⟩) hHeld ?_
        · go_simp
        simp only [List.setIfInBounds_toArray, List.set_cons_zero, List.set_cons_succ]
        refine wpAnyH_ready (rs := [23]) (by kernel_rfl) (by simp) ?_
        refine AllReadyH.cons rfl (fun KQ hKQ => ?_) AllReadyH.nil
        rw [if_pos (by rfl)]
        refine wp_store_mid 42 _ _ rfl g 7 cl7.toArray rfl rfl ((PB3.out.kept HB3.out).t1 (by simp [HSZ7.out])) (by rw [List.size_toArray, HSZ7.out]; exact size_task) HONE7.out ?_
        have hP4 : PlyB (V9.setCells g 7 cl7) g { p with l1 := cl7, vm := .slice A9 m9.length p9, lays := 0, ok := true, vl := .slice A62 (L.length + 1) p62, next := (nx : Int) + 1 } := (PB3.out.kept HB3.out).set1 HSZ7.out
        have hC4 : Chg (· = g) V3 (V9.setCells g 7 cl7) := CH3.out.trans ((Chg.of HB3.out).trans (Chg.setCells (X := (· = g)) rfl 7 cl7))
        have hcX : Chg (Mine g p.vl) wc (V9.setCells g 7 cl7) := (CH2.out.mono (Y := Mine g p.vl) fun k _ e => .inl e).trans (HP.out.chg.trans (hC4.mono (Y := Mine g p.vl) fun k _ e => .inl e))
        have hF : PlayI base g w0 (V9.setCells g 7 cl7) b c (s + 1) { p with l1 := cl7, vm := .slice A9 m9.length p9, lays := 0, ok := true, vl := .slice A62 (L.length + 1) p62, next := (nx : Int) + 1 } m9 (L ++ [(v15, (nx : Int))]) D T (startT (pushC (b : Int) (c : Int) ((L.length : Int) + 1) (wordsR ((nx : Int) + 1)))) take 0 ps :=
          HI.out.more (((Chg.of HA.out.below).trans (CH2.out.mono fun k _ e => .inl e)).trans HP.out.chg) HP.out.row HP.out.word HP.out.apart
            (HP.out.lies.imp id fun ⟨k, h1, h2⟩ => ⟨k, h1, by have := HA.out.below.size; have := CH2.out.size; omega⟩) hC4 HGL.out hP4 rfl rfl (by have := HNX.out; simp only; omega) HI.out.drops_is HI.out.taken_is rfl HI.out.pops_is rfl
            ((HXX.out ▸ HA.out.mem : OffW (Mine g p.vl) wc (.slice A9 m9.length p9) m9).move hcX (fun k hk e => by
              rcases e with e | e
              · exact .inl e
              · rcases HP.out.lies with e2 | ⟨k2, e2, hk2⟩
                · exact .inr (by rw [← e2]; exact e)
                · rw [e2] at e; injection e with e; have := CH2.out.size; omega))
            (HXE.out ▸ (HOT.out.chg (by rw [HXE.out]; exact (Chg.setCells (X := (· = g)) rfl 7 cl7).mono fun k _ e => .inl e)))
            HI.out.t2 rfl
            (by have := HRT.out; rw [show ((L.length + D + 1 : Nat) : Int) = (nx : Int) + 1 by have := HNX.out; omega, show ((L.length + D : Nat) : Int) = (nx : Int) by have := HNX.out; omega, show ((L.length + 1 : Nat) : Int) = (L.length : Int) + 1 by omega] at this; exact this) (by have := HI.out.few; omega)
        have HF := Lib.hid hF
        refine hKQ.out _ _ (by
          refine ⟨(hP4.low 1 (by omega)).trans (by simp [HI.out.b_is]), (hP4.low 2 (by omega)).trans (by simp [HI.out.c_is]), hP4.low 3 (by omega), hP4.low 4 (by omega)⟩) (fun hHeld => ?_)
        clear hKQ KQ hF hcX hC4 hP4
        refine wpAnyH_done (by kernel_rfl) ?_ _
        go_wp2
        go_end0
        exact ⟨rfl, _, _, _, _, _, _, _, _, _, HF.out⟩
    · rw [hd] at d34
      rw [ha] at d35
      have HRT := Lib.hid hrt
      clear hd ha hrt c3
      have c5 : W1.cell? ⟨g, 5, none⟩ = some (.int .i64 (D : Int)) := (PB1.out.low 5 (by omega)).trans (by simp [HI.out.drops_is])
      have f5 := PB1.out.fz 5
      have hw5 : IntKind.i64.wrap ((D : Int) + 1) = (D : Int) + 1 := by have := HI.out.few; rw [IntKind.wrap_i64]; omega
      go_wp2_with fail
      refine wp_at fun W2 hW2 => ?_
      have PB2 : Hid (PlyB W2 g { p with l1 := cl9, vm := .slice A9 m9.length p9, lays := (ls : Int) + 1, ok := true, drops := (D : Int) + 1 }) := Lib.hid (by rw [hW2]; exact (((PB1.out.putVm _).putLays _).putOk true).putDrops _)
      have CH2 : Hid (Chg (· = g) wc W2) := Lib.hid (by rw [hW2]; exact CH1.out.trans ((((Chg.setCell (X := (· = g)) rfl _).trans (Chg.setCell (X := (· = g)) rfl _)).trans (Chg.setCell (X := (· = g)) rfl _)).trans (Chg.setCell (X := (· = g)) rfl _)))
      clear hW2 c79 c81 c0 f0 f79 f81 d34 d35 c5 f5 hw5 hw79 hl8
      obtain ⟨Al, pl, hvl, hvl1, hvl2⟩ := row_form HI.out.laid.row
      unfold maxLen at hvl2
      have c81 : W2.cell? ⟨g, 81, none⟩ = some (.bool true) := PB2.out.high 2
      have c4 : W2.cell? ⟨g, 4, none⟩ = some (.slice Al L.length pl) := (PB2.out.low 4 (by omega)).trans (by simp [hvl])
      have c6 : W2.cell? ⟨g, 6, none⟩ = some (.int .i64 (T : Int)) := (PB2.out.low 6 (by omega)).trans (by simp [HI.out.taken_is])
      have c2 : W2.cell? ⟨g, 2, none⟩ = some (.int .i64 (c : Int)) := (PB2.out.low 2 (by omega)).trans (by simp [HI.out.c_is])
      have f81 := PB2.out.fz 81
      have hsub : IntKind.i64.wrap ((L.length : Int) - (T : Int)) = (L.length : Int) - (T : Int) := by have := HI.out.few; have := HI.out.law.some; rw [List.length_map] at this; rw [IntKind.wrap_i64]; omega
      have hle : decide ((L.length : Int) - (T : Int) ≤ (c : Int)) = true := decide_eq_true (by have := HI.out.law.few; rw [List.length_map] at this; omega)
      have HVL := Lib.hid hvl
      clear hvl
      go_still_tail 24, (by kernel_rfl)
      have c3 : W2.cell? ⟨g, 3, none⟩ = some (.int .i64 ((L.length + D : Nat) : Int)) := (PB2.out.low 3 (by omega)).trans (by simp [HI.out.next_is])
      have c79 : W2.cell? ⟨g, 79, none⟩ = some (.int .i64 ((ls : Int) + 1)) := PB2.out.high 0
      have f3 := PB2.out.fz 3
      have f79 := PB2.out.fz 79
      obtain ⟨nx, hnx⟩ : ∃ nx : Nat, nx = L.length + D := ⟨_, rfl⟩
      rw [← hnx] at c3
      have hw3 : IntKind.i64.wrap ((nx : Int) + 1) = (nx : Int) + 1 := by have := HI.out.few; rw [IntKind.wrap_i64]; omega
      have HNX := Lib.hid hnx
      clear hnx
      go_wp2_with fail
      refine wp_at fun W3 hW3 => ?_
      have PB3 : Hid (PlyB W3 g { p with l1 := cl9, vm := .slice A9 m9.length p9, lays := 0, ok := true, drops := (D : Int) + 1, next := (nx : Int) + 1 }) := Lib.hid (by rw [hW3]; first | exact ((PB2.out.putOk true).putNext _).putLays 0 | exact ((show PlyB W2.drew g _ from ⟨PB2.out.box, PB2.out.len1, PB2.out.len2⟩ : PlyB W2.drew g _).putOk true |>.putNext _).putLays 0)
      have CH3 : Hid (Chg (· = g) wc W3) := Lib.hid (by rw [hW3]; exact (CH2.out.trans (((Chg.setCell (X := (· = g)) rfl _).trans (Chg.setCell (X := (· = g)) rfl _)).trans (Chg.setCell (X := (· = g)) rfl _))).drew)
      clear hW3 c81 c4 c6 c2 f81 hsub hle c3 c79 f3 f79 hw3
      have HSW : Hid (∀ V, Below W3.heap.size W3 V → V.cell? ⟨g, 1, none⟩ = some (.int .i64 (b : Int)) ∧ V.cell? ⟨g, 2, none⟩ = some (.int .i64 (c : Int)) ∧ V.cell? ⟨g, 3, none⟩ = some (.int .i64 ((nx : Int) + 1)) ∧ V.cell? ⟨g, 4, none⟩ = some (.slice Al L.length pl)) := Lib.hid fun V hV => by
        have hp := PB3.out.kept hV
        exact ⟨(hp.low 1 (by omega)).trans (by simp [HI.out.b_is]), (hp.low 2 (by omega)).trans (by simp [HI.out.c_is]), hp.low 3 (by omega), (hp.low 4 (by omega)).trans (by simp [HVL.out])⟩
      have HXN : Hid (∀ k, X k → k < W3.heap.size) := Lib.hid fun k hk => by have h1 := HXB.out k hk; have h2 := HA.out.below.size; have h3 := CH3.out.size; omega
      have hii : I64 (L.length : Int) := by have := HI.out.few; unfold I64; omega
      have HII := Lib.hid hii
      clear hii
      obtain ⟨XN, hxn⟩ : ∃ XN, XN = X := ⟨_, rfl⟩
      rw [← hxn] at HXN
      have HXE := Lib.hid hxn
      clear hxn
      refine wp_region_held_drew (S := fun V => V.cell? ⟨g, 1, none⟩ = some (.int .i64 (b : Int)) ∧ V.cell? ⟨g, 2, none⟩ = some (.int .i64 (c : Int)) ∧ V.cell? ⟨g, 3, none⟩ = some (.int .i64 ((nx : Int) + 1)) ∧ V.cell? ⟨g, 4, none⟩ = some (.slice Al L.length pl)) (by kernel_rfl) (HSW.out W3 (Below.refl _ _)) (fun hHeld => ?_)
      refine take_at (i := 0) (v := .pointer (some ⟨g, 0, none⟩)) rfl rfl (by kernel_rfl) (by kernel_rfl) (by kernel_rfl) (fun _ _ _ h => h) (Or.inl ⟨by rfl, fun w hw => ?_⟩) hHeld ?_
      · go_simp
      simp only [List.setIfInBounds_toArray, List.set_cons_zero, List.set_cons_succ]
      refine take_at (i := 1) (v := .pointer (some ⟨g, 0, none⟩)) rfl rfl (by kernel_rfl) (by kernel_rfl) (by kernel_rfl) (fun _ _ _ h => h) (Or.inl ⟨by rfl, fun w hw => ?_⟩) hHeld ?_
      · go_simp
      simp only [List.setIfInBounds_toArray, List.set_cons_zero, List.set_cons_succ]
      refine take_at (i := 2) (v := .pointer (some ⟨g, 0, none⟩)) rfl rfl (by kernel_rfl) (by kernel_rfl) (by kernel_rfl) (fun _ _ _ h => h) (Or.inl ⟨by rfl, fun w hw => ?_⟩) hHeld ?_
      · go_simp
      simp only [List.setIfInBounds_toArray, List.set_cons_zero, List.set_cons_succ]
      refine take_at (i := 3) (v := .pointer (some ⟨g, 1, none⟩)) rfl rfl (by kernel_rfl) (by kernel_rfl) (by kernel_rfl) (fun _ _ _ h => h) (Or.inl ⟨by rfl, fun w hw => ?_⟩) hHeld ?_
      · go_simp
      simp only [List.setIfInBounds_toArray, List.set_cons_zero, List.set_cons_succ]
      refine take_at (i := 4) (v := .int .i64 (b : Int)) rfl rfl (by kernel_rfl) (by kernel_rfl) (by kernel_rfl) (fun _ _ _ h => h) (Or.inl ⟨by rfl, fun w hw => ?_⟩) hHeld ?_
      · have h0 := hw.1; go_simp
      simp only [List.setIfInBounds_toArray, List.set_cons_zero, List.set_cons_succ]
      refine take_at (i := 5) (v := .pointer (some ⟨g, 0, none⟩)) rfl rfl (by kernel_rfl) (by kernel_rfl) (by kernel_rfl) (fun _ _ _ h => h) (Or.inl ⟨by rfl, fun w hw => ?_⟩) hHeld ?_
      · go_simp
      simp only [List.setIfInBounds_toArray, List.set_cons_zero, List.set_cons_succ]
      refine take_at (i := 6) (v := .pointer (some ⟨g, 0, none⟩)) rfl rfl (by kernel_rfl) (by kernel_rfl) (by kernel_rfl) (fun _ _ _ h => h) (Or.inl ⟨by rfl, fun w hw => ?_⟩) hHeld ?_
      · go_simp
      simp only [List.setIfInBounds_toArray, List.set_cons_zero, List.set_cons_succ]
      refine take_at (i := 7) (v := .pointer (some ⟨g, 2, none⟩)) rfl rfl (by kernel_rfl) (by kernel_rfl) (by kernel_rfl) (fun _ _ _ h => h) (Or.inl ⟨by rfl, fun w hw => ?_⟩) hHeld ?_
      · go_simp
      simp only [List.setIfInBounds_toArray, List.set_cons_zero, List.set_cons_succ]
      refine take_at (i := 8) (v := .int .i64 (c : Int)) rfl rfl (by kernel_rfl) (by kernel_rfl) (by kernel_rfl) (fun _ _ _ h => h) (Or.inl ⟨by rfl, fun w hw => ?_⟩) hHeld ?_
      · have h0 := hw.2.1; go_simp
      simp only [List.setIfInBounds_toArray, List.set_cons_zero, List.set_cons_succ]
      refine take_at (i := 9) (v := .pointer (some ⟨g, 0, none⟩)) rfl rfl (by kernel_rfl) (by kernel_rfl) (by kernel_rfl) (fun _ _ _ h => h) (Or.inl ⟨by rfl, fun w hw => ?_⟩) hHeld ?_
      · go_simp
      simp only [List.setIfInBounds_toArray, List.set_cons_zero, List.set_cons_succ]
      refine take_at (i := 10) (v := .pointer (some ⟨g, 0, none⟩)) rfl rfl (by kernel_rfl) (by kernel_rfl) (by kernel_rfl) (fun _ _ _ h => h) (Or.inl ⟨by rfl, fun w hw => ?_⟩) hHeld ?_
      · go_simp
      simp only [List.setIfInBounds_toArray, List.set_cons_zero, List.set_cons_succ]
      refine take_at (i := 11) (v := .pointer (some ⟨g, 4, none⟩)) rfl rfl (by kernel_rfl) (by kernel_rfl) (by kernel_rfl) (fun _ _ _ h => h) (Or.inl ⟨by rfl, fun w hw => ?_⟩) hHeld ?_
      · go_simp
      simp only [List.setIfInBounds_toArray, List.set_cons_zero, List.set_cons_succ]
      refine take_at (i := 12) (v := (.slice Al L.length pl)) rfl rfl (by kernel_rfl) (by kernel_rfl) (by kernel_rfl) (fun _ _ _ h => h) (Or.inl ⟨by rfl, fun w hw => ?_⟩) hHeld ?_
      · have h0 := hw.2.2.2; go_simp
      simp only [List.setIfInBounds_toArray, List.set_cons_zero, List.set_cons_succ]
      refine take_at (i := 13) (v := .int .i64 (L.length : Int)) rfl rfl (by kernel_rfl) (by kernel_rfl) (by kernel_rfl) (fun _ _ _ h => h) (Or.inl ⟨by rfl, fun w hw => ?_⟩) hHeld ?_
      · go_simp
      simp only [List.setIfInBounds_toArray, List.set_cons_zero, List.set_cons_succ]
      refine take_at (i := 14) (v := .pointer (some ⟨g, 0, none⟩)) rfl rfl (by kernel_rfl) (by kernel_rfl) (by kernel_rfl) (fun _ _ _ h => h) (Or.inl ⟨by rfl, fun w hw => ?_⟩) hHeld ?_
      · go_simp
      simp only [List.setIfInBounds_toArray, List.set_cons_zero, List.set_cons_succ]
      refine take_at (i := 15) (v := .pointer (some ⟨g, 0, none⟩)) rfl rfl (by kernel_rfl) (by kernel_rfl) (by kernel_rfl) (fun _ _ _ h => h) (Or.inl ⟨by rfl, fun w hw => ?_⟩) hHeld ?_
      · go_simp
      simp only [List.setIfInBounds_toArray, List.set_cons_zero, List.set_cons_succ]
      refine take_at (i := 16) (v := .pointer (some ⟨g, 3, none⟩)) rfl rfl (by kernel_rfl) (by kernel_rfl) (by kernel_rfl) (fun _ _ _ h => h) (Or.inl ⟨by rfl, fun w hw => ?_⟩) hHeld ?_
      · go_simp
      simp only [List.setIfInBounds_toArray, List.set_cons_zero, List.set_cons_succ]
      refine take_at (i := 17) (v := .int .i64 ((nx : Int) + 1)) rfl rfl (by kernel_rfl) (by kernel_rfl) (by kernel_rfl) (fun _ _ _ h => h) (Or.inl ⟨by rfl, fun w hw => ?_⟩) hHeld ?_
      · have h0 := hw.2.2.1; go_simp
      simp only [List.setIfInBounds_toArray, List.set_cons_zero, List.set_cons_succ]
      refine wpAnyH_ready (rs := [18]) (by kernel_rfl) (by simp) ?_
      refine AllReadyH.cons rfl (fun KQ hKQ => ?_) AllReadyH.nil
      go_simp
      refine (words14_own _ _).mono ?_
      rintro e V7 ⟨v5, rfl, ho5, hb5⟩
      have HB1 : Hid (Below W3.heap.size W3 V7) := Lib.hid ⟨hb5.os, hb5.tape, hb5.output, hb5.size, hb5.block⟩
      have HQ5 := Lib.hid ho5.words
      refine hKQ.out _ _ (HSW.out _ HB1.out) (fun hHeld => ?_)
      clear hKQ KQ ho5 hb5
      refine wpAnyH_ready (rs := [19]) (by kernel_rfl) (by simp) ?_
      refine AllReadyH.cons rfl (fun KQ hKQ => ?_) AllReadyH.nil
      go_simp
      refine (pushR_own HII.out HQ5.out).mono ?_
      rintro e V8 ⟨v6, rfl, hi6, hb6⟩
      have HB2 : Hid (Below W3.heap.size W3 V8) := Lib.hid (below_call HB1.out hb6 HB1.out.size)
      have HI6 : Hid (OwnI V8 W3.heap.size v6 (pushC (b : Int) (c : Int) (L.length : Int) (wordsR ((nx : Int) + 1)))) := Lib.hid (hi6.base HB1.out.size)
      refine hKQ.out _ _ (HSW.out _ HB2.out) (fun hHeld => ?_)
      clear hKQ KQ hi6 hb6
      refine wpAnyH_ready (rs := [20]) (by kernel_rfl) (by simp) ?_
      refine AllReadyH.cons rfl (fun KQ hKQ => ?_) AllReadyH.nil
      go_simp
      refine (start_call HI6.out.inss).mono ?_
      rintro e V9 ⟨rfl, hb7⟩
      have HB3 : Hid (Below W3.heap.size W3 V9) := Lib.hid (below_call HB2.out hb7 HB2.out.size)
      have hot := OffT.start (X := XN) (w := V9) (HI6.out.kept hb7) HXN.out rfl
      generalize tcells (startCv _ _) (startT _).t = C7 at *
      obtain ⟨cl7, rfl⟩ : ∃ l : List Value, C7 = l.toArray := ⟨C7.toList, by simp⟩
      have hot2 : OffT XN V9 cl7 (startT (pushC (b : Int) (c : Int) (L.length : Int) (wordsR ((nx : Int) + 1)))) := hot
      have hsz := hot2.size
      have HOT := Lib.hid hot2
      have HSZ7 := Lib.hid hsz.1
      have HONE7 := Lib.hid hsz.2.1
      refine hKQ.out _ _ (HSW.out _ HB3.out) (fun hHeld => ?_)
      clear hKQ KQ hb7 hot hot2 hsz
      refine take_at (i := 21) (v := .pointer (some ⟨g, 0, none⟩)) rfl rfl (by kernel_rfl) (by kernel_rfl) (by kernel_rfl) (fun _ _ _ h => h) (Or.inl ⟨by rfl, fun w hw => ?_⟩) hHeld ?_
      · go_simp
      simp only [List.setIfInBounds_toArray, List.set_cons_zero, List.set_cons_succ]
      refine take_at (i := 22) (v := .pointer (some ⟨g, 7, none⟩)) rfl rfl (by kernel_rfl) (by kernel_rfl) (by kernel_rfl) (fun _ _ _ h => h) (Or.inl ⟨by rfl, fun w hw => ?_⟩) hHeld ?_
      · go_simp
      simp only [List.setIfInBounds_toArray, List.set_cons_zero, List.set_cons_succ]
      refine wpAnyH_ready (rs := [23]) (by kernel_rfl) (by simp) ?_
      refine AllReadyH.cons rfl (fun KQ hKQ => ?_) AllReadyH.nil
      rw [if_pos (by rfl)]
      refine wp_store_mid 42 _ _ rfl g 7 cl7.toArray rfl rfl ((PB3.out.kept HB3.out).t1 (by simp [HSZ7.out])) (by rw [List.size_toArray, HSZ7.out]; exact size_task) HONE7.out ?_
      have hP4 : PlyB (V9.setCells g 7 cl7) g { p with l1 := cl7, vm := .slice A9 m9.length p9, lays := 0, ok := true, drops := (D : Int) + 1, next := (nx : Int) + 1 } := (PB3.out.kept HB3.out).set1 HSZ7.out
      have hC4 : Chg (· = g) wc (V9.setCells g 7 cl7) := CH3.out.trans ((Chg.of HB3.out).trans (Chg.setCells (X := (· = g)) rfl 7 cl7))
      have hcm := hC4.mono (Y := Mine g p.vl) fun k _ e => .inl e
      have hF : PlayI base g w0 (V9.setCells g 7 cl7) b c (s + 1) { p with l1 := cl7, vm := .slice A9 m9.length p9, lays := 0, ok := true, drops := (D : Int) + 1, next := (nx : Int) + 1 } m9 L (D + 1) T (startT (pushC (b : Int) (c : Int) (L.length : Int) (wordsR ((nx : Int) + 1)))) take 0 ps :=
        HI.out.next ((Chg.of HA.out.below).trans hC4) hP4 rfl rfl rfl (by have := HNX.out; simp only; omega) (by simp only; omega) HI.out.taken_is rfl HI.out.pops_is rfl
          (HXX.out ▸ (HA.out.mem.chg (HXX.out ▸ hcm))) (HXX.out ▸ HXE.out ▸ (HOT.out.chg (by rw [HXE.out, HXX.out]; exact (Chg.setCells (X := (· = g)) rfl 7 cl7).mono fun k _ e => .inl e)))
          (HXX.out ▸ ((HXX.out ▸ HI.out.t2 : OffT X w p.l2 take).chg ((Chg.of HA.out.below).trans (HXX.out ▸ hcm)))) (by have := HRT.out; rw [show ((L.length + D + 1 : Nat) : Int) = (nx : Int) + 1 by have := HNX.out; omega] at this; exact this) (by have := HI.out.few; omega)
      have HF := Lib.hid hF
      refine hKQ.out _ _ (by
        refine ⟨(hP4.low 1 (by omega)).trans (by simp [HI.out.b_is]), (hP4.low 2 (by omega)).trans (by simp [HI.out.c_is]), hP4.low 3 (by omega), (hP4.low 4 (by omega)).trans (by simp [HVL.out])⟩) (fun hHeld => ?_)
      clear hKQ KQ hF hcm hC4 hP4
      refine wpAnyH_done (by kernel_rfl) ?_ _
      go_wp2
      go_end0
      exact ⟨rfl, _, _, _, _, _, _, _, _, _, HF.out⟩
end Go.Proofs.Ytpkelneimjmmkaa

/- The contract of task.Step: a step of a program's task. -/
import Derived.Test.YtpkelneimjmmkaaTaskG
namespace Go.Proofs.Ytpkelneimjmmkaa
open Go.RowKit

theorem own_cell_far {w : World} {base : Nat} {v : Value} {ms : List Int} (h : Own w base v ms) {p : Addr} (hp : p.block < base) (u : Value) : Own (w.setCell p u) base v ms := by
  obtain ⟨⟨h1, h2⟩, h3⟩ := h
  refine ⟨⟨h1, ?_⟩, h3⟩
  rcases h2 with h2 | ⟨g', cap, cur, e, hg', hh, r⟩
  · exact .inl h2
  · exact .inr ⟨g', cap, cur, e, hg', (Below.heap_setCell w p u g' (by omega)).trans hh, r⟩
theorem own_kept {w w' : World} {base : Nat} {v : Value} {ms : List Int} (h : Own w base v ms) (hb : Below w.heap.size w w') : Own w' base v ms := by
  obtain ⟨⟨h1, h2⟩, h3⟩ := h
  refine ⟨⟨h1, ?_⟩, h3⟩
  rcases h2 with h2 | ⟨g', cap, cur, e, hg', hh, r⟩
  · exact .inl h2
  · exact .inr ⟨g', cap, cur, e, hg', (hb.block g' (Array.getElem?_eq_some_iff.1 hh).1).trans hh, r⟩

set_option maxHeartbeats 8000000 in
set_option maxRecDepth 20000 in
set_option linter.unusedSimpArgs false in
theorem step_sane {cv vm : Value} {T : FT} {ms : List Int} {w : World} (hI : Inss w cv T.code) (ht : T.t.ok) (hc : cv.oneCell' = true) (hm : Words w vm ms) (hd : T.t.done = false) (hs : Sane T.code) :
    Calls Try.prog 33 #[.agg (tcells cv T.t), vm] w (StepPost cv T.code (stepT T ms).1 (stepT T ms).2 w) := by
  have h32 := ht.1
  have e34 := tcells_34 (cv := cv) h32
  rw [hd] at e34
  have HI := Lib.hid hI
  have HM := Lib.hid hm
  have HS := Lib.hid hs
  have HT := Lib.hid ht
  have hrok : (rest T.code T.t).ok := rest_ok hI.2 (by have := hs.2.2; omega) ht
  have hst : stepT T ms = if (rest T.code T.t).done then (⟨T.code, rest T.code T.t⟩, counts ms) else
      (⟨T.code, rest T.code (moved (rest T.code T.t) (T.code.getD (rest T.code T.t).pc.toNat insn0)
        (access (counts ms) ⟨kind (T.code.getD (rest T.code T.t).pc.toNat insn0).k, (T.code.getD (rest T.code T.t).pc.toNat insn0).i, (T.code.getD (rest T.code T.t).pc.toNat insn0).a, 0⟩).2)⟩,
       (access (counts ms) ⟨kind (T.code.getD (rest T.code T.t).pc.toNat insn0).k, (T.code.getD (rest T.code T.t).pc.toNat insn0).i, (T.code.getD (rest T.code T.t).pc.toNat insn0).a, 0⟩).1) := by
    unfold stepT
    rw [if_neg (by simp [hd]), if_neg (by simpa using hs)]
  have HST := Lib.hid hst
  obtain ⟨A, c, hcv, hc1, hc2, _⟩ := hI.1.form
  unfold maxLen at hc2
  have e0 : (tcells cv T.t)[0]? = some (.slice A T.code.length c) := by rw [tcells_0, hcv]
  generalize hC : tcells cv T.t = C at *
  have HSZ := Lib.hid (by rw [← hC]; exact tcells_size h32 : C.size = 36)
  have HCC := Lib.hid hC
  clear hm hI ht h32 hd hs hst hC
  go_enter Try.func33, Try.ntmps33
  go_wp2_with fail
  refine calls_at fun W0 hW0 => ?_
  have bx : Box W0 w.heap.size 42 C := by rw [hW0]; exact (Box.new _ _ _).alloc _
  have br : ∃ z, Box W0 (w.heap.size + 1) 42 z ∧ z.size = 36 := by rw [hW0]; exact ⟨_, Box.at_ (by simp) _ _, rfl⟩
  have hb0 : Below w.heap.size w W0 := by rw [hW0]; exact ((Below.refl _ w).alloc (Nat.le_refl _) _).alloc (by simp) _
  have hs0 : W0.heap.size = w.heap.size + 2 := by rw [hW0]; simp
  obtain ⟨z, br, hz⟩ := br
  clear hW0
  rw [← hcv]
  refine (sane_call (HI.out.below hb0)).mono ?_
  rintro e w1 ⟨rfl, hb1⟩
  rw [decide_eq_true HS.out]
  have hb2 := below_call hb0 hb1 hb0.size
  have hs1 : w.heap.size + 2 ≤ w1.heap.size := by have := hb1.size; omega
  have bx1 := bx.kept hb1
  have br1 := br.kept hb1
  have HB := Lib.hid hb2
  have BX := Lib.hid bx1
  have BR := Lib.hid br1
  have HI1 := Lib.hid (HI.out.below hb2)
  clear hb0 hb1 hb2 bx br bx1 br1 hs0 e0 e34
  go_wp2_with (first | with_reducible refine load_stop rfl 42 _ rfl ?_ | with_reducible refine store_stop rfl 42 _ _ rfl ?_)
  refine AtLoad.go w.heap.size rfl BX.out Try.underlying42 rfl (size_task' HSZ.out) ?_
  go_wp2_with (first | with_reducible refine load_stop rfl 42 _ rfl ?_ | with_reducible refine store_stop rfl 42 _ _ rfl ?_)
  rw [← HCC.out]
  refine (rest_call HS.out HI1.out HT.out hc).mono ?_
  rintro e w2 ⟨rfl, hb2⟩
  have hb3 := below_call HB.out hb2 HB.out.size
  have hs2 : w.heap.size + 2 ≤ w2.heap.size := by have := hb2.size; omega
  have br2 := BR.out.kept hb2
  have bx2 := BX.out.kept hb2
  have HRO := Lib.hid hrok
  have HB2 := Lib.hid hb3
  have BR2 := Lib.hid br2
  have BX2 := Lib.hid bx2
  have e34 := tcells_34 (cv := cv) hrok.1
  have e1 := tcells_1 (cv := cv) (t := rest T.code T.t)
  have e0 := tcells_0 (cv := cv) (t := rest T.code T.t)
  obtain ⟨tl, hD, hl1⟩ := tcells_list cv (rest T.code T.t) hrok.1
  have HSZ2 := Lib.hid (by rw [← hD]; exact tcells_size hrok.1 : tl.toArray.size = 36)
  have HONE := Lib.hid (by rw [← hD]; exact tcells_one hc : (tl.toArray).all (·.oneCell') = true)
  rw [hD, List.getElem?_toArray] at e34 e1 e0
  have HDD := Lib.hid hD
  rw [hD]
  have HL1 := Lib.hid hl1
  clear hb2 hb3 br2 bx2 hrok HB BR BX HI1 hD hl1
  go_wp2_with (first | with_reducible refine load_stop rfl 42 _ rfl ?_ | with_reducible refine store_stop rfl 42 _ _ rfl ?_)
  refine AtStore.go w.heap.size rfl rfl BX2.out (size_task' HSZ2.out) (by rw [HSZ.out, HSZ2.out]) HONE.out ?_
  have bx3 := BX2.out.row tl.toArray
  have br3 := BR2.out.row_far (k := w.heap.size) (by omega) tl.toArray
  have hb3 := below_row HB2.out (Nat.le_refl _) tl.toArray
  have hs3 : w.heap.size + 2 ≤ (w2.setRow w.heap.size tl.toArray).heap.size := by simpa [World.setRow] using hs2
  generalize w2.setRow w.heap.size tl.toArray = W3 at *
  have HB3 := Lib.hid hb3
  have BX3 := Lib.hid bx3
  have BR3 := Lib.hid br3
  clear HB2 BX2 BR2 hb3 br3 HSZ HCC hs2 hs1
  have d34 := (bx3.cell 34).trans (by simpa using e34)
  clear bx3 e34
  cases hdd : (rest T.code T.t).done with
  | true =>
    rw [hdd] at d34
    have hst := HST.out
    rw [if_pos hdd] at hst
    have hF : ∀ v2 w1, Below w.heap.size w w1 → Own w1 (w.heap.size + 2) v2 (counts ms) → StepPost cv T.code (stepT T ms).1 (stepT T ms).2 w (.returned (.tuple #[.agg tl.toArray, v2])) (w1.setRow (w.heap.size + 1) tl.toArray) := fun v2 w1 hb ho => by
      rw [hst, ← HDD.out]
      exact StepPost.stored (T := ⟨T.code, rest T.code T.t⟩) (fun _ h => h) HRO.out hc hb ho
    have F := Lib.hid hF
    have HM0 := Lib.hid (HM.out.below (w' := W3) HB3.out)
    clear hF hst hdd
    go_wp2_with fail
    have hu := Try.underlying42
    refine wp_region_held_drew (S := fun w' => w'.rangeAt w.heap.size 0 tl) (by kernel_rfl) BX3.out.range (fun hHeld => ?_)
    refine wpAnyH_take (i := 0) (v := .agg tl.toArray) rfl (by kernel_rfl) (by kernel_rfl) (by kernel_rfl) (fun _ _ _ h => h)
      (yieldsIf_load_mid (by rfl) 42 _ rfl w.heap.size 0 rfl tl _ (fun _ h => h) hu rfl (by rw [HL1.out]; exact size_task)) hHeld ?_
    clear hu
    simp only [Act.put, List.setIfInBounds_toArray, List.set_cons_zero, List.set_cons_succ]
    refine wpAnyH_take (i := 1) (v := vm) rfl (by kernel_rfl) (by kernel_rfl) (by kernel_rfl) (fun _ _ _ h => h) (Or.inl ⟨by rfl, fun w hw => ?_⟩) hHeld ?_
    · go_simp
    simp only [Act.put, List.setIfInBounds_toArray, List.set_cons_zero, List.set_cons_succ]
    refine wpAnyH_ready (rs := [2]) (by kernel_rfl) (by simp) ?_
    refine AllReadyH.cons rfl (fun K hK => ?_) AllReadyH.nil
    go_simp
    refine (tknown_call (w := W3.drew) HM0.out.drew).mono ?_
    rintro e w1 ⟨v2, rfl, ho, hb1'⟩
    have hb1 := below_of_drew hb1'
    clear hb1'
    have BR1 := Lib.hid (BR3.out.kept hb1)
    have HF := Lib.hid (F.out v2 w1 (below_call HB3.out hb1 HB3.out.size) (own_base ho (by show _ ≤ W3.heap.size; omega)))
    have bx1 : Box w1 w.heap.size 42 tl.toArray := BX3.out.kept hb1
    refine hK.out _ _ bx1.range (fun hHeld2 => ?_)
    clear hK K ho hb1
    refine wpAnyH_ready (rs := [3]) (by kernel_rfl) (by simp) ?_
    refine AllReadyH.cons rfl (fun K hK => ?_) AllReadyH.nil
    rw [if_pos (by rfl)]
    refine wp_store_row 42 _ _ rfl (w.heap.size + 1) tl.toArray rfl rfl 42 _ BR1.out (size_task' (by rw [HSZ2.out])) (by rw [hz, HSZ2.out]) HONE.out ?_
    refine hK.out _ _ (by exact (Box.row_far (bx1) (by omega) _).range) (fun _ => ?_)
    clear hK K
    refine wpAnyH_ready (rs := [4]) (by kernel_rfl) (by simp) ?_
    refine AllReadyH.cons rfl (fun K hK => ?_) AllReadyH.nil
    go_simp
    refine hK.out _ _ (by exact (Box.row_far (bx1) (by omega) _).range) (fun _ => ?_)
    clear hK K
    refine wpAnyH_done (by kernel_rfl) ?_ _
    go_wp2
    exact bodyPost_ret (results_row_tmp Try.results33 _ _ (w.heap.size + 1) 42 _ _ rfl (BR1.out.row _) Try.underlying42 rfl (size_task' HSZ2.out)) rfl HF.out

  | false =>
    rw [hdd] at d34
    have hst := HST.out
    rw [if_neg (by simp [hdd])] at hst
    obtain ⟨hp0, hp1, hk2⟩ := rest_rests HS.out hdd
    obtain ⟨pc, hpc⟩ := Int.eq_ofNat_of_zero_le hp0
    have hpl : pc < T.code.length := by omega
    have hsl : T.code.length ≤ 200 := HS.out.2.2
    have hxo := insn_ok HI.out.2 pc hpl
    have hxs := HS.out.1 pc hpl
    have hI3 := HI.out.below HB3.out
    have hcd := HRO.out
    have d1 := (BX3.out.cell 1).trans (by simpa using e1)
    have d0 := (BX3.out.cell 0).trans (by simpa using e0)
    rw [hcv] at hI3 d0
    obtain ⟨b, off, rfl, hbl, c0, c1, c2, c3, c4⟩ := hI3.at_ rfl hpl
    rw [hpc] at d1
    have hpt : (rest T.code T.t).pc.toNat = pc := by rw [hpc]; rfl
    rw [hpt] at hst hk2
    generalize hx : T.code.getD pc insn0 = x at *
    have HX := Lib.hid hx
    have HPC := Lib.hid hpc
    have HXO := Lib.hid hxo
    have HXS := Lib.hid hxs
    have HST2 := Lib.hid hst
    have hlt : (pc : Int) < (T.code.length : Int) := by omega
    clear hx hpc hp0 hp1 hst hxo hxs hI3 hdd hpt
    go_wp2_with fail
    refine wp_at fun W4 hW4 => ?_
    obtain ⟨kk, hkk⟩ := Int.eq_ofNat_of_zero_le HXS.out.1
    have hk3 : kk ≤ 2 := by omega
    have hk3' : (kk : Int) < 3 := by omega
    have b6 : Box W4 W3.heap.size 55 #[.int .i64 x.k, .int .i64 x.i, .int .i64 x.r, .int .i64 x.to, .int .u64 x.a] := by rw [hW4]; exact (Box.new _ _ _).alloc _
    have b7 : Box W4 (W3.heap.size + 1) 98 #[.int .i64 0, .int .i64 1, .int .i64 3] := by rw [hW4]; exact Box.at_ (by simp) _ _
    have bx4 : Box W4 w.heap.size 42 tl.toArray := by rw [hW4]; exact (BX3.out.alloc _).alloc _
    have br4 : Box W4 (w.heap.size + 1) 42 z := by rw [hW4]; exact (BR3.out.alloc _).alloc _
    have hb4 : Below w.heap.size w W4 := by rw [hW4]; exact (HB3.out.alloc (by omega) _).alloc (by simp; omega) _
    have hs4 : W4.heap.size = W3.heap.size + 2 := by rw [hW4]; simp
    have f0 := b6.cell 0
    have f1 := b6.cell 1
    have f4 := b6.cell 4
    have f7 : W4.cell? ⟨W3.heap.size + 1, kk, none⟩ = some (.int .i64 (kind x.k)) := by
      rw [b7.cell kk, hkk]
      obtain rfl | rfl | rfl : kk = 0 ∨ kk = 1 ∨ kk = 2 := by omega
      all_goals rfl
    simp only [List.getElem?_toArray, List.getElem?_cons_zero, List.getElem?_cons_succ] at f0 f1 f4
    have hM4 := HM.out.below hb4
    have HKK := Lib.hid hkk
    have hka := kind_ok HXO.out
    rw [hkk] at f0
    have F0 : Hid (∀ w', Below W4.heap.size W4 w' → w'.cell? ⟨W3.heap.size, 0, none⟩ = some (.int .i64 (kk : Int)) ∧ w'.cell? ⟨W3.heap.size, 1, none⟩ = some (.int .i64 x.i) ∧ w'.cell? ⟨W3.heap.size, 4, none⟩ = some (.int .u64 x.a) ∧ w'.cell? ⟨W3.heap.size + 1, kk, none⟩ = some (.int .i64 (kind x.k))) :=
      Lib.hid fun w' hb => ⟨(hb.cell (by simp; omega)).trans f0, (hb.cell (by simp; omega)).trans f1, (hb.cell (by simp; omega)).trans f4, (hb.cell (by simp; omega)).trans f7⟩
    have HKA := Lib.hid hka
    have HM4 := Lib.hid hM4
    have B6 := Lib.hid b6
    have BX4 := Lib.hid bx4
    have BR4 := Lib.hid br4
    have HB4 := Lib.hid hb4
    have c3 := F0.out W4.drew ⟨rfl, rfl, rfl, Nat.le_refl _, fun _ _ => rfl⟩
    clear hW4 hkk b6 b7 bx4 br4 hb4 hM4 hka c0 c1 c2 c4 d0 d1 d34 hk2
    have hdo := fun (W : World) (hw : Words W vm ms) => do_call (x := ⟨kind x.k, x.i, x.a, 0⟩) HKA.out hw
    have HDO := Lib.hid hdo
    clear hdo
    go_region_held3 (fun w' => w'.cell? ⟨W3.heap.size, 0, none⟩ = some (.int .i64 (kk : Int)) ∧ w'.cell? ⟨W3.heap.size, 1, none⟩ = some (.int .i64 x.i) ∧ w'.cell? ⟨W3.heap.size, 4, none⟩ = some (.int .u64 x.a) ∧ w'.cell? ⟨W3.heap.size + 1, kk, none⟩ = some (.int .i64 (kind x.k)))
      (first | exact c3 | exact c9) (first | (go_at_call 31; refine (HDO.out W4.drew HM4.out.drew).mono ?_; rintro e w5 ⟨v5, rfl, ho5, hb5'⟩; have hb5 := below_of_drew hb5'; have c9 := F0.out w5 hb5))
    have hd64 : (∀ y ∈ (access (counts ms) ⟨kind x.k, x.i, x.a, 0⟩).1, W64 y) ∧ W64 (access (counts ms) ⟨kind x.k, x.i, x.a, 0⟩).2 := access_ok (counts_mem HM.out.2) HKA.out
    have hpok : (rest T.code T.t).pc < 9223372036854775807 := by rw [HPC.out]; omega
    have hmok := moved_ok (x := x) HRO.out hd64.2 (by rw [HPC.out]; exact Int.natCast_nonneg _) hpok
    have hst := HST2.out
    generalize hda : access (counts ms) ⟨kind x.k, x.i, x.a, 0⟩ = da at *
    obtain ⟨m', d⟩ := da
    dsimp only at hst hmok ho5 hd64 ⊢
    have HDA := Lib.hid hda
    obtain ⟨r, hr⟩ := Int.eq_ofNat_of_zero_le HXS.out.2.2.1
    have hr32 : r < 32 := by have := HXS.out.2.2.2.1; omega
    have hr32' : (r : Int) < 32 := by omega
    have b65 := B6.out.kept hb5
    have bx5 := BX4.out.kept hb5
    have br5 := BR4.out.kept hb5
    have hB5 := below_call HB4.out hb5 HB4.out.size
    have hs5 : w.heap.size + 2 ≤ w5.heap.size := by have := hb5.size; omega
    have g0 := b65.cell 0
    have g2 := b65.cell 2
    simp only [List.getElem?_toArray, List.getElem?_cons_zero, List.getElem?_cons_succ] at g0 g2
    rw [hr] at g2
    rw [HKK.out] at g0
    have hwr : IntKind.i64.wrap ((pc : Int) + 1) = (pc : Int) + 1 := by rw [IntKind.wrap_i64]; omega
    have a1 := (bx5.cell 1).trans (by simpa using e1)
    rw [HPC.out] at a1
    have a1f := bx5.frozen 1
    have hI5 := HI.out.below hB5
    have HST3 := Lib.hid hst
    have HMOK := Lib.hid hmok
    have HO5 := Lib.hid (own_base ho5 (by show _ ≤ W4.heap.size; omega) : Own w5 (w.heap.size + 2) v5 m')
    have HB5 := Lib.hid hB5
    have BX5 := Lib.hid bx5
    have BR5 := Lib.hid br5
    have HI5 := Lib.hid hI5
    have HR := Lib.hid hr
    clear hst hmok hda ho5 hb5 hb5' hB5 bx5 br5 b65 hI5 hd64 hpok hr c3 c9
    by_cases hk0 : kk = 0
    · subst hk0
      have hmv : moved (rest T.code T.t) x d = { rest T.code T.t with regs := (rest T.code T.t).regs.set r d, pc := (pc : Int) + 1 } := by
        unfold moved; rw [if_pos (by rw [HKK.out]; rfl), HR.out, HPC.out]; rfl
      have bx6 := BX5.out.set_ (2 + r) (.int .u64 d)
      rw [← HDD.out, tcells_set_reg HRO.out.1 hr32] at bx6
      have a6 := (bx6.cell 1).trans tcells_1
      rw [HPC.out] at a6
      have a6f := bx6.frozen 1
      have bx7 := bx6.set_ 1 (.int .i64 ((pc : Int) + 1))
      rw [tcells_set_1, ← hmv] at bx7
      have a2 := BX5.out.cell (2 + r)
      rw [← HDD.out, tcells_reg HRO.out.1 hr32] at a2
      have a2f := BX5.out.frozen (2 + r)
      have BX7 := Lib.hid bx7
      clear bx6 bx7 hmv
      have hB7 : Below w.heap.size w ((w5.setCell ⟨w.heap.size, 2 + r, none⟩ (.int .u64 d)).setCell ⟨w.heap.size, 1, none⟩ (.int .i64 ((pc : Int) + 1))) := (HB5.out.setCell (p := ⟨w.heap.size, 2 + r, none⟩) (Nat.le_refl _) _).setCell (p := ⟨w.heap.size, 1, none⟩) (Nat.le_refl _) _
      have hO7 : Own ((w5.setCell ⟨w.heap.size, 2 + r, none⟩ (.int .u64 d)).setCell ⟨w.heap.size, 1, none⟩ (.int .i64 ((pc : Int) + 1))) (w.heap.size + 2) v5 m' := own_cell_far (own_cell_far HO5.out (p := ⟨w.heap.size, 2 + r, none⟩) (by simp) _) (p := ⟨w.heap.size, 1, none⟩) (by simp) _
      have br7 : Box ((w5.setCell ⟨w.heap.size, 2 + r, none⟩ (.int .u64 d)).setCell ⟨w.heap.size, 1, none⟩ (.int .i64 ((pc : Int) + 1))) (w.heap.size + 1) 42 z := (BR5.out.far (p := ⟨w.heap.size, 2 + r, none⟩) (by simp) _).far (p := ⟨w.heap.size, 1, none⟩) (by simp) _
      have hs7 : w.heap.size + 2 ≤ ((w5.setCell ⟨w.heap.size, 2 + r, none⟩ (.int .u64 d)).setCell ⟨w.heap.size, 1, none⟩ (.int .i64 ((pc : Int) + 1))).heap.size := by simpa using hs5
      have HS7 := Lib.hid hs7
      have HB7 := Lib.hid hB7
      have HO7 := Lib.hid hO7
      have BR7 := Lib.hid br7
      have HI7 := Lib.hid (HI.out.below hB7)
      clear hB7 hO7 br7 hs7
      go_wp2_with (first | with_reducible refine load_stop rfl 42 _ rfl ?_ | with_reducible refine store_stop rfl 42 _ _ rfl ?_)
      generalize (w5.setCell ⟨w.heap.size, 2 + r, none⟩ (.int .u64 d)).setCell ⟨w.heap.size, 1, none⟩ (.int .i64 ((pc : Int) + 1)) = W7 at *
      have HSZ7 := Lib.hid (tcells_size (cv := cv) HMOK.out.1)
      generalize hC7 : tcells cv (moved (rest T.code T.t) x d) = C7 at *
      have HC7 := Lib.hid hC7
      clear hC7
      refine AtLoad.go w.heap.size rfl BX7.out Try.underlying42 rfl (size_task' HSZ7.out) ?_
      go_wp2_with (first | with_reducible refine load_stop rfl 42 _ rfl ?_ | with_reducible refine store_stop rfl 42 _ _ rfl ?_)
      rw [← HC7.out]
      refine (rest_call HS.out HI7.out HMOK.out hc).mono ?_
      rintro e w8 ⟨rfl, hb8⟩
      have hok8 : (rest T.code (moved (rest T.code T.t) x d)).ok := rest_ok HI.out.2 (by omega) HMOK.out
      have br8 := BR7.out.kept hb8
      have hF : StepPost cv T.code (stepT T ms).1 (stepT T ms).2 w (.returned (.tuple #[.agg (tcells cv (rest T.code (moved (rest T.code T.t) x d))), v5])) (w8.setRow (w.heap.size + 1) (tcells cv (rest T.code (moved (rest T.code T.t) x d)))) := by
        rw [HST3.out]
        exact StepPost.stored (T := ⟨T.code, rest T.code (moved (rest T.code T.t) x d)⟩) (fun _ h => h) hok8 hc (below_call HB7.out hb8 HB7.out.size) (own_kept HO7.out hb8)
      have HF := Lib.hid hF
      have BR8 := Lib.hid br8
      have HSZ8 := Lib.hid (tcells_size (cv := cv) hok8.1)
      have HONE8 := Lib.hid (tcells_one (cv := cv) (t := rest T.code (moved (rest T.code T.t) x d)) hc)
      clear hb8 hF br8 hok8
      generalize tcells cv (rest T.code (moved (rest T.code T.t) x d)) = D at *
      go_wp2_with (first | with_reducible refine load_stop rfl 42 _ rfl ?_ | with_reducible refine store_stop rfl 42 _ _ rfl ?_)
      refine AtStore.go (w.heap.size + 1) rfl rfl BR8.out (size_task' HSZ8.out) (by rw [hz, HSZ8.out]) HONE8.out ?_
      go_wp2
      exact bodyPost_ret (results_row_tmp Try.results33 _ _ (w.heap.size + 1) 42 _ _ rfl (BR8.out.row _) Try.underlying42 rfl (size_task' HSZ8.out)) rfl HF.out
    · have hk0' : ¬ (kk : Int) = 0 := by omega
      have hmv : moved (rest T.code T.t) x d = { rest T.code T.t with pc := (pc : Int) + 1 } := by
        unfold moved; rw [if_neg (by rw [HKK.out]; exact hk0'), HPC.out]
      have bx7 := BX5.out.set_ 1 (.int .i64 ((pc : Int) + 1))
      rw [← HDD.out, tcells_set_1, ← hmv] at bx7
      have BX7 := Lib.hid bx7
      clear bx7 hmv
      have hB7 : Below w.heap.size w (w5.setCell ⟨w.heap.size, 1, none⟩ (.int .i64 ((pc : Int) + 1))) := HB5.out.setCell (p := ⟨w.heap.size, 1, none⟩) (Nat.le_refl _) _
      have hO7 : Own (w5.setCell ⟨w.heap.size, 1, none⟩ (.int .i64 ((pc : Int) + 1))) (w.heap.size + 2) v5 m' := own_cell_far HO5.out (p := ⟨w.heap.size, 1, none⟩) (by simp) _
      have br7 : Box (w5.setCell ⟨w.heap.size, 1, none⟩ (.int .i64 ((pc : Int) + 1))) (w.heap.size + 1) 42 z := BR5.out.far (p := ⟨w.heap.size, 1, none⟩) (by simp) _
      have hs7 : w.heap.size + 2 ≤ (w5.setCell ⟨w.heap.size, 1, none⟩ (.int .i64 ((pc : Int) + 1))).heap.size := by simpa using hs5
      have HS7 := Lib.hid hs7
      have HB7 := Lib.hid hB7
      have HO7 := Lib.hid hO7
      have BR7 := Lib.hid br7
      have HI7 := Lib.hid (HI.out.below hB7)
      clear hB7 hO7 br7 hs7
      go_wp2_with (first | with_reducible refine load_stop rfl 42 _ rfl ?_ | with_reducible refine store_stop rfl 42 _ _ rfl ?_)
      generalize w5.setCell ⟨w.heap.size, 1, none⟩ (.int .i64 ((pc : Int) + 1)) = W7 at *
      have HSZ7 := Lib.hid (tcells_size (cv := cv) HMOK.out.1)
      generalize hC7 : tcells cv (moved (rest T.code T.t) x d) = C7 at *
      have HC7 := Lib.hid hC7
      clear hC7
      refine AtLoad.go w.heap.size rfl BX7.out Try.underlying42 rfl (size_task' HSZ7.out) ?_
      go_wp2_with (first | with_reducible refine load_stop rfl 42 _ rfl ?_ | with_reducible refine store_stop rfl 42 _ _ rfl ?_)
      rw [← HC7.out]
      refine (rest_call HS.out HI7.out HMOK.out hc).mono ?_
      rintro e w8 ⟨rfl, hb8⟩
      have hok8 : (rest T.code (moved (rest T.code T.t) x d)).ok := rest_ok HI.out.2 (by omega) HMOK.out
      have br8 := BR7.out.kept hb8
      have hF : StepPost cv T.code (stepT T ms).1 (stepT T ms).2 w (.returned (.tuple #[.agg (tcells cv (rest T.code (moved (rest T.code T.t) x d))), v5])) (w8.setRow (w.heap.size + 1) (tcells cv (rest T.code (moved (rest T.code T.t) x d)))) := by
        rw [HST3.out]
        exact StepPost.stored (T := ⟨T.code, rest T.code (moved (rest T.code T.t) x d)⟩) (fun _ h => h) hok8 hc (below_call HB7.out hb8 HB7.out.size) (own_kept HO7.out hb8)
      have HF := Lib.hid hF
      have BR8 := Lib.hid br8
      have HSZ8 := Lib.hid (tcells_size (cv := cv) hok8.1)
      have HONE8 := Lib.hid (tcells_one (cv := cv) (t := rest T.code (moved (rest T.code T.t) x d)) hc)
      clear hb8 hF br8 hok8
      generalize tcells cv (rest T.code (moved (rest T.code T.t) x d)) = D at *
      go_wp2_with (first | with_reducible refine load_stop rfl 42 _ rfl ?_ | with_reducible refine store_stop rfl 42 _ _ rfl ?_)
      refine AtStore.go (w.heap.size + 1) rfl rfl BR8.out (size_task' HSZ8.out) (by rw [hz, HSZ8.out]) HONE8.out ?_
      go_wp2
      exact bodyPost_ret (results_row_tmp Try.results33 _ _ (w.heap.size + 1) 42 _ _ rfl (BR8.out.row _) Try.underlying42 rfl (size_task' HSZ8.out)) rfl HF.out

theorem tcells_inj {a b : Value} {t : Tsk} (h : tcells a t = tcells b t) : a = b := by
  have h0 := tcells_0 (cv := a) (t := t)
  rw [h, tcells_0] at h0
  injection h0 with h0
  exact h0.symm
/-- What a step hands back, said of the values: wherever the task's code reads the new one's does. -/
def StepAns (v : Value) (T T' : FT) (ms : List Int) (w : World) (e : Ending) (w' : World) : Prop := ∃ v1 v2, e = .returned (.tuple #[v1, v2]) ∧ (∀ W, IsTask W v T → IsTask W v1 T') ∧ Own w' w.heap.size v2 ms ∧ Below w.heap.size w w'
theorem StepPost.ans {cv : Value} {T T' : FT} {ms : List Int} {w : World} {e : Ending} {w' : World} (h : StepPost cv T.code T' ms w e w') : StepAns (.agg (tcells cv T.t)) T T' ms w e w' := by
  obtain ⟨v1, v2, he, h1, h2, h3⟩ := h
  refine ⟨v1, v2, he, fun W hW => ?_, h2, h3⟩
  obtain ⟨cv', e', hi, _, _⟩ := hW
  injection e' with e'
  exact h1 W (by rw [tcells_inj e']; exact hi)

/-- task.Step. -/
theorem step_call {v vm : Value} {T : FT} {ms : List Int} {w : World} (h : IsTask w v T) (hm : Words w vm ms) :
    Calls Try.prog 33 #[v, vm] w (StepAns v T (stepT T ms).1 (stepT T ms).2 w) := by
  obtain ⟨cv, rfl, hI, ht, hc⟩ := h
  by_cases hd : T.t.done = true
  · have e : stepT T ms = (T, counts ms) := by unfold stepT; rw [if_pos hd]
    rw [e]
    exact (step_done ht hc hm hd).mono fun _ _ h => h.ans
  · have hd' : T.t.done = false := by simpa using hd
    by_cases hs : Sane T.code
    · exact (step_sane hI ht hc hm hd' hs).mono fun _ _ h => h.ans
    · have e : stepT T ms = (startT T.code, counts ms) := by unfold stepT; rw [if_neg hd, if_pos hs]
      rw [e]
      exact (step_insane hI ht hc hm hd' hs).mono fun _ _ h => h.ans
end Go.Proofs.Ytpkelneimjmmkaa

/- The walk of SeqEnds. -/
import Derived.Test.YtpkelneimjmmkaaSeqJ
import Derived.Test.YtpkelneimjmmkaaCellRunsW
namespace Go.Proofs.Ytpkelneimjmmkaa
open Go.RowKit

theorem range_below {w w' : World} {b o : Nat} {cs : List Value} (h : w.rangeAt b o cs) (hb : b < w.heap.size) (hB : Below w.heap.size w w') : w'.rangeAt b o cs := fun j v hv => (hB.cell (p := ⟨b, o + j, none⟩) hb).trans (h j v hv)
theorem take_at {P : Program} {md : Region.Mode} {ops : Array Oper} {Q : Exit → Act → World → Prop} {S : World → Prop} {i d : Nat} {oi : Oper} {v : Value} {fuel : Nat} {listed : Array Bool} {tmps : Array Value} {ds : List Deferred} {w : World} (hi : ops[i]? = some oi) (hd : oi.dst = some d)
    (hs : Region.noSelect ops = true) (hf : Region.free md ops listed i = true) (hr : (Region.ready md ops listed).contains i = true)
    (hQ : ∀ c a w, Q (.panic c) (a.put oi.dst v) w → Q (.panic c) a w) (hy : YieldsIf P ops S oi v ⟨tmps, ds⟩) (hS : S w)
    (h : wpAnyH P md ops Q S fuel (listed.setIfInBounds i true) ⟨tmps.setIfInBounds d v, ds⟩ w) : wpAnyH P md ops Q S (fuel + 1) listed ⟨tmps, ds⟩ w :=
  wpAnyH_take hi hs hf hr hQ hy hS (by rw [hd]; exact h)
theorem size_setCells' (b : Nat) : ∀ (vs : List Value) (o : Nat) (w : World), (w.setCells b o vs).heap.size = w.heap.size
  | [], _, _ => rfl
  | v :: r, o, w => by rw [World.setCells, size_setCells' b r]; simp
theorem any_at {P : Program} {md : Region.Mode} {ops : Array Oper} {Q : Exit → Act → World → Prop} {S : World → Prop} {fuel : Nat} {listed : Array Bool} {a : Act} {w : World} (h : ∀ W0, W0 = w → wpAnyH P md ops Q S fuel listed a W0) : wpAnyH P md ops Q S fuel listed a w := h w rfl
theorem own_setCells_low {w : World} {base : Nat} {v : Value} {ms : List Int} (h : Own w base v ms) {g : Nat} (hg : g < base) (o : Nat) (cs : List Value) : Own (w.setCells g o cs) base v ms := by
  obtain ⟨⟨h1, h2⟩, h3⟩ := h
  refine ⟨⟨h1, ?_⟩, h3⟩
  rcases h2 with h2 | ⟨g', cap, cur, e, hg', hh, r⟩
  · exact .inl h2
  · exact .inr ⟨g', cap, cur, e, hg', ((grown_setCells g cs o w).block g' (Array.getElem?_eq_some_iff.1 hh).1 (fun e => by injection e with e; omega)).trans hh, r⟩
theorem and_w64 (x y : Int) : W64 (bits .and .u64 x y) := by
  show W64 (IntKind.u64.wrap _)
  rw [IntKind.wrap_u64]
  unfold W64
  omega
/-- Between two steps of the try. -/
structure EndRel (w2 : World) (C0 : Array Value) (T0 : FT) (n k g8 g9 s : Nat) (T : FT) (cl mi : List Value) (ms : List Int) (wr : World) : Prop where
  box : Box wr g8 42 cl.toArray
  task : ∀ W, IsTask W (.agg C0) T0 → IsTask W (.agg cl.toArray) T
  inv : TryInv 0 n k s T
  own : Own wr g9 (.slice (some ⟨g9, 0, none⟩) (n + 1) (n + 1)) ms
  len : ms.length = n + 1
  below : Below w2.heap.size w2 wr
  size : g9 < wr.heap.size

set_option maxHeartbeats 16000000 in
set_option maxRecDepth 20000 in
set_option linter.unusedSimpArgs false in
theorem seqEnds_walk {vl : Value} {ls : List Int} {n k : Int} {w : World} (hl : Words w vl ls) : Calls Try.prog 18 #[.int .i64 n, .int .i64 k, vl] w (BoolPost true w) := by
  obtain ⟨B, d, rfl, hd1, hd2, _⟩ := hl.1.form
  unfold maxLen at hd2
  have HL := Lib.hid hl
  clear hl
  obtain ⟨i0, hi0, hz0, hz1, hz2⟩ := info_parts info_u64
  have HI0 := Lib.hid hi0
  have HZ0 := Lib.hid hz0
  have HZ1 := Lib.hid hz1
  have HZ2 := Lib.hid hz2
  clear hi0 hz0 hz1 hz2
  go_enter Try.func18, Try.ntmps18
  go_wp2_with fail
  refine (awake15 _).mono ?_
  rintro e w1 ⟨rfl, hb1⟩
  replace HL := Lib.hid (HL.out.below hb1)
  have HBW := Lib.hid hb1
  clear hb1 
  by_cases hn0 : n < 1
  · go_wp2
    go_ret
    exact ⟨rfl, HBW.out⟩
  by_cases hn1 : 28 < n
  · go_wp2
    go_ret
    exact ⟨rfl, HBW.out⟩
  by_cases hk0 : k < 1
  · go_wp2
    go_ret
    exact ⟨rfl, HBW.out⟩
  by_cases hk1 : 6 < k
  · go_wp2
    go_ret
    exact ⟨rfl, HBW.out⟩
  by_cases h300 : 300 < ls.length
  · have h300' : (300 : Int) < (ls.length : Int) := by omega
    go_wp2
    go_ret
    exact ⟨rfl, HBW.out⟩
  have n300 : ¬ (300 : Int) < (ls.length : Int) := by omega
  obtain ⟨N, rfl⟩ := Int.eq_ofNat_of_zero_le (show 0 ≤ n by omega)
  obtain ⟨K, rfl⟩ := Int.eq_ofNat_of_zero_le (show 0 ≤ k by omega)
  have hN1 : 1 ≤ N := by omega
  have hN : N ≤ 28 := by omega
  have hK1 : 1 ≤ K := by omega
  have hK : K ≤ 6 := by omega
  obtain ⟨M, hM⟩ : ∃ M, M = K * (N + 2) := ⟨_, rfl⟩
  have hM180 : M ≤ 180 := by rw [hM]; have := Nat.mul_le_mul hK (show N + 2 ≤ 30 by omega); omega
  have hn1w : IntKind.i64.wrap ((N : Int) + 1) = (N : Int) + 1 := by rw [IntKind.wrap_i64]; omega
  have hn2w : IntKind.i64.wrap ((N : Int) + 2) = (N : Int) + 2 := by rw [IntKind.wrap_i64]; omega
  have hMe : (K : Int) * ((N : Int) + 2) = (M : Int) := by rw [hM]; push_cast; rfl
  have hMw' : wrap64 ((K : Int) * ((N : Int) + 2)) = (M : Int) := by rw [hMe]; unfold wrap64; omega
  have hMw : IntKind.i64.wrap ((K : Int) * ((N : Int) + 2)) = (M : Int) := by rw [hMe, IntKind.wrap_i64]; omega
  have HM := Lib.hid hM
  have hTB : tryC 0 (N : Int) (K : Int) = tryL 0 N K := by unfold tryC; rw [if_pos ⟨by omega, by omega, by omega, by omega, by omega, by omega⟩]; simp
  clear hM hMe
  go_wp2_with fail
  refine (try_call 0 (N : Int) (K : Int) _).mono ?_
  rintro e w2 ⟨v2, rfl, hi2, hb2⟩
  replace HL := Lib.hid (HL.out.below hb2)
  replace HBW := Lib.hid (below_call HBW.out hb2 HBW.out.size)
  have HI2 := Lib.hid (hi2)
  clear hb2 hi2
  rw [hTB] at HI2
  clear hTB
  go_wp2_with fail
  refine (start_call HI2.out).mono ?_
  rintro e w3 ⟨rfl, hb3⟩
  have ht3 := isTask_of HI2.out hb3
  generalize tcells (startCv _ _) (startT _).t = C3 at *
  replace HL := Lib.hid (HL.out.below hb3)
  replace HI2 := Lib.hid (HI2.out.below hb3)
  replace HBW := Lib.hid (below_call HBW.out hb3 HBW.out.size)
  have HT3 := Lib.hid ht3
  clear ht3 hb3
  clear HI2
  have hsz0 := HT3.out.size
  obtain ⟨hsz, hone, _⟩ := hsz0
  obtain ⟨cl0, rfl⟩ : ∃ cl : List Value, C3 = cl.toArray := ⟨C3.toList, by simp⟩
  have HSZ := Lib.hid (by simpa using hsz : cl0.length = 36)
  have HONE := Lib.hid hone
  clear hsz hone
  have HTA : Hid (IsTask w3 (.agg cl0.toArray) (startT (tryL 0 N K))) := HT3
  have HBA := HBW
  go_wp2_with (first | with_reducible refine mid_stop 42 _ rfl ?_ | with_reducible refine storeM_stop rfl 42 _ _ rfl ?_)
  refine AtStoreM.go w3.heap.size 0 (cs := cl0) rfl rfl (newRow (by rw [HSZ.out]; rfl)).2.2 (by rw [HSZ.out]; exact size_task) HONE.out ?_
  refine wpl_at fun W3 hW3 => ?_
  have hbw3 : Below w3.heap.size w3 W3 := by rw [hW3]; exact (newRow (by rw [HSZ.out]; rfl)).1
  have HY : Hid (Box W3 w3.heap.size 42 cl0.toArray) := Lib.hid (by rw [hW3]; exact (newRow (by rw [HSZ.out]; rfl)).2.1)
  have hs3 : W3.heap.size = w3.heap.size + 1 := by rw [hW3]; rw [size_setCells']; simp
  clear hW3
  obtain ⟨w4, hmk, ho4, hb4⟩ := make_u64 (N + 1) (by omega) W3
  have e1 : ((N + 1 : Nat) : Int) = (N : Int) + 1 := by push_cast; rfl
  rw [e1] at hmk
  have hg94 : W3.heap.size < w4.heap.size := (ho4.1.lt W3.heap.size rfl).2
  have HR : Hid (EndRel w3 cl0.toArray (startT (tryL 0 N K)) N K w3.heap.size W3.heap.size 0 (startT (tryL 0 N K)) cl0 [] (zeros (N + 1)) w4) := Lib.hid
    ⟨HY.out.kept hb4, fun _ h => h, tryInv_start hN hK1 hK, ho4, zeros_len _, hbw3.trans (hb4.mono (by omega)), hg94⟩
  have hg89 : w3.heap.size < W3.heap.size := by omega
  clear ho4 hb4 hbw3 HY e1 hg94 hs3
  go_wp2_with fail
  go_loopw [10] (fun qv wr => ∃ (s : Nat) (T : FT) (cl : List Value) (mi : List Int), s ≤ M ∧ qv = .int .i64 (s : Int) ∧ Hid (EndRel w3 cl0.toArray (startT (tryL 0 N K)) N K w3.heap.size W3.heap.size s T cl [] mi wr)) (fun qv _ => M - (intOf qv).toNat)
  case atStart => exact ⟨0, _, cl0, _, Nat.zero_le _, rfl, HR⟩
  case round =>
    clear HR hmk
    obtain ⟨s, T, cl, mi, hsM, rfl, HR⟩ := hrel
    have hTw := HR.out.task wr (HTA.out.below HR.out.below)
    obtain ⟨cl', hcl', hsz1, hone1, x34, x35, _⟩ := hTw.list
    obtain rfl : cl = cl' := by injection hcl' with h; simpa using congrArg Array.toList h
    have HTW := Lib.hid hTw
    have HSZ1 := Lib.hid hsz1
    have HONE1 := Lib.hid hone1
    have d34 := (HR.out.box.cell 34).trans (by simpa using x34)
    have HBR : Hid (Below w.heap.size w wr) := Lib.hid (below_call HBA.out HR.out.below HBA.out.size)
    clear hTw hcl' hsz1 hone1
    have FIN : Hid (T.t.done = true → True) := Lib.hid fun _ => trivial
    by_cases hgo : s < M ∧ T.t.done = false
    · obtain ⟨hsm, hdn⟩ := hgo
      have hsi : (s : Int) < (M : Int) := by omega
      rw [hdn] at d34
      have HDN := Lib.hid hdn
      clear hdn x34 x35
      -- the word that is laid ahead of the step
      have step : True := trivial
      obtain ⟨b0, o0, hA0, _, p0⟩ := HR.out.own.words.at_ HR.out.len.symm (by rw [HR.out.len]; omega : 0 < mi.length)
      injection hA0 with hA0
      injection hA0 with hA1 hA2
      subst hA1 hA2
      rw [Nat.zero_add] at p0
      have hfz := HR.out.own.frozen 0
      have hN0 : (0 : Int) < (N : Int) + 1 := by omega
      have hN0' : (0 : Int) < ((N + 1 : Nat) : Int) := by omega
      have hcase : (s < ls.length) ∨ ¬ s < ls.length := by omega
      have HSTORE : Hid (∀ y, W64 y → EndRel w3 cl0.toArray (startT (tryL 0 N K)) N K w3.heap.size W3.heap.size s T cl [] (mi.set 0 y) (wr.setCell ⟨W3.heap.size, 0, none⟩ (.int .u64 y))) := Lib.hid fun y hy =>
        ⟨HR.out.box.far (p := ⟨W3.heap.size, 0, none⟩) (by simp; omega) _, HR.out.task, HR.out.inv, ⟨by
          have := HR.out.own.1
          rw [HR.out.len] at this
          rw [List.length_set, HR.out.len]
          exact own_set this, fun z hz => by
          rcases mem_set hz with h | h
          · exact HR.out.own.2 z h
          · rw [h]; exact hy⟩, by rw [List.length_set]; exact HR.out.len, HR.out.below.setCell (p := ⟨W3.heap.size, 0, none⟩) (by simp; omega) _, by simpa using HR.out.size⟩
      rcases hcase with hc | hc
      · have hcs : (s : Int) < (ls.length : Int) := by omega
        obtain ⟨bv, ov, rfl, _, pv⟩ := (HL.out.below (HR.out.below)).at_ rfl hc
        generalize ls.getD s 0 = x at *
        have HY5 := Lib.hid (and_w64 x 7)
        go_wp2_with fail
        refine wp_at fun W5 hW5 => ?_
        have hR5 := HSTORE.out _ HY5.out
        rw [← hW5] at hR5
        have HR5 := Lib.hid hR5
        clear hW5 hR5 HSTORE HR HTW p0 hfz d34
        have HU5 : Hid (IsTask W5 (.agg cl.toArray) T) := Lib.hid (HR5.out.task W5 (HTA.out.below HR5.out.below))
        have HS : Hid (∀ W, Below W5.heap.size W5 W → W.rangeAt w3.heap.size 0 cl) := Lib.hid fun W hW => range_below HR5.out.box.range HR5.out.box.lt hW
        generalize mi.set 0 _ = m5 at *
        have hi8 : (Try.prog.info? 42).map (·.size) = some cl.length := by rw [HSZ1.out]; exact size_task
        have HI8 := Lib.hid hi8
        clear hi8
        refine wp_region_held_drew (S := fun W => W.rangeAt w3.heap.size 0 cl) (by kernel_rfl) (HS.out W5 (Below.refl _ _)) (fun hHeld => ?_)
        refine take_at (i := 0) (v := .agg cl.toArray) rfl rfl (by kernel_rfl) (by kernel_rfl) (by kernel_rfl) (fun _ _ _ h => h)
          (yieldsIf_load_mid (by rfl) 42 _ rfl w3.heap.size (0) rfl cl _ (fun _ h => h) Try.underlying42 rfl HI8.out) hHeld ?_
        simp only [List.setIfInBounds_toArray, List.set_cons_zero, List.set_cons_succ]
        refine take_at (i := 2) (v := .slice (some ⟨W3.heap.size, 0, none⟩) (N + 1) (N + 1)) rfl rfl (by kernel_rfl) (by kernel_rfl) (by kernel_rfl) (fun _ _ _ h => h) (Or.inl ⟨by rfl, fun w hw => ?_⟩) hHeld ?_
        · go_simp
        simp only [List.setIfInBounds_toArray, List.set_cons_zero, List.set_cons_succ]
        refine any_at fun W6 hW6 => ?_
        have HD0 : Hid (Below W5.heap.size W5 W6) := Lib.hid (by rw [hW6]; exact ⟨rfl, rfl, rfl, Nat.le_refl _, fun _ _ => rfl⟩)
        replace hHeld : W6.rangeAt w3.heap.size 0 cl := HS.out _ HD0.out
        clear hW6
        refine wpAnyH_ready (rs := [1, 8]) (by kernel_rfl) (by simp) ?_
        refine AllReadyH.cons rfl (fun KQ hKQ => ?_) (AllReadyH.cons rfl (fun KQ hKQ => ?_) AllReadyH.nil)
        · go_simp
          refine hKQ.out _ _ (HS.out _ (HD0.out.alloc HD0.out.size _)) (fun hHeld0 => ?_)
          clear hKQ KQ hHeld0
          refine any_at fun wb1 hwb1 => ?_
          have HO1 : Hid (wb1.ownsRow W6.heap.size 30 1 (.slice (some ⟨W6.heap.size, 0, none⟩) 0 0) 0 []) := Lib.hid (by rw [hwb1]; exact World.ownsRow_made W6 #[] 0 (Nat.le_refl _) (Nat.zero_le _) (by simp))
          have HD1 : Hid (Below W5.heap.size W5 wb1) := Lib.hid (by rw [hwb1]; exact HD0.out.alloc HD0.out.size _)
          have HEA : Hid (W6.heap.size < wb1.heap.size) := Lib.hid (by rw [hwb1]; simp)
          have HG70 : Hid (W5.heap.size ≤ W6.heap.size) := Lib.hid HD0.out.size
          have hHeld : wb1.rangeAt w3.heap.size 0 cl := HS.out _ HD1.out
          clear hwb1
          generalize W6.heap.size = g70 at *
          refine wpAnyH_ready (rs := [3, 8]) (by kernel_rfl) (by simp) ?_
          refine AllReadyH.cons rfl (fun KQ hKQ => ?_) (AllReadyH.cons rfl (fun KQ hKQ => ?_) AllReadyH.nil)
          · rw [if_pos (by rfl)]
            refine wp_append_sl _ _ _ 22 rfl g70 30 i0 _ 1 8 Try.underlying22 HI0.out HZ0.out HZ1.out HZ2.out rfl (by decide) (.slice (some ⟨g70, 0, none⟩) 0 0) 0 [] rfl HO1.out (.slice (some ⟨W3.heap.size, 0, none⟩) (N + 1) (N + 1)) (N + 1) (u64s m5) rfl ?_ (one_u64s m5) (by simp only [maxLen]; omega) (by omega) (by have := HEA.out; omega) ?_
            · have := (own_kept HR5.out.own HD1.out).words.1
              rwa [HR5.out.len] at this
            intro v72 wb2 hown72 hgrow72 _
            have HW72 : Hid (Words wb2 v72 m5) := Lib.hid ⟨by have := Sl.of_own hown72; simpa [HR5.out.len] using this, HR5.out.own.2⟩
            have HD2 : Hid (Below W5.heap.size W5 wb2) := Lib.hid (HD1.out.grown hgrow72 HD1.out.size (fun j hj => by have h1 : some g70 = some j := hj; injection h1 with h1; have := HG70.out; omega))
            clear hown72 hgrow72
            go_simp
            refine hKQ.out _ _ (HS.out _ HD2.out) (fun hHeld => ?_)
            clear hKQ KQ
            refine wpAnyH_ready (rs := [4, 8]) (by kernel_rfl) (by simp) ?_
            refine AllReadyH.cons rfl (fun KQ hKQ => ?_) (AllReadyH.cons rfl (fun KQ hKQ => ?_) AllReadyH.nil)
            · go_simp
              refine (step_call (HU5.out.below HD2.out) HW72.out).mono ?_
              rintro e wb3 ⟨v73, v74, rfl, ht9, ho9, hb9⟩
              have hT9 := ht9 wb3 (HU5.out.below (below_call HD2.out hb9 HD2.out.size))
              obtain ⟨cl9, rfl, hsz9, hone9, _, _, _⟩ := hT9.list
              have HSZ9 := Lib.hid hsz9
              have HONE9 := Lib.hid hone9
              have HA9 : Hid (∀ W, IsTask W (.agg cl0.toArray) (startT (tryL 0 N K)) → IsTask W (.agg cl9.toArray) (stepT T m5).1) := Lib.hid fun W hW => ht9 W (HR5.out.task W hW)
              have HD3 : Hid (Below W5.heap.size W5 wb3) := Lib.hid (below_call HD2.out hb9 HD2.out.size)
              clear ht9 ho9 hT9 hsz9 hone9
              refine hKQ.out _ _ (HS.out _ HD3.out) (fun hHeld => ?_)
              clear hKQ KQ hb9
              refine take_at (i := 5) (v := .tuple #[.agg cl9.toArray, v74]) rfl rfl (by kernel_rfl) (by kernel_rfl) (by kernel_rfl) (fun _ _ _ h => h) (Or.inl ⟨by rfl, fun w hw => ?_⟩) hHeld ?_
              · go_simp
              simp only [List.setIfInBounds_toArray, List.set_cons_zero, List.set_cons_succ]
              refine take_at (i := 6) (v := .agg cl9.toArray) rfl rfl (by kernel_rfl) (by kernel_rfl) (by kernel_rfl) (fun _ _ _ h => h) (Or.inl ⟨by rfl, fun w hw => ?_⟩) hHeld ?_
              · go_simp
              simp only [List.setIfInBounds_toArray, List.set_cons_zero, List.set_cons_succ]
              refine take_at (i := 7) (v := v74) rfl rfl (by kernel_rfl) (by kernel_rfl) (by kernel_rfl) (fun _ _ _ h => h) (Or.inl ⟨by rfl, fun w hw => ?_⟩) hHeld ?_
              · go_simp
              simp only [List.setIfInBounds_toArray, List.set_cons_zero, List.set_cons_succ]
              refine wpAnyH_ready (rs := [8]) (by kernel_rfl) (by simp) ?_
              refine AllReadyH.cons rfl (fun KQ hKQ => ?_) AllReadyH.nil
              go_simp
              refine hKQ.out _ _ (HS.out _ (HD3.out.alloc HD3.out.size _)) (fun hHeld0 => ?_)
              clear hKQ KQ hHeld0
              refine any_at fun wb4 hwb4 => ?_
              have hxz : ∃ Z, Box wb4 wb3.heap.size 42 Z ∧ Z.size = 36 := by rw [hwb4]; exact ⟨_, Box.new _ _ _, rfl⟩
              obtain ⟨Z12, hxz1, hxz2⟩ := hxz
              have HX4 := Lib.hid hxz1
              have HZ12 := Lib.hid hxz2
              have HD4 : Hid (Below W5.heap.size W5 wb4) := Lib.hid (by rw [hwb4]; exact HD3.out.alloc HD3.out.size _)
              have HG12 : Hid (W5.heap.size ≤ wb3.heap.size) := Lib.hid HD3.out.size
              have hHeld : wb4.rangeAt w3.heap.size 0 cl := HS.out _ HD4.out
              clear hwb4 hxz1 hxz2
              generalize wb3.heap.size = g12 at *
              refine wpAnyH_ready (rs := [9]) (by kernel_rfl) (by simp) ?_
              refine AllReadyH.cons rfl (fun KQ hKQ => ?_) AllReadyH.nil
              rw [if_pos (by rfl)]
              refine wp_store_mid 42 _ _ rfl g12 0 cl9.toArray rfl rfl (HX4.out.thereAll (by simp [HSZ9.out, HZ12.out])) (by rw [List.size_toArray, HSZ9.out]; exact size_task) HONE9.out ?_
              have hbx : Box (wb4.setCells g12 0 cl9) g12 42 cl9.toArray := HX4.out.setCells_all (by simp [HSZ9.out, HZ12.out])
              have hbf : Below W5.heap.size W5 (wb4.setCells g12 0 cl9) := Below.setCells HD4.out HD4.out.size HG12.out _ _
              refine hKQ.out _ _ (HS.out _ hbf) (fun _ => ?_)
              clear hKQ KQ
              refine wpAnyH_ready (rs := [10]) (by kernel_rfl) (by simp) ?_
              refine AllReadyH.cons rfl (fun KQ hKQ => ?_) AllReadyH.nil
              go_simp
              refine hKQ.out _ _ (HS.out _ hbf) (fun _ => ?_)
              clear hKQ KQ
              refine wpAnyH_done (by kernel_rfl) ?_ _
              obtain ⟨W9, hW9⟩ : ∃ W9, W9 = wb4.setCells g12 0 cl9 := ⟨_, rfl⟩
              rw [← hW9] at hbx hbf ⊢
              have HX9 := Lib.hid hbx
              have HF9 := Lib.hid hbf
              have HN9 := Lib.hid (tryInv_step hN1 hN hK HR5.out.inv HDN.out (m := m5) (by have := HR5.out.len; omega))
              have HR6 : Hid (EndRel w3 cl0.toArray (startT (tryL 0 N K)) N K w3.heap.size W3.heap.size (s + 1) (stepT T m5).1 cl9 [] m5 (W9.setCells w3.heap.size 0 cl9)) := Lib.hid
                ⟨(HR5.out.box.kept HF9.out).setCells_all (by simp [HSZ9.out, HSZ1.out]), HA9.out, HN9.out, own_setCells_low (own_kept HR5.out.own HF9.out) hg89 _ _, HR5.out.len, Below.setCells (below_call HR5.out.below HF9.out HR5.out.below.size) (below_call HR5.out.below HF9.out HR5.out.below.size).size (Nat.le_refl _) _ _, by have h1 := HF9.out.size; have h2 := HR5.out.size; have h3 := (grown_setCells w3.heap.size cl9 0 W9).size; omega⟩
              have HB6 := Lib.hid (HR5.out.box.kept HF9.out)
              clear hbx hbf hW9
              go_wp2_with (first | with_reducible refine mid_stop 42 _ rfl ?_ | with_reducible refine storeM_stop rfl 42 _ _ rfl ?_)
              refine AtMid.go rfl g12 0 rfl HX9.out.range Try.underlying42 rfl (by rw [HSZ9.out]; exact size_task) ?_
              go_wp2_with (first | with_reducible refine mid_stop 42 _ rfl ?_ | with_reducible refine storeM_stop rfl 42 _ _ rfl ?_)
              refine AtStoreM.go w3.heap.size 0 (cs := cl9) rfl rfl (HB6.out.thereAll (by simp [HSZ9.out, HSZ1.out])) (by rw [HSZ9.out]; exact size_task) HONE9.out ?_
              go_wp2
              go_roundw
              case rel => exact ⟨s + 1, _, cl9, m5, by omega, by go_num, HR6⟩
              case measure => simp [intOf]; omega
            · go_simp
              refine hKQ.out _ _ (HS.out _ (HD2.out.alloc HD2.out.size _)) (fun hHeld0 => ?_)
              clear hKQ KQ hHeld0
              refine any_at fun wb3 hwb3 => ?_
              have hxz : ∃ Z, Box wb3 wb2.heap.size 42 Z ∧ Z.size = 36 := by rw [hwb3]; exact ⟨_, Box.new _ _ _, rfl⟩
              obtain ⟨Z12, hxz1, hxz2⟩ := hxz
              have HX3 := Lib.hid hxz1
              have HZ12 := Lib.hid hxz2
              have HD3 : Hid (Below W5.heap.size W5 wb3) := Lib.hid (by rw [hwb3]; exact HD2.out.alloc HD2.out.size _)
              have HG12 : Hid (W5.heap.size ≤ wb2.heap.size) := Lib.hid HD2.out.size
              have HO3 : Hid (Words wb3 v72 m5) := Lib.hid (by rw [hwb3]; exact HW72.out.alloc _)
              have hHeld : wb3.rangeAt w3.heap.size 0 cl := HS.out _ HD3.out
              clear hwb3 hxz1 hxz2
              generalize wb2.heap.size = g12 at *
              refine wpAnyH_ready (rs := [4]) (by kernel_rfl) (by simp) ?_
              refine AllReadyH.cons rfl (fun KQ hKQ => ?_) AllReadyH.nil
              go_simp
              refine (step_call (HU5.out.below HD3.out) HO3.out).mono ?_
              rintro e wb4 ⟨v73, v74, rfl, ht9, ho9, hb9⟩
              have hT9 := ht9 wb4 (HU5.out.below (below_call HD3.out hb9 HD3.out.size))
              obtain ⟨cl9, rfl, hsz9, hone9, _, _, _⟩ := hT9.list
              have HSZ9 := Lib.hid hsz9
              have HONE9 := Lib.hid hone9
              have HA9 : Hid (∀ W, IsTask W (.agg cl0.toArray) (startT (tryL 0 N K)) → IsTask W (.agg cl9.toArray) (stepT T m5).1) := Lib.hid fun W hW => ht9 W (HR5.out.task W hW)
              have HD4 : Hid (Below W5.heap.size W5 wb4) := Lib.hid (below_call HD3.out hb9 HD3.out.size)
              have HX4 := Lib.hid (HX3.out.kept hb9)
              clear ht9 ho9 hT9 hsz9 hone9
              refine hKQ.out _ _ (HS.out _ HD4.out) (fun hHeld => ?_)
              clear hKQ KQ hb9
              refine take_at (i := 5) (v := .tuple #[.agg cl9.toArray, v74]) rfl rfl (by kernel_rfl) (by kernel_rfl) (by kernel_rfl) (fun _ _ _ h => h) (Or.inl ⟨by rfl, fun w hw => ?_⟩) hHeld ?_
              · go_simp
              simp only [List.setIfInBounds_toArray, List.set_cons_zero, List.set_cons_succ]
              refine take_at (i := 6) (v := .agg cl9.toArray) rfl rfl (by kernel_rfl) (by kernel_rfl) (by kernel_rfl) (fun _ _ _ h => h) (Or.inl ⟨by rfl, fun w hw => ?_⟩) hHeld ?_
              · go_simp
              simp only [List.setIfInBounds_toArray, List.set_cons_zero, List.set_cons_succ]
              refine take_at (i := 7) (v := v74) rfl rfl (by kernel_rfl) (by kernel_rfl) (by kernel_rfl) (fun _ _ _ h => h) (Or.inl ⟨by rfl, fun w hw => ?_⟩) hHeld ?_
              · go_simp
              simp only [List.setIfInBounds_toArray, List.set_cons_zero, List.set_cons_succ]
              refine wpAnyH_ready (rs := [9]) (by kernel_rfl) (by simp) ?_
              refine AllReadyH.cons rfl (fun KQ hKQ => ?_) AllReadyH.nil
              rw [if_pos (by rfl)]
              refine wp_store_mid 42 _ _ rfl g12 0 cl9.toArray rfl rfl (HX4.out.thereAll (by simp [HSZ9.out, HZ12.out])) (by rw [List.size_toArray, HSZ9.out]; exact size_task) HONE9.out ?_
              have hbx : Box (wb4.setCells g12 0 cl9) g12 42 cl9.toArray := HX4.out.setCells_all (by simp [HSZ9.out, HZ12.out])
              have hbf : Below W5.heap.size W5 (wb4.setCells g12 0 cl9) := Below.setCells HD4.out HD4.out.size HG12.out _ _
              refine hKQ.out _ _ (HS.out _ hbf) (fun _ => ?_)
              clear hKQ KQ
              refine wpAnyH_ready (rs := [10]) (by kernel_rfl) (by simp) ?_
              refine AllReadyH.cons rfl (fun KQ hKQ => ?_) AllReadyH.nil
              go_simp
              refine hKQ.out _ _ (HS.out _ hbf) (fun _ => ?_)
              clear hKQ KQ
              refine wpAnyH_done (by kernel_rfl) ?_ _
              obtain ⟨W9, hW9⟩ : ∃ W9, W9 = wb4.setCells g12 0 cl9 := ⟨_, rfl⟩
              rw [← hW9] at hbx hbf ⊢
              have HX9 := Lib.hid hbx
              have HF9 := Lib.hid hbf
              have HN9 := Lib.hid (tryInv_step hN1 hN hK HR5.out.inv HDN.out (m := m5) (by have := HR5.out.len; omega))
              have HR6 : Hid (EndRel w3 cl0.toArray (startT (tryL 0 N K)) N K w3.heap.size W3.heap.size (s + 1) (stepT T m5).1 cl9 [] m5 (W9.setCells w3.heap.size 0 cl9)) := Lib.hid
                ⟨(HR5.out.box.kept HF9.out).setCells_all (by simp [HSZ9.out, HSZ1.out]), HA9.out, HN9.out, own_setCells_low (own_kept HR5.out.own HF9.out) hg89 _ _, HR5.out.len, Below.setCells (below_call HR5.out.below HF9.out HR5.out.below.size) (below_call HR5.out.below HF9.out HR5.out.below.size).size (Nat.le_refl _) _ _, by have h1 := HF9.out.size; have h2 := HR5.out.size; have h3 := (grown_setCells w3.heap.size cl9 0 W9).size; omega⟩
              have HB6 := Lib.hid (HR5.out.box.kept HF9.out)
              clear hbx hbf hW9
              go_wp2_with (first | with_reducible refine mid_stop 42 _ rfl ?_ | with_reducible refine storeM_stop rfl 42 _ _ rfl ?_)
              refine AtMid.go rfl g12 0 rfl HX9.out.range Try.underlying42 rfl (by rw [HSZ9.out]; exact size_task) ?_
              go_wp2_with (first | with_reducible refine mid_stop 42 _ rfl ?_ | with_reducible refine storeM_stop rfl 42 _ _ rfl ?_)
              refine AtStoreM.go w3.heap.size 0 (cs := cl9) rfl rfl (HB6.out.thereAll (by simp [HSZ9.out, HSZ1.out])) (by rw [HSZ9.out]; exact size_task) HONE9.out ?_
              go_wp2
              go_roundw
              case rel => exact ⟨s + 1, _, cl9, m5, by omega, by go_num, HR6⟩
              case measure => simp [intOf]; omega
          · go_simp
            refine hKQ.out _ _ (HS.out _ (HD1.out.alloc HD1.out.size _)) (fun hHeld0 => ?_)
            clear hKQ KQ hHeld0
            refine any_at fun wb2 hwb2 => ?_
            have hxz : ∃ Z, Box wb2 wb1.heap.size 42 Z ∧ Z.size = 36 := by rw [hwb2]; exact ⟨_, Box.new _ _ _, rfl⟩
            obtain ⟨Z12, hxz1, hxz2⟩ := hxz
            have HX2 := Lib.hid hxz1
            have HZ12 := Lib.hid hxz2
            have HD2 : Hid (Below W5.heap.size W5 wb2) := Lib.hid (by rw [hwb2]; exact HD1.out.alloc HD1.out.size _)
            have HG12 : Hid (W5.heap.size ≤ wb1.heap.size) := Lib.hid HD1.out.size
            have HO2 : Hid (wb2.ownsRow g70 30 1 (.slice (some ⟨g70, 0, none⟩) 0 0) 0 []) := Lib.hid (by rw [hwb2]; exact HO1.out.alloc _)
            have HNE : Hid (¬ wb1.heap.size = g70) := Lib.hid (by have := HEA.out; omega)
            replace HEA : Hid (g70 < wb2.heap.size) := Lib.hid (by rw [hwb2]; have := HEA.out; simp; omega)
            have hHeld : wb2.rangeAt w3.heap.size 0 cl := HS.out _ HD2.out
            clear hwb2 hxz1 hxz2
            generalize wb1.heap.size = g12 at *
            refine wpAnyH_ready (rs := [3]) (by kernel_rfl) (by simp) ?_
            refine AllReadyH.cons rfl (fun KQ hKQ => ?_) AllReadyH.nil
            rw [if_pos (by rfl)]
            refine wp_append_sl _ _ _ 22 rfl g70 30 i0 _ 1 8 Try.underlying22 HI0.out HZ0.out HZ1.out HZ2.out rfl (by decide) (.slice (some ⟨g70, 0, none⟩) 0 0) 0 [] rfl HO2.out (.slice (some ⟨W3.heap.size, 0, none⟩) (N + 1) (N + 1)) (N + 1) (u64s m5) rfl ?_ (one_u64s m5) (by simp only [maxLen]; omega) (by omega) (by have := HEA.out; omega) ?_
            · have := (own_kept HR5.out.own HD2.out).words.1
              rwa [HR5.out.len] at this
            intro v72 wb3 hown72 hgrow72 _
            have HW72 : Hid (Words wb3 v72 m5) := Lib.hid ⟨by have := Sl.of_own hown72; simpa [HR5.out.len] using this, HR5.out.own.2⟩
            have HD3 : Hid (Below W5.heap.size W5 wb3) := Lib.hid (HD2.out.grown hgrow72 HD2.out.size (fun j hj => by have h1 : some g70 = some j := hj; injection h1 with h1; have := HG70.out; omega))
            have HX3 : Hid (Box wb3 g12 42 Z12) := Lib.hid ((hgrow72.block g12 HX2.out.lt (fun h => by have h1 : some g12 = some g70 := h; injection h1 with h1; exact HNE.out h1)).trans HX2.out)
            clear hown72 hgrow72
            go_simp
            refine hKQ.out _ _ (HS.out _ HD3.out) (fun hHeld => ?_)
            clear hKQ KQ
            refine wpAnyH_ready (rs := [4]) (by kernel_rfl) (by simp) ?_
            refine AllReadyH.cons rfl (fun KQ hKQ => ?_) AllReadyH.nil
            go_simp
            refine (step_call (HU5.out.below HD3.out) HW72.out).mono ?_
            rintro e wb4 ⟨v73, v74, rfl, ht9, ho9, hb9⟩
            have hT9 := ht9 wb4 (HU5.out.below (below_call HD3.out hb9 HD3.out.size))
            obtain ⟨cl9, rfl, hsz9, hone9, _, _, _⟩ := hT9.list
            have HSZ9 := Lib.hid hsz9
            have HONE9 := Lib.hid hone9
            have HA9 : Hid (∀ W, IsTask W (.agg cl0.toArray) (startT (tryL 0 N K)) → IsTask W (.agg cl9.toArray) (stepT T m5).1) := Lib.hid fun W hW => ht9 W (HR5.out.task W hW)
            have HD4 : Hid (Below W5.heap.size W5 wb4) := Lib.hid (below_call HD3.out hb9 HD3.out.size)
            have HX4 := Lib.hid (HX3.out.kept hb9)
            clear ht9 ho9 hT9 hsz9 hone9
            refine hKQ.out _ _ (HS.out _ HD4.out) (fun hHeld => ?_)
            clear hKQ KQ hb9
            refine take_at (i := 5) (v := .tuple #[.agg cl9.toArray, v74]) rfl rfl (by kernel_rfl) (by kernel_rfl) (by kernel_rfl) (fun _ _ _ h => h) (Or.inl ⟨by rfl, fun w hw => ?_⟩) hHeld ?_
            · go_simp
            simp only [List.setIfInBounds_toArray, List.set_cons_zero, List.set_cons_succ]
            refine take_at (i := 6) (v := .agg cl9.toArray) rfl rfl (by kernel_rfl) (by kernel_rfl) (by kernel_rfl) (fun _ _ _ h => h) (Or.inl ⟨by rfl, fun w hw => ?_⟩) hHeld ?_
            · go_simp
            simp only [List.setIfInBounds_toArray, List.set_cons_zero, List.set_cons_succ]
            refine take_at (i := 7) (v := v74) rfl rfl (by kernel_rfl) (by kernel_rfl) (by kernel_rfl) (fun _ _ _ h => h) (Or.inl ⟨by rfl, fun w hw => ?_⟩) hHeld ?_
            · go_simp
            simp only [List.setIfInBounds_toArray, List.set_cons_zero, List.set_cons_succ]
            refine wpAnyH_ready (rs := [9]) (by kernel_rfl) (by simp) ?_
            refine AllReadyH.cons rfl (fun KQ hKQ => ?_) AllReadyH.nil
            rw [if_pos (by rfl)]
            refine wp_store_mid 42 _ _ rfl g12 0 cl9.toArray rfl rfl (HX4.out.thereAll (by simp [HSZ9.out, HZ12.out])) (by rw [List.size_toArray, HSZ9.out]; exact size_task) HONE9.out ?_
            have hbx : Box (wb4.setCells g12 0 cl9) g12 42 cl9.toArray := HX4.out.setCells_all (by simp [HSZ9.out, HZ12.out])
            have hbf : Below W5.heap.size W5 (wb4.setCells g12 0 cl9) := Below.setCells HD4.out HD4.out.size HG12.out _ _
            refine hKQ.out _ _ (HS.out _ hbf) (fun _ => ?_)
            clear hKQ KQ
            refine wpAnyH_ready (rs := [10]) (by kernel_rfl) (by simp) ?_
            refine AllReadyH.cons rfl (fun KQ hKQ => ?_) AllReadyH.nil
            go_simp
            refine hKQ.out _ _ (HS.out _ hbf) (fun _ => ?_)
            clear hKQ KQ
            refine wpAnyH_done (by kernel_rfl) ?_ _
            obtain ⟨W9, hW9⟩ : ∃ W9, W9 = wb4.setCells g12 0 cl9 := ⟨_, rfl⟩
            rw [← hW9] at hbx hbf ⊢
            have HX9 := Lib.hid hbx
            have HF9 := Lib.hid hbf
            have HN9 := Lib.hid (tryInv_step hN1 hN hK HR5.out.inv HDN.out (m := m5) (by have := HR5.out.len; omega))
            have HR6 : Hid (EndRel w3 cl0.toArray (startT (tryL 0 N K)) N K w3.heap.size W3.heap.size (s + 1) (stepT T m5).1 cl9 [] m5 (W9.setCells w3.heap.size 0 cl9)) := Lib.hid
              ⟨(HR5.out.box.kept HF9.out).setCells_all (by simp [HSZ9.out, HSZ1.out]), HA9.out, HN9.out, own_setCells_low (own_kept HR5.out.own HF9.out) hg89 _ _, HR5.out.len, Below.setCells (below_call HR5.out.below HF9.out HR5.out.below.size) (below_call HR5.out.below HF9.out HR5.out.below.size).size (Nat.le_refl _) _ _, by have h1 := HF9.out.size; have h2 := HR5.out.size; have h3 := (grown_setCells w3.heap.size cl9 0 W9).size; omega⟩
            have HB6 := Lib.hid (HR5.out.box.kept HF9.out)
            clear hbx hbf hW9
            go_wp2_with (first | with_reducible refine mid_stop 42 _ rfl ?_ | with_reducible refine storeM_stop rfl 42 _ _ rfl ?_)
            refine AtMid.go rfl g12 0 rfl HX9.out.range Try.underlying42 rfl (by rw [HSZ9.out]; exact size_task) ?_
            go_wp2_with (first | with_reducible refine mid_stop 42 _ rfl ?_ | with_reducible refine storeM_stop rfl 42 _ _ rfl ?_)
            refine AtStoreM.go w3.heap.size 0 (cs := cl9) rfl rfl (HB6.out.thereAll (by simp [HSZ9.out, HSZ1.out])) (by rw [HSZ9.out]; exact size_task) HONE9.out ?_
            go_wp2
            go_roundw
            case rel => exact ⟨s + 1, _, cl9, m5, by omega, by go_num, HR6⟩
            case measure => simp [intOf]; omega
        · go_simp
          refine hKQ.out _ _ (HS.out _ (HD0.out.alloc HD0.out.size _)) (fun hHeld0 => ?_)
          clear hKQ KQ hHeld0
          refine any_at fun wb1 hwb1 => ?_
          have hxz : ∃ Z, Box wb1 W6.heap.size 42 Z ∧ Z.size = 36 := by rw [hwb1]; exact ⟨_, Box.new _ _ _, rfl⟩
          obtain ⟨Z12, hxz1, hxz2⟩ := hxz
          have HX1 := Lib.hid hxz1
          have HZ12 := Lib.hid hxz2
          have HD1 : Hid (Below W5.heap.size W5 wb1) := Lib.hid (by rw [hwb1]; exact HD0.out.alloc HD0.out.size _)
          have HG12 : Hid (W5.heap.size ≤ W6.heap.size) := Lib.hid HD0.out.size
          have hHeld : wb1.rangeAt w3.heap.size 0 cl := HS.out _ HD1.out
          clear hwb1 hxz1 hxz2
          generalize W6.heap.size = g12 at *
          refine wpAnyH_ready (rs := [1]) (by kernel_rfl) (by simp) ?_
          refine AllReadyH.cons rfl (fun KQ hKQ => ?_) AllReadyH.nil
          go_simp
          refine hKQ.out _ _ (HS.out _ (HD1.out.alloc HD1.out.size _)) (fun hHeld0 => ?_)
          clear hKQ KQ hHeld0
          refine any_at fun wb2 hwb2 => ?_
          have HO2 : Hid (wb2.ownsRow wb1.heap.size 30 1 (.slice (some ⟨wb1.heap.size, 0, none⟩) 0 0) 0 []) := Lib.hid (by rw [hwb2]; exact World.ownsRow_made wb1 #[] 0 (Nat.le_refl _) (Nat.zero_le _) (by simp))
          have HD2 : Hid (Below W5.heap.size W5 wb2) := Lib.hid (by rw [hwb2]; exact HD1.out.alloc HD1.out.size _)
          have HEA : Hid (wb1.heap.size < wb2.heap.size) := Lib.hid (by rw [hwb2]; simp)
          have HG70 : Hid (W5.heap.size ≤ wb1.heap.size) := Lib.hid HD1.out.size
          have HX2 : Hid (Box wb2 g12 42 Z12) := Lib.hid (by rw [hwb2]; exact HX1.out.alloc _)
          have HNE : Hid (¬ g12 = wb1.heap.size) := Lib.hid (by have := HX1.out.lt; omega)
          have hHeld : wb2.rangeAt w3.heap.size 0 cl := HS.out _ HD2.out
          clear hwb2
          generalize wb1.heap.size = g70 at *
          refine wpAnyH_ready (rs := [3]) (by kernel_rfl) (by simp) ?_
          refine AllReadyH.cons rfl (fun KQ hKQ => ?_) AllReadyH.nil
          rw [if_pos (by rfl)]
          refine wp_append_sl _ _ _ 22 rfl g70 30 i0 _ 1 8 Try.underlying22 HI0.out HZ0.out HZ1.out HZ2.out rfl (by decide) (.slice (some ⟨g70, 0, none⟩) 0 0) 0 [] rfl HO2.out (.slice (some ⟨W3.heap.size, 0, none⟩) (N + 1) (N + 1)) (N + 1) (u64s m5) rfl ?_ (one_u64s m5) (by simp only [maxLen]; omega) (by omega) (by have := HEA.out; omega) ?_
          · have := (own_kept HR5.out.own HD2.out).words.1
            rwa [HR5.out.len] at this
          intro v72 wb3 hown72 hgrow72 _
          have HW72 : Hid (Words wb3 v72 m5) := Lib.hid ⟨by have := Sl.of_own hown72; simpa [HR5.out.len] using this, HR5.out.own.2⟩
          have HD3 : Hid (Below W5.heap.size W5 wb3) := Lib.hid (HD2.out.grown hgrow72 HD2.out.size (fun j hj => by have h1 : some g70 = some j := hj; injection h1 with h1; have := HG70.out; omega))
          have HX3 : Hid (Box wb3 g12 42 Z12) := Lib.hid ((hgrow72.block g12 HX2.out.lt (fun h => by have h1 : some g12 = some g70 := h; injection h1 with h1; exact HNE.out h1)).trans HX2.out)
          clear hown72 hgrow72
          go_simp
          refine hKQ.out _ _ (HS.out _ HD3.out) (fun hHeld => ?_)
          clear hKQ KQ
          refine wpAnyH_ready (rs := [4]) (by kernel_rfl) (by simp) ?_
          refine AllReadyH.cons rfl (fun KQ hKQ => ?_) AllReadyH.nil
          go_simp
          refine (step_call (HU5.out.below HD3.out) HW72.out).mono ?_
          rintro e wb4 ⟨v73, v74, rfl, ht9, ho9, hb9⟩
          have hT9 := ht9 wb4 (HU5.out.below (below_call HD3.out hb9 HD3.out.size))
          obtain ⟨cl9, rfl, hsz9, hone9, _, _, _⟩ := hT9.list
          have HSZ9 := Lib.hid hsz9
          have HONE9 := Lib.hid hone9
          have HA9 : Hid (∀ W, IsTask W (.agg cl0.toArray) (startT (tryL 0 N K)) → IsTask W (.agg cl9.toArray) (stepT T m5).1) := Lib.hid fun W hW => ht9 W (HR5.out.task W hW)
          have HD4 : Hid (Below W5.heap.size W5 wb4) := Lib.hid (below_call HD3.out hb9 HD3.out.size)
          have HX4 := Lib.hid (HX3.out.kept hb9)
          clear ht9 ho9 hT9 hsz9 hone9
          refine hKQ.out _ _ (HS.out _ HD4.out) (fun hHeld => ?_)
          clear hKQ KQ hb9
          refine take_at (i := 5) (v := .tuple #[.agg cl9.toArray, v74]) rfl rfl (by kernel_rfl) (by kernel_rfl) (by kernel_rfl) (fun _ _ _ h => h) (Or.inl ⟨by rfl, fun w hw => ?_⟩) hHeld ?_
          · go_simp
          simp only [List.setIfInBounds_toArray, List.set_cons_zero, List.set_cons_succ]
          refine take_at (i := 6) (v := .agg cl9.toArray) rfl rfl (by kernel_rfl) (by kernel_rfl) (by kernel_rfl) (fun _ _ _ h => h) (Or.inl ⟨by rfl, fun w hw => ?_⟩) hHeld ?_
          · go_simp
          simp only [List.setIfInBounds_toArray, List.set_cons_zero, List.set_cons_succ]
          refine take_at (i := 7) (v := v74) rfl rfl (by kernel_rfl) (by kernel_rfl) (by kernel_rfl) (fun _ _ _ h => h) (Or.inl ⟨by rfl, fun w hw => ?_⟩) hHeld ?_
          · go_simp
          simp only [List.setIfInBounds_toArray, List.set_cons_zero, List.set_cons_succ]
          refine wpAnyH_ready (rs := [9]) (by kernel_rfl) (by simp) ?_
          refine AllReadyH.cons rfl (fun KQ hKQ => ?_) AllReadyH.nil
          rw [if_pos (by rfl)]
          refine wp_store_mid 42 _ _ rfl g12 0 cl9.toArray rfl rfl (HX4.out.thereAll (by simp [HSZ9.out, HZ12.out])) (by rw [List.size_toArray, HSZ9.out]; exact size_task) HONE9.out ?_
          have hbx : Box (wb4.setCells g12 0 cl9) g12 42 cl9.toArray := HX4.out.setCells_all (by simp [HSZ9.out, HZ12.out])
          have hbf : Below W5.heap.size W5 (wb4.setCells g12 0 cl9) := Below.setCells HD4.out HD4.out.size HG12.out _ _
          refine hKQ.out _ _ (HS.out _ hbf) (fun _ => ?_)
          clear hKQ KQ
          refine wpAnyH_ready (rs := [10]) (by kernel_rfl) (by simp) ?_
          refine AllReadyH.cons rfl (fun KQ hKQ => ?_) AllReadyH.nil
          go_simp
          refine hKQ.out _ _ (HS.out _ hbf) (fun _ => ?_)
          clear hKQ KQ
          refine wpAnyH_done (by kernel_rfl) ?_ _
          obtain ⟨W9, hW9⟩ : ∃ W9, W9 = wb4.setCells g12 0 cl9 := ⟨_, rfl⟩
          rw [← hW9] at hbx hbf ⊢
          have HX9 := Lib.hid hbx
          have HF9 := Lib.hid hbf
          have HN9 := Lib.hid (tryInv_step hN1 hN hK HR5.out.inv HDN.out (m := m5) (by have := HR5.out.len; omega))
          have HR6 : Hid (EndRel w3 cl0.toArray (startT (tryL 0 N K)) N K w3.heap.size W3.heap.size (s + 1) (stepT T m5).1 cl9 [] m5 (W9.setCells w3.heap.size 0 cl9)) := Lib.hid
            ⟨(HR5.out.box.kept HF9.out).setCells_all (by simp [HSZ9.out, HSZ1.out]), HA9.out, HN9.out, own_setCells_low (own_kept HR5.out.own HF9.out) hg89 _ _, HR5.out.len, Below.setCells (below_call HR5.out.below HF9.out HR5.out.below.size) (below_call HR5.out.below HF9.out HR5.out.below.size).size (Nat.le_refl _) _ _, by have h1 := HF9.out.size; have h2 := HR5.out.size; have h3 := (grown_setCells w3.heap.size cl9 0 W9).size; omega⟩
          have HB6 := Lib.hid (HR5.out.box.kept HF9.out)
          clear hbx hbf hW9
          go_wp2_with (first | with_reducible refine mid_stop 42 _ rfl ?_ | with_reducible refine storeM_stop rfl 42 _ _ rfl ?_)
          refine AtMid.go rfl g12 0 rfl HX9.out.range Try.underlying42 rfl (by rw [HSZ9.out]; exact size_task) ?_
          go_wp2_with (first | with_reducible refine mid_stop 42 _ rfl ?_ | with_reducible refine storeM_stop rfl 42 _ _ rfl ?_)
          refine AtStoreM.go w3.heap.size 0 (cs := cl9) rfl rfl (HB6.out.thereAll (by simp [HSZ9.out, HSZ1.out])) (by rw [HSZ9.out]; exact size_task) HONE9.out ?_
          go_wp2
          go_roundw
          case rel => exact ⟨s + 1, _, cl9, m5, by omega, by go_num, HR6⟩
          case measure => simp [intOf]; omega
      · have hcs : ¬ (s : Int) < (ls.length : Int) := by omega
        have HY5 : Hid (W64 0) := Lib.hid (by simp [W64])
        go_wp2_with fail
        refine wp_at fun W5 hW5 => ?_
        have hR5 := HSTORE.out _ HY5.out
        rw [← hW5] at hR5
        have HR5 := Lib.hid hR5
        clear hW5 hR5 HSTORE HR HTW p0 hfz d34
        have HU5 : Hid (IsTask W5 (.agg cl.toArray) T) := Lib.hid (HR5.out.task W5 (HTA.out.below HR5.out.below))
        have HS : Hid (∀ W, Below W5.heap.size W5 W → W.rangeAt w3.heap.size 0 cl) := Lib.hid fun W hW => range_below HR5.out.box.range HR5.out.box.lt hW
        generalize mi.set 0 _ = m5 at *
        have hi8 : (Try.prog.info? 42).map (·.size) = some cl.length := by rw [HSZ1.out]; exact size_task
        have HI8 := Lib.hid hi8
        clear hi8
        refine wp_region_held_drew (S := fun W => W.rangeAt w3.heap.size 0 cl) (by kernel_rfl) (HS.out W5 (Below.refl _ _)) (fun hHeld => ?_)
        refine take_at (i := 0) (v := .agg cl.toArray) rfl rfl (by kernel_rfl) (by kernel_rfl) (by kernel_rfl) (fun _ _ _ h => h)
          (yieldsIf_load_mid (by rfl) 42 _ rfl w3.heap.size (0) rfl cl _ (fun _ h => h) Try.underlying42 rfl HI8.out) hHeld ?_
        simp only [List.setIfInBounds_toArray, List.set_cons_zero, List.set_cons_succ]
        refine take_at (i := 2) (v := .slice (some ⟨W3.heap.size, 0, none⟩) (N + 1) (N + 1)) rfl rfl (by kernel_rfl) (by kernel_rfl) (by kernel_rfl) (fun _ _ _ h => h) (Or.inl ⟨by rfl, fun w hw => ?_⟩) hHeld ?_
        · go_simp
        simp only [List.setIfInBounds_toArray, List.set_cons_zero, List.set_cons_succ]
        refine any_at fun W6 hW6 => ?_
        have HD0 : Hid (Below W5.heap.size W5 W6) := Lib.hid (by rw [hW6]; exact ⟨rfl, rfl, rfl, Nat.le_refl _, fun _ _ => rfl⟩)
        replace hHeld : W6.rangeAt w3.heap.size 0 cl := HS.out _ HD0.out
        clear hW6
        refine wpAnyH_ready (rs := [1, 8]) (by kernel_rfl) (by simp) ?_
        refine AllReadyH.cons rfl (fun KQ hKQ => ?_) (AllReadyH.cons rfl (fun KQ hKQ => ?_) AllReadyH.nil)
        · go_simp
          refine hKQ.out _ _ (HS.out _ (HD0.out.alloc HD0.out.size _)) (fun hHeld0 => ?_)
          clear hKQ KQ hHeld0
          refine any_at fun wb1 hwb1 => ?_
          have HO1 : Hid (wb1.ownsRow W6.heap.size 30 1 (.slice (some ⟨W6.heap.size, 0, none⟩) 0 0) 0 []) := Lib.hid (by rw [hwb1]; exact World.ownsRow_made W6 #[] 0 (Nat.le_refl _) (Nat.zero_le _) (by simp))
          have HD1 : Hid (Below W5.heap.size W5 wb1) := Lib.hid (by rw [hwb1]; exact HD0.out.alloc HD0.out.size _)
          have HEA : Hid (W6.heap.size < wb1.heap.size) := Lib.hid (by rw [hwb1]; simp)
          have HG70 : Hid (W5.heap.size ≤ W6.heap.size) := Lib.hid HD0.out.size
          have hHeld : wb1.rangeAt w3.heap.size 0 cl := HS.out _ HD1.out
          clear hwb1
          generalize W6.heap.size = g70 at *
          refine wpAnyH_ready (rs := [3, 8]) (by kernel_rfl) (by simp) ?_
          refine AllReadyH.cons rfl (fun KQ hKQ => ?_) (AllReadyH.cons rfl (fun KQ hKQ => ?_) AllReadyH.nil)
          · rw [if_pos (by rfl)]
            refine wp_append_sl _ _ _ 22 rfl g70 30 i0 _ 1 8 Try.underlying22 HI0.out HZ0.out HZ1.out HZ2.out rfl (by decide) (.slice (some ⟨g70, 0, none⟩) 0 0) 0 [] rfl HO1.out (.slice (some ⟨W3.heap.size, 0, none⟩) (N + 1) (N + 1)) (N + 1) (u64s m5) rfl ?_ (one_u64s m5) (by simp only [maxLen]; omega) (by omega) (by have := HEA.out; omega) ?_
            · have := (own_kept HR5.out.own HD1.out).words.1
              rwa [HR5.out.len] at this
            intro v72 wb2 hown72 hgrow72 _
            have HW72 : Hid (Words wb2 v72 m5) := Lib.hid ⟨by have := Sl.of_own hown72; simpa [HR5.out.len] using this, HR5.out.own.2⟩
            have HD2 : Hid (Below W5.heap.size W5 wb2) := Lib.hid (HD1.out.grown hgrow72 HD1.out.size (fun j hj => by have h1 : some g70 = some j := hj; injection h1 with h1; have := HG70.out; omega))
            clear hown72 hgrow72
            go_simp
            refine hKQ.out _ _ (HS.out _ HD2.out) (fun hHeld => ?_)
            clear hKQ KQ
            refine wpAnyH_ready (rs := [4, 8]) (by kernel_rfl) (by simp) ?_
            refine AllReadyH.cons rfl (fun KQ hKQ => ?_) (AllReadyH.cons rfl (fun KQ hKQ => ?_) AllReadyH.nil)
            · go_simp
              refine (step_call (HU5.out.below HD2.out) HW72.out).mono ?_
              rintro e wb3 ⟨v73, v74, rfl, ht9, ho9, hb9⟩
              have hT9 := ht9 wb3 (HU5.out.below (below_call HD2.out hb9 HD2.out.size))
              obtain ⟨cl9, rfl, hsz9, hone9, _, _, _⟩ := hT9.list
              have HSZ9 := Lib.hid hsz9
              have HONE9 := Lib.hid hone9
              have HA9 : Hid (∀ W, IsTask W (.agg cl0.toArray) (startT (tryL 0 N K)) → IsTask W (.agg cl9.toArray) (stepT T m5).1) := Lib.hid fun W hW => ht9 W (HR5.out.task W hW)
              have HD3 : Hid (Below W5.heap.size W5 wb3) := Lib.hid (below_call HD2.out hb9 HD2.out.size)
              clear ht9 ho9 hT9 hsz9 hone9
              refine hKQ.out _ _ (HS.out _ HD3.out) (fun hHeld => ?_)
              clear hKQ KQ hb9
              refine take_at (i := 5) (v := .tuple #[.agg cl9.toArray, v74]) rfl rfl (by kernel_rfl) (by kernel_rfl) (by kernel_rfl) (fun _ _ _ h => h) (Or.inl ⟨by rfl, fun w hw => ?_⟩) hHeld ?_
              · go_simp
              simp only [List.setIfInBounds_toArray, List.set_cons_zero, List.set_cons_succ]
              refine take_at (i := 6) (v := .agg cl9.toArray) rfl rfl (by kernel_rfl) (by kernel_rfl) (by kernel_rfl) (fun _ _ _ h => h) (Or.inl ⟨by rfl, fun w hw => ?_⟩) hHeld ?_
              · go_simp
              simp only [List.setIfInBounds_toArray, List.set_cons_zero, List.set_cons_succ]
              refine take_at (i := 7) (v := v74) rfl rfl (by kernel_rfl) (by kernel_rfl) (by kernel_rfl) (fun _ _ _ h => h) (Or.inl ⟨by rfl, fun w hw => ?_⟩) hHeld ?_
              · go_simp
              simp only [List.setIfInBounds_toArray, List.set_cons_zero, List.set_cons_succ]
              refine wpAnyH_ready (rs := [8]) (by kernel_rfl) (by simp) ?_
              refine AllReadyH.cons rfl (fun KQ hKQ => ?_) AllReadyH.nil
              go_simp
              refine hKQ.out _ _ (HS.out _ (HD3.out.alloc HD3.out.size _)) (fun hHeld0 => ?_)
              clear hKQ KQ hHeld0
              refine any_at fun wb4 hwb4 => ?_
              have hxz : ∃ Z, Box wb4 wb3.heap.size 42 Z ∧ Z.size = 36 := by rw [hwb4]; exact ⟨_, Box.new _ _ _, rfl⟩
              obtain ⟨Z12, hxz1, hxz2⟩ := hxz
              have HX4 := Lib.hid hxz1
              have HZ12 := Lib.hid hxz2
              have HD4 : Hid (Below W5.heap.size W5 wb4) := Lib.hid (by rw [hwb4]; exact HD3.out.alloc HD3.out.size _)
              have HG12 : Hid (W5.heap.size ≤ wb3.heap.size) := Lib.hid HD3.out.size
              have hHeld : wb4.rangeAt w3.heap.size 0 cl := HS.out _ HD4.out
              clear hwb4 hxz1 hxz2
              generalize wb3.heap.size = g12 at *
              refine wpAnyH_ready (rs := [9]) (by kernel_rfl) (by simp) ?_
              refine AllReadyH.cons rfl (fun KQ hKQ => ?_) AllReadyH.nil
              rw [if_pos (by rfl)]
              refine wp_store_mid 42 _ _ rfl g12 0 cl9.toArray rfl rfl (HX4.out.thereAll (by simp [HSZ9.out, HZ12.out])) (by rw [List.size_toArray, HSZ9.out]; exact size_task) HONE9.out ?_
              have hbx : Box (wb4.setCells g12 0 cl9) g12 42 cl9.toArray := HX4.out.setCells_all (by simp [HSZ9.out, HZ12.out])
              have hbf : Below W5.heap.size W5 (wb4.setCells g12 0 cl9) := Below.setCells HD4.out HD4.out.size HG12.out _ _
              refine hKQ.out _ _ (HS.out _ hbf) (fun _ => ?_)
              clear hKQ KQ
              refine wpAnyH_ready (rs := [10]) (by kernel_rfl) (by simp) ?_
              refine AllReadyH.cons rfl (fun KQ hKQ => ?_) AllReadyH.nil
              go_simp
              refine hKQ.out _ _ (HS.out _ hbf) (fun _ => ?_)
              clear hKQ KQ
              refine wpAnyH_done (by kernel_rfl) ?_ _
              obtain ⟨W9, hW9⟩ : ∃ W9, W9 = wb4.setCells g12 0 cl9 := ⟨_, rfl⟩
              rw [← hW9] at hbx hbf ⊢
              have HX9 := Lib.hid hbx
              have HF9 := Lib.hid hbf
              have HN9 := Lib.hid (tryInv_step hN1 hN hK HR5.out.inv HDN.out (m := m5) (by have := HR5.out.len; omega))
              have HR6 : Hid (EndRel w3 cl0.toArray (startT (tryL 0 N K)) N K w3.heap.size W3.heap.size (s + 1) (stepT T m5).1 cl9 [] m5 (W9.setCells w3.heap.size 0 cl9)) := Lib.hid
                ⟨(HR5.out.box.kept HF9.out).setCells_all (by simp [HSZ9.out, HSZ1.out]), HA9.out, HN9.out, own_setCells_low (own_kept HR5.out.own HF9.out) hg89 _ _, HR5.out.len, Below.setCells (below_call HR5.out.below HF9.out HR5.out.below.size) (below_call HR5.out.below HF9.out HR5.out.below.size).size (Nat.le_refl _) _ _, by have h1 := HF9.out.size; have h2 := HR5.out.size; have h3 := (grown_setCells w3.heap.size cl9 0 W9).size; omega⟩
              have HB6 := Lib.hid (HR5.out.box.kept HF9.out)
              clear hbx hbf hW9
              go_wp2_with (first | with_reducible refine mid_stop 42 _ rfl ?_ | with_reducible refine storeM_stop rfl 42 _ _ rfl ?_)
              refine AtMid.go rfl g12 0 rfl HX9.out.range Try.underlying42 rfl (by rw [HSZ9.out]; exact size_task) ?_
              go_wp2_with (first | with_reducible refine mid_stop 42 _ rfl ?_ | with_reducible refine storeM_stop rfl 42 _ _ rfl ?_)
              refine AtStoreM.go w3.heap.size 0 (cs := cl9) rfl rfl (HB6.out.thereAll (by simp [HSZ9.out, HSZ1.out])) (by rw [HSZ9.out]; exact size_task) HONE9.out ?_
              go_wp2
              go_roundw
              case rel => exact ⟨s + 1, _, cl9, m5, by omega, by go_num, HR6⟩
              case measure => simp [intOf]; omega
            · go_simp
              refine hKQ.out _ _ (HS.out _ (HD2.out.alloc HD2.out.size _)) (fun hHeld0 => ?_)
              clear hKQ KQ hHeld0
              refine any_at fun wb3 hwb3 => ?_
              have hxz : ∃ Z, Box wb3 wb2.heap.size 42 Z ∧ Z.size = 36 := by rw [hwb3]; exact ⟨_, Box.new _ _ _, rfl⟩
              obtain ⟨Z12, hxz1, hxz2⟩ := hxz
              have HX3 := Lib.hid hxz1
              have HZ12 := Lib.hid hxz2
              have HD3 : Hid (Below W5.heap.size W5 wb3) := Lib.hid (by rw [hwb3]; exact HD2.out.alloc HD2.out.size _)
              have HG12 : Hid (W5.heap.size ≤ wb2.heap.size) := Lib.hid HD2.out.size
              have HO3 : Hid (Words wb3 v72 m5) := Lib.hid (by rw [hwb3]; exact HW72.out.alloc _)
              have hHeld : wb3.rangeAt w3.heap.size 0 cl := HS.out _ HD3.out
              clear hwb3 hxz1 hxz2
              generalize wb2.heap.size = g12 at *
              refine wpAnyH_ready (rs := [4]) (by kernel_rfl) (by simp) ?_
              refine AllReadyH.cons rfl (fun KQ hKQ => ?_) AllReadyH.nil
              go_simp
              refine (step_call (HU5.out.below HD3.out) HO3.out).mono ?_
              rintro e wb4 ⟨v73, v74, rfl, ht9, ho9, hb9⟩
              have hT9 := ht9 wb4 (HU5.out.below (below_call HD3.out hb9 HD3.out.size))
              obtain ⟨cl9, rfl, hsz9, hone9, _, _, _⟩ := hT9.list
              have HSZ9 := Lib.hid hsz9
              have HONE9 := Lib.hid hone9
              have HA9 : Hid (∀ W, IsTask W (.agg cl0.toArray) (startT (tryL 0 N K)) → IsTask W (.agg cl9.toArray) (stepT T m5).1) := Lib.hid fun W hW => ht9 W (HR5.out.task W hW)
              have HD4 : Hid (Below W5.heap.size W5 wb4) := Lib.hid (below_call HD3.out hb9 HD3.out.size)
              have HX4 := Lib.hid (HX3.out.kept hb9)
              clear ht9 ho9 hT9 hsz9 hone9
              refine hKQ.out _ _ (HS.out _ HD4.out) (fun hHeld => ?_)
              clear hKQ KQ hb9
              refine take_at (i := 5) (v := .tuple #[.agg cl9.toArray, v74]) rfl rfl (by kernel_rfl) (by kernel_rfl) (by kernel_rfl) (fun _ _ _ h => h) (Or.inl ⟨by rfl, fun w hw => ?_⟩) hHeld ?_
              · go_simp
              simp only [List.setIfInBounds_toArray, List.set_cons_zero, List.set_cons_succ]
              refine take_at (i := 6) (v := .agg cl9.toArray) rfl rfl (by kernel_rfl) (by kernel_rfl) (by kernel_rfl) (fun _ _ _ h => h) (Or.inl ⟨by rfl, fun w hw => ?_⟩) hHeld ?_
              · go_simp
              simp only [List.setIfInBounds_toArray, List.set_cons_zero, List.set_cons_succ]
              refine take_at (i := 7) (v := v74) rfl rfl (by kernel_rfl) (by kernel_rfl) (by kernel_rfl) (fun _ _ _ h => h) (Or.inl ⟨by rfl, fun w hw => ?_⟩) hHeld ?_
              · go_simp
              simp only [List.setIfInBounds_toArray, List.set_cons_zero, List.set_cons_succ]
              refine wpAnyH_ready (rs := [9]) (by kernel_rfl) (by simp) ?_
              refine AllReadyH.cons rfl (fun KQ hKQ => ?_) AllReadyH.nil
              rw [if_pos (by rfl)]
              refine wp_store_mid 42 _ _ rfl g12 0 cl9.toArray rfl rfl (HX4.out.thereAll (by simp [HSZ9.out, HZ12.out])) (by rw [List.size_toArray, HSZ9.out]; exact size_task) HONE9.out ?_
              have hbx : Box (wb4.setCells g12 0 cl9) g12 42 cl9.toArray := HX4.out.setCells_all (by simp [HSZ9.out, HZ12.out])
              have hbf : Below W5.heap.size W5 (wb4.setCells g12 0 cl9) := Below.setCells HD4.out HD4.out.size HG12.out _ _
              refine hKQ.out _ _ (HS.out _ hbf) (fun _ => ?_)
              clear hKQ KQ
              refine wpAnyH_ready (rs := [10]) (by kernel_rfl) (by simp) ?_
              refine AllReadyH.cons rfl (fun KQ hKQ => ?_) AllReadyH.nil
              go_simp
              refine hKQ.out _ _ (HS.out _ hbf) (fun _ => ?_)
              clear hKQ KQ
              refine wpAnyH_done (by kernel_rfl) ?_ _
              obtain ⟨W9, hW9⟩ : ∃ W9, W9 = wb4.setCells g12 0 cl9 := ⟨_, rfl⟩
              rw [← hW9] at hbx hbf ⊢
              have HX9 := Lib.hid hbx
              have HF9 := Lib.hid hbf
              have HN9 := Lib.hid (tryInv_step hN1 hN hK HR5.out.inv HDN.out (m := m5) (by have := HR5.out.len; omega))
              have HR6 : Hid (EndRel w3 cl0.toArray (startT (tryL 0 N K)) N K w3.heap.size W3.heap.size (s + 1) (stepT T m5).1 cl9 [] m5 (W9.setCells w3.heap.size 0 cl9)) := Lib.hid
                ⟨(HR5.out.box.kept HF9.out).setCells_all (by simp [HSZ9.out, HSZ1.out]), HA9.out, HN9.out, own_setCells_low (own_kept HR5.out.own HF9.out) hg89 _ _, HR5.out.len, Below.setCells (below_call HR5.out.below HF9.out HR5.out.below.size) (below_call HR5.out.below HF9.out HR5.out.below.size).size (Nat.le_refl _) _ _, by have h1 := HF9.out.size; have h2 := HR5.out.size; have h3 := (grown_setCells w3.heap.size cl9 0 W9).size; omega⟩
              have HB6 := Lib.hid (HR5.out.box.kept HF9.out)
              clear hbx hbf hW9
              go_wp2_with (first | with_reducible refine mid_stop 42 _ rfl ?_ | with_reducible refine storeM_stop rfl 42 _ _ rfl ?_)
              refine AtMid.go rfl g12 0 rfl HX9.out.range Try.underlying42 rfl (by rw [HSZ9.out]; exact size_task) ?_
              go_wp2_with (first | with_reducible refine mid_stop 42 _ rfl ?_ | with_reducible refine storeM_stop rfl 42 _ _ rfl ?_)
              refine AtStoreM.go w3.heap.size 0 (cs := cl9) rfl rfl (HB6.out.thereAll (by simp [HSZ9.out, HSZ1.out])) (by rw [HSZ9.out]; exact size_task) HONE9.out ?_
              go_wp2
              go_roundw
              case rel => exact ⟨s + 1, _, cl9, m5, by omega, by go_num, HR6⟩
              case measure => simp [intOf]; omega
          · go_simp
            refine hKQ.out _ _ (HS.out _ (HD1.out.alloc HD1.out.size _)) (fun hHeld0 => ?_)
            clear hKQ KQ hHeld0
            refine any_at fun wb2 hwb2 => ?_
            have hxz : ∃ Z, Box wb2 wb1.heap.size 42 Z ∧ Z.size = 36 := by rw [hwb2]; exact ⟨_, Box.new _ _ _, rfl⟩
            obtain ⟨Z12, hxz1, hxz2⟩ := hxz
            have HX2 := Lib.hid hxz1
            have HZ12 := Lib.hid hxz2
            have HD2 : Hid (Below W5.heap.size W5 wb2) := Lib.hid (by rw [hwb2]; exact HD1.out.alloc HD1.out.size _)
            have HG12 : Hid (W5.heap.size ≤ wb1.heap.size) := Lib.hid HD1.out.size
            have HO2 : Hid (wb2.ownsRow g70 30 1 (.slice (some ⟨g70, 0, none⟩) 0 0) 0 []) := Lib.hid (by rw [hwb2]; exact HO1.out.alloc _)
            have HNE : Hid (¬ wb1.heap.size = g70) := Lib.hid (by have := HEA.out; omega)
            replace HEA : Hid (g70 < wb2.heap.size) := Lib.hid (by rw [hwb2]; have := HEA.out; simp; omega)
            have hHeld : wb2.rangeAt w3.heap.size 0 cl := HS.out _ HD2.out
            clear hwb2 hxz1 hxz2
            generalize wb1.heap.size = g12 at *
            refine wpAnyH_ready (rs := [3]) (by kernel_rfl) (by simp) ?_
            refine AllReadyH.cons rfl (fun KQ hKQ => ?_) AllReadyH.nil
            rw [if_pos (by rfl)]
            refine wp_append_sl _ _ _ 22 rfl g70 30 i0 _ 1 8 Try.underlying22 HI0.out HZ0.out HZ1.out HZ2.out rfl (by decide) (.slice (some ⟨g70, 0, none⟩) 0 0) 0 [] rfl HO2.out (.slice (some ⟨W3.heap.size, 0, none⟩) (N + 1) (N + 1)) (N + 1) (u64s m5) rfl ?_ (one_u64s m5) (by simp only [maxLen]; omega) (by omega) (by have := HEA.out; omega) ?_
            · have := (own_kept HR5.out.own HD2.out).words.1
              rwa [HR5.out.len] at this
            intro v72 wb3 hown72 hgrow72 _
            have HW72 : Hid (Words wb3 v72 m5) := Lib.hid ⟨by have := Sl.of_own hown72; simpa [HR5.out.len] using this, HR5.out.own.2⟩
            have HD3 : Hid (Below W5.heap.size W5 wb3) := Lib.hid (HD2.out.grown hgrow72 HD2.out.size (fun j hj => by have h1 : some g70 = some j := hj; injection h1 with h1; have := HG70.out; omega))
            have HX3 : Hid (Box wb3 g12 42 Z12) := Lib.hid ((hgrow72.block g12 HX2.out.lt (fun h => by have h1 : some g12 = some g70 := h; injection h1 with h1; exact HNE.out h1)).trans HX2.out)
            clear hown72 hgrow72
            go_simp
            refine hKQ.out _ _ (HS.out _ HD3.out) (fun hHeld => ?_)
            clear hKQ KQ
            refine wpAnyH_ready (rs := [4]) (by kernel_rfl) (by simp) ?_
            refine AllReadyH.cons rfl (fun KQ hKQ => ?_) AllReadyH.nil
            go_simp
            refine (step_call (HU5.out.below HD3.out) HW72.out).mono ?_
            rintro e wb4 ⟨v73, v74, rfl, ht9, ho9, hb9⟩
            have hT9 := ht9 wb4 (HU5.out.below (below_call HD3.out hb9 HD3.out.size))
            obtain ⟨cl9, rfl, hsz9, hone9, _, _, _⟩ := hT9.list
            have HSZ9 := Lib.hid hsz9
            have HONE9 := Lib.hid hone9
            have HA9 : Hid (∀ W, IsTask W (.agg cl0.toArray) (startT (tryL 0 N K)) → IsTask W (.agg cl9.toArray) (stepT T m5).1) := Lib.hid fun W hW => ht9 W (HR5.out.task W hW)
            have HD4 : Hid (Below W5.heap.size W5 wb4) := Lib.hid (below_call HD3.out hb9 HD3.out.size)
            have HX4 := Lib.hid (HX3.out.kept hb9)
            clear ht9 ho9 hT9 hsz9 hone9
            refine hKQ.out _ _ (HS.out _ HD4.out) (fun hHeld => ?_)
            clear hKQ KQ hb9
            refine take_at (i := 5) (v := .tuple #[.agg cl9.toArray, v74]) rfl rfl (by kernel_rfl) (by kernel_rfl) (by kernel_rfl) (fun _ _ _ h => h) (Or.inl ⟨by rfl, fun w hw => ?_⟩) hHeld ?_
            · go_simp
            simp only [List.setIfInBounds_toArray, List.set_cons_zero, List.set_cons_succ]
            refine take_at (i := 6) (v := .agg cl9.toArray) rfl rfl (by kernel_rfl) (by kernel_rfl) (by kernel_rfl) (fun _ _ _ h => h) (Or.inl ⟨by rfl, fun w hw => ?_⟩) hHeld ?_
            · go_simp
            simp only [List.setIfInBounds_toArray, List.set_cons_zero, List.set_cons_succ]
            refine take_at (i := 7) (v := v74) rfl rfl (by kernel_rfl) (by kernel_rfl) (by kernel_rfl) (fun _ _ _ h => h) (Or.inl ⟨by rfl, fun w hw => ?_⟩) hHeld ?_
            · go_simp
            simp only [List.setIfInBounds_toArray, List.set_cons_zero, List.set_cons_succ]
            refine wpAnyH_ready (rs := [9]) (by kernel_rfl) (by simp) ?_
            refine AllReadyH.cons rfl (fun KQ hKQ => ?_) AllReadyH.nil
            rw [if_pos (by rfl)]
            refine wp_store_mid 42 _ _ rfl g12 0 cl9.toArray rfl rfl (HX4.out.thereAll (by simp [HSZ9.out, HZ12.out])) (by rw [List.size_toArray, HSZ9.out]; exact size_task) HONE9.out ?_
            have hbx : Box (wb4.setCells g12 0 cl9) g12 42 cl9.toArray := HX4.out.setCells_all (by simp [HSZ9.out, HZ12.out])
            have hbf : Below W5.heap.size W5 (wb4.setCells g12 0 cl9) := Below.setCells HD4.out HD4.out.size HG12.out _ _
            refine hKQ.out _ _ (HS.out _ hbf) (fun _ => ?_)
            clear hKQ KQ
            refine wpAnyH_ready (rs := [10]) (by kernel_rfl) (by simp) ?_
            refine AllReadyH.cons rfl (fun KQ hKQ => ?_) AllReadyH.nil
            go_simp
            refine hKQ.out _ _ (HS.out _ hbf) (fun _ => ?_)
            clear hKQ KQ
            refine wpAnyH_done (by kernel_rfl) ?_ _
            obtain ⟨W9, hW9⟩ : ∃ W9, W9 = wb4.setCells g12 0 cl9 := ⟨_, rfl⟩
            rw [← hW9] at hbx hbf ⊢
            have HX9 := Lib.hid hbx
            have HF9 := Lib.hid hbf
            have HN9 := Lib.hid (tryInv_step hN1 hN hK HR5.out.inv HDN.out (m := m5) (by have := HR5.out.len; omega))
            have HR6 : Hid (EndRel w3 cl0.toArray (startT (tryL 0 N K)) N K w3.heap.size W3.heap.size (s + 1) (stepT T m5).1 cl9 [] m5 (W9.setCells w3.heap.size 0 cl9)) := Lib.hid
              ⟨(HR5.out.box.kept HF9.out).setCells_all (by simp [HSZ9.out, HSZ1.out]), HA9.out, HN9.out, own_setCells_low (own_kept HR5.out.own HF9.out) hg89 _ _, HR5.out.len, Below.setCells (below_call HR5.out.below HF9.out HR5.out.below.size) (below_call HR5.out.below HF9.out HR5.out.below.size).size (Nat.le_refl _) _ _, by have h1 := HF9.out.size; have h2 := HR5.out.size; have h3 := (grown_setCells w3.heap.size cl9 0 W9).size; omega⟩
            have HB6 := Lib.hid (HR5.out.box.kept HF9.out)
            clear hbx hbf hW9
            go_wp2_with (first | with_reducible refine mid_stop 42 _ rfl ?_ | with_reducible refine storeM_stop rfl 42 _ _ rfl ?_)
            refine AtMid.go rfl g12 0 rfl HX9.out.range Try.underlying42 rfl (by rw [HSZ9.out]; exact size_task) ?_
            go_wp2_with (first | with_reducible refine mid_stop 42 _ rfl ?_ | with_reducible refine storeM_stop rfl 42 _ _ rfl ?_)
            refine AtStoreM.go w3.heap.size 0 (cs := cl9) rfl rfl (HB6.out.thereAll (by simp [HSZ9.out, HSZ1.out])) (by rw [HSZ9.out]; exact size_task) HONE9.out ?_
            go_wp2
            go_roundw
            case rel => exact ⟨s + 1, _, cl9, m5, by omega, by go_num, HR6⟩
            case measure => simp [intOf]; omega
        · go_simp
          refine hKQ.out _ _ (HS.out _ (HD0.out.alloc HD0.out.size _)) (fun hHeld0 => ?_)
          clear hKQ KQ hHeld0
          refine any_at fun wb1 hwb1 => ?_
          have hxz : ∃ Z, Box wb1 W6.heap.size 42 Z ∧ Z.size = 36 := by rw [hwb1]; exact ⟨_, Box.new _ _ _, rfl⟩
          obtain ⟨Z12, hxz1, hxz2⟩ := hxz
          have HX1 := Lib.hid hxz1
          have HZ12 := Lib.hid hxz2
          have HD1 : Hid (Below W5.heap.size W5 wb1) := Lib.hid (by rw [hwb1]; exact HD0.out.alloc HD0.out.size _)
          have HG12 : Hid (W5.heap.size ≤ W6.heap.size) := Lib.hid HD0.out.size
          have hHeld : wb1.rangeAt w3.heap.size 0 cl := HS.out _ HD1.out
          clear hwb1 hxz1 hxz2
          generalize W6.heap.size = g12 at *
          refine wpAnyH_ready (rs := [1]) (by kernel_rfl) (by simp) ?_
          refine AllReadyH.cons rfl (fun KQ hKQ => ?_) AllReadyH.nil
          go_simp
          refine hKQ.out _ _ (HS.out _ (HD1.out.alloc HD1.out.size _)) (fun hHeld0 => ?_)
          clear hKQ KQ hHeld0
          refine any_at fun wb2 hwb2 => ?_
          have HO2 : Hid (wb2.ownsRow wb1.heap.size 30 1 (.slice (some ⟨wb1.heap.size, 0, none⟩) 0 0) 0 []) := Lib.hid (by rw [hwb2]; exact World.ownsRow_made wb1 #[] 0 (Nat.le_refl _) (Nat.zero_le _) (by simp))
          have HD2 : Hid (Below W5.heap.size W5 wb2) := Lib.hid (by rw [hwb2]; exact HD1.out.alloc HD1.out.size _)
          have HEA : Hid (wb1.heap.size < wb2.heap.size) := Lib.hid (by rw [hwb2]; simp)
          have HG70 : Hid (W5.heap.size ≤ wb1.heap.size) := Lib.hid HD1.out.size
          have HX2 : Hid (Box wb2 g12 42 Z12) := Lib.hid (by rw [hwb2]; exact HX1.out.alloc _)
          have HNE : Hid (¬ g12 = wb1.heap.size) := Lib.hid (by have := HX1.out.lt; omega)
          have hHeld : wb2.rangeAt w3.heap.size 0 cl := HS.out _ HD2.out
          clear hwb2
          generalize wb1.heap.size = g70 at *
          refine wpAnyH_ready (rs := [3]) (by kernel_rfl) (by simp) ?_
          refine AllReadyH.cons rfl (fun KQ hKQ => ?_) AllReadyH.nil
          rw [if_pos (by rfl)]
          refine wp_append_sl _ _ _ 22 rfl g70 30 i0 _ 1 8 Try.underlying22 HI0.out HZ0.out HZ1.out HZ2.out rfl (by decide) (.slice (some ⟨g70, 0, none⟩) 0 0) 0 [] rfl HO2.out (.slice (some ⟨W3.heap.size, 0, none⟩) (N + 1) (N + 1)) (N + 1) (u64s m5) rfl ?_ (one_u64s m5) (by simp only [maxLen]; omega) (by omega) (by have := HEA.out; omega) ?_
          · have := (own_kept HR5.out.own HD2.out).words.1
            rwa [HR5.out.len] at this
          intro v72 wb3 hown72 hgrow72 _
          have HW72 : Hid (Words wb3 v72 m5) := Lib.hid ⟨by have := Sl.of_own hown72; simpa [HR5.out.len] using this, HR5.out.own.2⟩
          have HD3 : Hid (Below W5.heap.size W5 wb3) := Lib.hid (HD2.out.grown hgrow72 HD2.out.size (fun j hj => by have h1 : some g70 = some j := hj; injection h1 with h1; have := HG70.out; omega))
          have HX3 : Hid (Box wb3 g12 42 Z12) := Lib.hid ((hgrow72.block g12 HX2.out.lt (fun h => by have h1 : some g12 = some g70 := h; injection h1 with h1; exact HNE.out h1)).trans HX2.out)
          clear hown72 hgrow72
          go_simp
          refine hKQ.out _ _ (HS.out _ HD3.out) (fun hHeld => ?_)
          clear hKQ KQ
          refine wpAnyH_ready (rs := [4]) (by kernel_rfl) (by simp) ?_
          refine AllReadyH.cons rfl (fun KQ hKQ => ?_) AllReadyH.nil
          go_simp
          refine (step_call (HU5.out.below HD3.out) HW72.out).mono ?_
          rintro e wb4 ⟨v73, v74, rfl, ht9, ho9, hb9⟩
          have hT9 := ht9 wb4 (HU5.out.below (below_call HD3.out hb9 HD3.out.size))
          obtain ⟨cl9, rfl, hsz9, hone9, _, _, _⟩ := hT9.list
          have HSZ9 := Lib.hid hsz9
          have HONE9 := Lib.hid hone9
          have HA9 : Hid (∀ W, IsTask W (.agg cl0.toArray) (startT (tryL 0 N K)) → IsTask W (.agg cl9.toArray) (stepT T m5).1) := Lib.hid fun W hW => ht9 W (HR5.out.task W hW)
          have HD4 : Hid (Below W5.heap.size W5 wb4) := Lib.hid (below_call HD3.out hb9 HD3.out.size)
          have HX4 := Lib.hid (HX3.out.kept hb9)
          clear ht9 ho9 hT9 hsz9 hone9
          refine hKQ.out _ _ (HS.out _ HD4.out) (fun hHeld => ?_)
          clear hKQ KQ hb9
          refine take_at (i := 5) (v := .tuple #[.agg cl9.toArray, v74]) rfl rfl (by kernel_rfl) (by kernel_rfl) (by kernel_rfl) (fun _ _ _ h => h) (Or.inl ⟨by rfl, fun w hw => ?_⟩) hHeld ?_
          · go_simp
          simp only [List.setIfInBounds_toArray, List.set_cons_zero, List.set_cons_succ]
          refine take_at (i := 6) (v := .agg cl9.toArray) rfl rfl (by kernel_rfl) (by kernel_rfl) (by kernel_rfl) (fun _ _ _ h => h) (Or.inl ⟨by rfl, fun w hw => ?_⟩) hHeld ?_
          · go_simp
          simp only [List.setIfInBounds_toArray, List.set_cons_zero, List.set_cons_succ]
          refine take_at (i := 7) (v := v74) rfl rfl (by kernel_rfl) (by kernel_rfl) (by kernel_rfl) (fun _ _ _ h => h) (Or.inl ⟨by rfl, fun w hw => ?_⟩) hHeld ?_
          · go_simp
          simp only [List.setIfInBounds_toArray, List.set_cons_zero, List.set_cons_succ]
          refine wpAnyH_ready (rs := [9]) (by kernel_rfl) (by simp) ?_
          refine AllReadyH.cons rfl (fun KQ hKQ => ?_) AllReadyH.nil
          rw [if_pos (by rfl)]
          refine wp_store_mid 42 _ _ rfl g12 0 cl9.toArray rfl rfl (HX4.out.thereAll (by simp [HSZ9.out, HZ12.out])) (by rw [List.size_toArray, HSZ9.out]; exact size_task) HONE9.out ?_
          have hbx : Box (wb4.setCells g12 0 cl9) g12 42 cl9.toArray := HX4.out.setCells_all (by simp [HSZ9.out, HZ12.out])
          have hbf : Below W5.heap.size W5 (wb4.setCells g12 0 cl9) := Below.setCells HD4.out HD4.out.size HG12.out _ _
          refine hKQ.out _ _ (HS.out _ hbf) (fun _ => ?_)
          clear hKQ KQ
          refine wpAnyH_ready (rs := [10]) (by kernel_rfl) (by simp) ?_
          refine AllReadyH.cons rfl (fun KQ hKQ => ?_) AllReadyH.nil
          go_simp
          refine hKQ.out _ _ (HS.out _ hbf) (fun _ => ?_)
          clear hKQ KQ
          refine wpAnyH_done (by kernel_rfl) ?_ _
          obtain ⟨W9, hW9⟩ : ∃ W9, W9 = wb4.setCells g12 0 cl9 := ⟨_, rfl⟩
          rw [← hW9] at hbx hbf ⊢
          have HX9 := Lib.hid hbx
          have HF9 := Lib.hid hbf
          have HN9 := Lib.hid (tryInv_step hN1 hN hK HR5.out.inv HDN.out (m := m5) (by have := HR5.out.len; omega))
          have HR6 : Hid (EndRel w3 cl0.toArray (startT (tryL 0 N K)) N K w3.heap.size W3.heap.size (s + 1) (stepT T m5).1 cl9 [] m5 (W9.setCells w3.heap.size 0 cl9)) := Lib.hid
            ⟨(HR5.out.box.kept HF9.out).setCells_all (by simp [HSZ9.out, HSZ1.out]), HA9.out, HN9.out, own_setCells_low (own_kept HR5.out.own HF9.out) hg89 _ _, HR5.out.len, Below.setCells (below_call HR5.out.below HF9.out HR5.out.below.size) (below_call HR5.out.below HF9.out HR5.out.below.size).size (Nat.le_refl _) _ _, by have h1 := HF9.out.size; have h2 := HR5.out.size; have h3 := (grown_setCells w3.heap.size cl9 0 W9).size; omega⟩
          have HB6 := Lib.hid (HR5.out.box.kept HF9.out)
          clear hbx hbf hW9
          go_wp2_with (first | with_reducible refine mid_stop 42 _ rfl ?_ | with_reducible refine storeM_stop rfl 42 _ _ rfl ?_)
          refine AtMid.go rfl g12 0 rfl HX9.out.range Try.underlying42 rfl (by rw [HSZ9.out]; exact size_task) ?_
          go_wp2_with (first | with_reducible refine mid_stop 42 _ rfl ?_ | with_reducible refine storeM_stop rfl 42 _ _ rfl ?_)
          refine AtStoreM.go w3.heap.size 0 (cs := cl9) rfl rfl (HB6.out.thereAll (by simp [HSZ9.out, HSZ1.out])) (by rw [HSZ9.out]; exact size_task) HONE9.out ?_
          go_wp2
          go_roundw
          case rel => exact ⟨s + 1, _, cl9, m5, by omega, by go_num, HR6⟩
          case measure => simp [intOf]; omega
    · have hdone : T.t.done = true := by
        by_cases hd : T.t.done = true
        · exact hd
        · have hd' : T.t.done = false := by simpa using hd
          have h1 : ¬ s < M := fun h => hgo ⟨h, hd'⟩
          exact tryInv_all hN1 HR.out.inv (by rw [← HM.out]; omega)
      rw [hdone] at d34 x34
      have HDONE := Lib.hid hdone
      have hans : T.t.ans = 0 ∨ (T.t.ans = 1 ∧ T.t.regs.getD 0 0 = T.t.regs.getD 31 0 ∧ T.t.regs.getD 0 0 % 2 ≠ 1) := by
        rcases HR.out.inv with ⟨_, h⟩ | ⟨i, r, h, _⟩
        · exact h
        · have := h.done; rw [hdone] at this; cases this
      have hr0 : W64 (T.t.regs.getD 0 0) := HTW.out.ok.1.2.1 _ (getD_mem (by rw [HTW.out.ok.1.1]; omega))
      have g0 := HTW.out.reg (i := 0) (by omega)
      have g31 := HTW.out.reg (i := 31) (by omega)
      have HB8 := Lib.hid HR.out.box
      clear hgo hdone FIN HR
      have hsel : s < M ∨ ¬ s < M := by omega
      have hI : I64 (N : Int) := ⟨by omega, by omega⟩
      have HII := Lib.hid hI
      clear hI
      rcases hsel with hs1 | hs1
      all_goals
        rcases hans with ha | ⟨ha, hb, hc⟩
        · have hB : takenB T (N : Int) = false := decide_eq_false (fun h => by rw [ha] at h; have := h.2.1; omega)
          rw [ha] at x35
          have HHB := Lib.hid hB
          have hs1' := hs1
          have hss : (s : Int) < (M : Int) ∨ ¬ (s : Int) < (M : Int) := by omega
          clear g0 g31 hr0 ha hB
          rcases hss with hss | hss
          all_goals first
            | (exfalso; omega)
            | (go_wp2_with (first | with_reducible refine mid_stop 42 _ rfl ?_ | with_reducible refine storeM_stop rfl 42 _ _ rfl ?_)
               refine AtMid.go rfl w3.heap.size 0 rfl HB8.out.range Try.underlying42 rfl (by rw [HSZ1.out]; exact size_task) ?_
               go_wp2_with fail
               refine (taken_call HTW.out HII.out).mono ?_
               rintro e w9 ⟨v9, rfl, _, hb9⟩
               rw [HHB.out]
               have f34 := ((HB8.out.kept hb9).cell 34).trans (by simpa using x34)
               have f35 := ((HB8.out.kept hb9).cell 35).trans (by simpa using x35)
               have HB9 := Lib.hid (below_call HBR.out hb9 HBR.out.size)
               clear hb9 d34
               generalize takenV T (N : Int) = tv at *
               go_wp2
               go_ret
               exact ⟨rfl, HB9.out⟩)
        · have hB : takenB T (N : Int) = true := decide_eq_true ⟨HDONE.out, ha, by omega, by omega⟩
          have hV : takenV T (N : Int) = T.t.regs.getD 0 0 / 2 := by unfold takenV; rw [hB, if_pos rfl]
          rw [ha] at x35
          rw [← hb] at g31
          have HHB := Lib.hid hB
          have HHV := Lib.hid hV
          have hss : (s : Int) < (M : Int) ∨ ¬ (s : Int) < (M : Int) := by omega
          clear ha hB hV
          unfold W64 at hr0
          have hev : T.t.regs.getD 0 0 % 2 = 0 := by omega
          have ha1 := and_1 hr0.1 hr0.2
          rw [hev] at ha1
          have HREW := Lib.hid (HHV.out)
          clear hb hc hev
          rcases hss with hss | hss
          all_goals first
            | (exfalso; omega)
            | (go_wp2_with (first | with_reducible refine mid_stop 42 _ rfl ?_ | with_reducible refine storeM_stop rfl 42 _ _ rfl ?_)
               refine AtMid.go rfl w3.heap.size 0 rfl HB8.out.range Try.underlying42 rfl (by rw [HSZ1.out]; exact size_task) ?_
               go_wp2_with fail
               refine (taken_call HTW.out HII.out).mono ?_
               rintro e w9 ⟨v9, rfl, _, hb9⟩
               rw [HHB.out, HREW.out]
               have f34 := ((HB8.out.kept hb9).cell 34).trans (by simpa using x34)
               have f35 := ((HB8.out.kept hb9).cell 35).trans (by simpa using x35)
               have f0 := ((HB8.out.kept hb9).cell (2 + 0)).trans g0
               have f31 := ((HB8.out.kept hb9).cell (2 + 31)).trans g31
               have HB9 := Lib.hid (below_call HBR.out hb9 HBR.out.size)
               clear hb9 d34 g0 g31
               generalize T.t.regs.getD 0 0 = r0 at *
               have hq1 : r0.tdiv 2 = r0 / 2 := Int.tdiv_eq_ediv_of_nonneg hr0.1
               have hq2 : IntKind.u64.wrap (r0 / 2) = r0 / 2 := by rw [IntKind.wrap_u64]; omega
               have hq3 : IntKind.i64.wrap (r0 / 2) = r0 / 2 := by rw [IntKind.wrap_i64]; omega
               go_wp2
               go_ret
               exact ⟨rfl, HB9.out⟩)
end Go.Proofs.Ytpkelneimjmmkaa

/- The contracts of the reference's Few and SameAll. -/
import Derived.Test.YtpkelneimjmmkaaRefE
namespace Go.Proofs.Ytpkelneimjmmkaa
open Go.RowKit

def fewP (l : List FT) : Prop := (∀ i, i < l.length → (l.getD i ft0).code.length ≤ 210) ∧ l.length ≤ 12
instance (l : List FT) : Decidable (fewP l) := by unfold fewP; exact inferInstance
theorem IsTask.code0 {w : World} {cs : Array Value} {T : FT} (h : IsTask w (.agg cs) T) : ∃ A c, cs[0]? = some (.slice A T.code.length c) ∧ T.code.length ≤ c ∧ c ≤ maxLen := by
  obtain ⟨cv, e, hi, _, _⟩ := h
  injection e with e
  subst e
  obtain ⟨A, c, hcv, h1, h2, _⟩ := hi.1.form
  exact ⟨A, c, by rw [tcells_0, hcv], h1, h2⟩

set_option maxHeartbeats 1000000 in
theorem few_call {v : Value} {l : List TV} {w : World} (h : Tasks w v l) : Calls Try.prog 38 #[v] w (BoolPost (decide (fewP (fts l))) w) := by
  obtain ⟨A, c, rfl, hc1, hc2, _⟩ := h.1.form
  unfold maxLen at hc2
  have H := Lib.hid h
  have hlen : (l.length : Int) ≤ 9223372036854775807 := by omega
  have hfl : (fts l).length = l.length := List.length_map _
  have HFL := Lib.hid hfl
  clear h hfl
  go_enter Try.func38, Try.ntmps38
  go_wp2_with fail
  go_loopw [3] (fun i wr => ∃ k : Nat, k ≤ l.length ∧ i = .int .i64 (k : Int) ∧ Hid (Below w.heap.size w wr) ∧ Hid (∀ j, j < k → ((fts l).getD j ft0).code.length ≤ 210)) (fun i _ => l.length - (intOf i).toNat)
  case atStart => exact ⟨0, Nat.zero_le _, rfl, Lib.hid (Below.refl _ _), Lib.hid (fun j hj => absurd hj (by omega))⟩
  case round =>
    obtain ⟨k, hk, rfl, HB, HJ⟩ := hrel
    by_cases hlt : k < l.length
    · have hki : (k : Int) < (l.length : Int) := by omega
      have hT := (H.out.below HB.out).2.at_ hlt
      obtain ⟨b, off, rfl, hbl, hrg⟩ := SlT.at_ (H.out.below HB.out).1 rfl H.out.2.len hlt
      obtain ⟨Ac, cc, h0, hc1', hc2'⟩ := hT.code0
      unfold maxLen at hc2'
      have c0 := hrg 0 _ (by simpa using h0)
      rw [Nat.add_zero] at c0
      have HG := Lib.hid (fts_getD hlt)
      clear hT hrg h0
      generalize (l[k]).2 = T at *
      by_cases h2 : T.code.length ≤ 210
      · have h2' : ¬ (210 : Int) < (T.code.length : Int) := by omega
        have HN : Hid (∀ j, j < k + 1 → ((fts l).getD j ft0).code.length ≤ 210) := Lib.hid fun j hj => by
          by_cases e : j = k
          · subst e; rw [HG.out]; exact h2
          · exact HJ.out j (by omega)
        clear h2
        go_wp2
        go_roundw
        case rel => exact ⟨k + 1, by omega, by go_num, HB, HN⟩
        case measure => simp [intOf]; omega
      · have h2' : (210 : Int) < (T.code.length : Int) := by omega
        have F : Hid (BoolPost (decide (fewP (fts l))) w (.returned (.bool false)) wr) := Lib.hid ⟨by rw [decide_eq_false (fun hf => h2 (by have := hf.1 k (by rw [HFL.out]; exact hlt); rwa [HG.out] at this))], HB.out⟩
        clear h2
        go_wp2
        go_ret
        exact F.out
    · have hki : ¬ (k : Int) < (l.length : Int) := by omega
      have hall : ∀ j, j < l.length → ((fts l).getD j ft0).code.length ≤ 210 := fun j hj => HJ.out j (by omega)
      have HALL := Lib.hid hall
      clear hall
      by_cases h12 : l.length ≤ 12
      · have h12' : (l.length : Int) ≤ 12 := by omega
        have F : Hid (BoolPost (decide (fewP (fts l))) w (.returned (.bool true)) wr) := Lib.hid ⟨by rw [decide_eq_true (p := fewP (fts l)) ⟨by rw [HFL.out]; exact HALL.out, by rw [HFL.out]; exact h12⟩], HB.out⟩
        go_wp2
        go_ret
        exact F.out
      · have h12' : ¬ (l.length : Int) ≤ 12 := by omega
        have F : Hid (BoolPost (decide (fewP (fts l))) w (.returned (.bool false)) wr) := Lib.hid ⟨by rw [decide_eq_false (fun hf => h12 (by have := hf.2; rwa [HFL.out] at this))], HB.out⟩
        go_wp2
        go_ret
        exact F.out

theorem range_below {w w' : World} {b o : Nat} {cs : List Value} (h : w.rangeAt b o cs) (hb : b < w.heap.size) (hB : Below w.heap.size w w') : w'.rangeAt b o cs := fun j v hv => (hB.cell (p := ⟨b, o + j, none⟩) hb).trans (h j v hv)
theorem sameT_refl (a : FT) : sameT a a := ⟨rfl, rfl, rfl, rfl, rfl, fun _ _ => rfl⟩
set_option maxHeartbeats 2000000 in
set_option linter.unusedSimpArgs false in
theorem sameAll_call {v1 v2 : Value} {l l2 : List TV} {w : World} (h : Tasks w v1 l) (h2 : Tasks w v2 l2) (he : fts l = fts l2) : Calls Try.prog 41 #[v1, v2] w (BoolPost true w) := by
  obtain ⟨A, c, rfl, hc1, hc2, _⟩ := h.1.form
  obtain ⟨A2, c2, rfl, hc21, hc22, _⟩ := h2.1.form
  unfold maxLen at hc2 hc22
  have hll : l2.length = l.length := by have := congrArg List.length he; simpa using this.symm
  have H := Lib.hid h
  have H2 := Lib.hid h2
  have HE := Lib.hid he
  have HLL := Lib.hid hll
  rw [hll]
  rw [hll] at hc21
  have hlen : (l.length : Int) ≤ 9223372036854775807 := by omega
  clear h h2 he hll
  go_enter Try.func41, Try.ntmps41
  go_wp2_with fail
  go_loopw [5] (fun i wr => ∃ k : Nat, k ≤ l.length ∧ i = .int .i64 (k : Int) ∧ Hid (Below w.heap.size w wr)) (fun i _ => l.length - (intOf i).toNat)
  case atStart => exact ⟨0, Nat.zero_le _, rfl, Lib.hid (Below.refl _ _)⟩
  case round =>
    obtain ⟨k, hk, rfl, HB⟩ := hrel
    by_cases hlt : k < l.length
    · have hki : (k : Int) < (l.length : Int) := by omega
      have hlt2 : k < l2.length := by rw [HLL.out]; exact hlt
      have hT := (H.out.below HB.out).2.at_ hlt
      have hT2 := (H2.out.below HB.out).2.at_ hlt2
      obtain ⟨b, off, rfl, hbl, hrg⟩ := SlT.at_ (H.out.below HB.out).1 rfl H.out.2.len hlt
      obtain ⟨b2, off2, rfl, hbl2, hrg2⟩ := SlT.at_ (n := l.length) (c := c2) (by have := (H2.out.below HB.out).1; rwa [HLL.out] at this) HLL.out.symm H2.out.2.len hlt2
      have hee : (l[k]).2 = (l2[k]).2 := by rw [← fts_getD hlt, ← fts_getD hlt2, HE.out]
      have hl1 := H.out.2.len _ (List.getElem_mem hlt)
      have hl2 := H2.out.2.len _ (List.getElem_mem hlt2)
      rw [← hee] at hT2
      generalize (l[k]).1 = C1 at *
      generalize (l2[k]).1 = C2 at *
      generalize (l[k]).2 = T at *
      have HT := Lib.hid hT
      have HT2 := Lib.hid hT2
      have hi1 : (Try.prog.info? 42).map (·.size) = some C1.length := by rw [hl1]; exact size_task
      have hi2 : (Try.prog.info? 42).map (·.size) = some C2.length := by rw [hl2]; exact size_task
      have HI1 := Lib.hid hi1
      have HI2 := Lib.hid hi2
      have HRG := Lib.hid hrg
      have HRG2 := Lib.hid hrg2
      clear hT hT2 hee hl1 hl2 hi1 hi2 hrg hrg2
      go_wp2_with fail
      have hu := Try.underlying42
      refine wp_region_held_drew (S := fun w' => w'.rangeAt b (off + k * 36) C1 ∧ w'.rangeAt b2 (off2 + k * 36) C2) (by kernel_rfl) ⟨HRG.out, HRG2.out⟩ (fun hHeld => ?_)
      refine wpAnyH_take (i := 0) (v := .slice (some ⟨b, off, none⟩) l.length c) rfl (by kernel_rfl) (by kernel_rfl) (by kernel_rfl) (fun _ _ _ h => h) (Or.inl ⟨by rfl, fun w hw => ?_⟩) hHeld ?_
      · go_simp
      simp only [Act.put, List.setIfInBounds_toArray, List.set_cons_zero, List.set_cons_succ]
      refine wpAnyH_take (i := 1) (v := .int .i64 (k : Int)) rfl (by kernel_rfl) (by kernel_rfl) (by kernel_rfl) (fun _ _ _ h => h) (Or.inl ⟨by rfl, fun w hw => ?_⟩) hHeld ?_
      · go_simp
      simp only [Act.put, List.setIfInBounds_toArray, List.set_cons_zero, List.set_cons_succ]
      refine wpAnyH_take (i := 2) (v := .pointer (some ⟨b, off + k * 36, none⟩)) rfl (by kernel_rfl) (by kernel_rfl) (by kernel_rfl) (fun _ _ _ h => h) (Or.inl ⟨by rfl, fun w hw => ?_⟩) hHeld ?_
      · go_simp
      simp only [Act.put, List.setIfInBounds_toArray, List.set_cons_zero, List.set_cons_succ]
      refine wpAnyH_take (i := 3) (v := .agg C1.toArray) rfl (by kernel_rfl) (by kernel_rfl) (by kernel_rfl) (fun _ _ _ h => h)
        (yieldsIf_load_mid (by rfl) 42 _ rfl b (off + k * 36) rfl C1 _ (fun _ h => h.1) hu rfl HI1.out) hHeld ?_
      simp only [Act.put, List.setIfInBounds_toArray, List.set_cons_zero, List.set_cons_succ]
      refine wpAnyH_take (i := 4) (v := .slice (some ⟨b2, off2, none⟩) l.length c2) rfl (by kernel_rfl) (by kernel_rfl) (by kernel_rfl) (fun _ _ _ h => h) (Or.inl ⟨by rfl, fun w hw => ?_⟩) hHeld ?_
      · go_simp
      simp only [Act.put, List.setIfInBounds_toArray, List.set_cons_zero, List.set_cons_succ]
      refine wpAnyH_take (i := 5) (v := .int .i64 (k : Int)) rfl (by kernel_rfl) (by kernel_rfl) (by kernel_rfl) (fun _ _ _ h => h) (Or.inl ⟨by rfl, fun w hw => ?_⟩) hHeld ?_
      · go_simp
      simp only [Act.put, List.setIfInBounds_toArray, List.set_cons_zero, List.set_cons_succ]
      refine wpAnyH_take (i := 6) (v := .pointer (some ⟨b2, off2 + k * 36, none⟩)) rfl (by kernel_rfl) (by kernel_rfl) (by kernel_rfl) (fun _ _ _ h => h) (Or.inl ⟨by rfl, fun w hw => ?_⟩) hHeld ?_
      · go_simp
      simp only [Act.put, List.setIfInBounds_toArray, List.set_cons_zero, List.set_cons_succ]
      refine wpAnyH_take (i := 7) (v := .agg C2.toArray) rfl (by kernel_rfl) (by kernel_rfl) (by kernel_rfl) (fun _ _ _ h => h)
        (yieldsIf_load_mid (by rfl) 42 _ rfl b2 (off2 + k * 36) rfl C2 _ (fun _ h => h.2) hu rfl HI2.out) hHeld ?_
      simp only [Act.put, List.setIfInBounds_toArray, List.set_cons_zero, List.set_cons_succ]
      clear hu
      refine wpAnyH_ready (rs := [8]) (by kernel_rfl) (by simp) ?_
      refine AllReadyH.cons rfl (fun K hK => ?_) AllReadyH.nil
      go_simp
      refine (tsame_call (x := true) ⟨fun _ => sameT_refl _, fun _ => rfl⟩ (w := wr.drew) HT.out HT2.out).mono ?_
      rintro e w1 ⟨rfl, hb1'⟩
      have hb1 := below_of_drew hb1'
      clear hb1'
      refine hK.out _ _ ⟨range_below HRG.out hbl hb1, range_below HRG2.out hbl2 hb1⟩ (fun hHeld2 => ?_)
      clear hK K
      refine wpAnyH_ready (rs := [9]) (by kernel_rfl) (by simp) ?_
      refine AllReadyH.cons rfl (fun K hK => ?_) AllReadyH.nil
      go_simp
      refine hK.out _ _ ⟨range_below HRG.out hbl hb1, range_below HRG2.out hbl2 hb1⟩ (fun _ => ?_)
      clear hK K
      refine wpAnyH_done (by kernel_rfl) ?_ _
      have HB1 := Lib.hid (below_call HB.out hb1 HB.out.size)
      clear hb1
      go_wp2
      go_roundw
      case rel => exact ⟨k + 1, by omega, by go_num, HB1⟩
      case measure => simp [intOf]; omega
    · have hki : ¬ (k : Int) < (l.length : Int) := by omega
      go_wp2
      go_ret
      exact ⟨rfl, HB.out⟩
end Go.Proofs.Ytpkelneimjmmkaa

/- The contract of task.Step: its ends without an access. -/
import Derived.Test.YtpkelneimjmmkaaTaskF
namespace Go.Proofs.Ytpkelneimjmmkaa
open Go.RowKit

section
variable {P : Program}
theorem results_row_tmp {fn : Func} {p u : Tmp} {ty : TypeId} (h : fn.results = #[.cell p ty, .tmp u]) (tmps : Array Value) (w : World) (g : Nat) (t : TypeId) (cs : Array Value) (d : TypeDesc)
    (hp : tmps.getD p undef = .pointer (some ⟨g, 0, none⟩)) (hg : Box w g t cs) (hu : P.underlying ty = some d) (hd : d.isRow = true) (hi : (P.info? ty).map (·.size) = some cs.size) :
    (results fn tmps).run P w = .ok (.tuple #[.agg cs, tmps.getD u undef]) w := by
  have hp' : tmps[p]?.getD undef = .pointer (some ⟨g, 0, none⟩) := by simpa using hp
  simp [results, h, hp', asAddr, run_loadVar_row w g t ty cs (0, 0) d hg hu (by cases d <;> simp_all [TypeDesc.isRow]) hi]
theorem results_row_tmp2 {fn : Func} {p u v : Tmp} {ty : TypeId} (h : fn.results = #[.cell p ty, .tmp u, .tmp v]) (tmps : Array Value) (w : World) (g : Nat) (t : TypeId) (cs : Array Value) (d : TypeDesc)
    (hp : tmps.getD p undef = .pointer (some ⟨g, 0, none⟩)) (hg : Box w g t cs) (hu : P.underlying ty = some d) (hd : d.isRow = true) (hi : (P.info? ty).map (·.size) = some cs.size) :
    (results fn tmps).run P w = .ok (.tuple #[.agg cs, tmps.getD u undef, tmps.getD v undef]) w := by
  have hp' : tmps[p]?.getD undef = .pointer (some ⟨g, 0, none⟩) := by simpa using hp
  simp [results, h, hp', asAddr, run_loadVar_row w g t ty cs (0, 0) d hg hu (by cases d <;> simp_all [TypeDesc.isRow]) hi]
end

theorem wp_at {P : Program} {c : Code} {Q : Exit → Act → World → Prop} {a : Act} {W : World} (h : ∀ W0, W0 = W → c.wp P Q a W0) : c.wp P Q a W := h W rfl

theorem calls_at {P : Program} {f : FuncId} {args : Array Value} {R : Ending → World → Prop} {W : World} (h : ∀ W0, W0 = W → Calls P f args W0 R) : Calls P f args W R := h W rfl
theorem below_of_drew {W w : World} (h : Below W.drew.heap.size W.drew w) : Below W.heap.size W w := ⟨h.os, h.tape, h.output, h.size, h.block⟩

/-- What a step hands back: a task, and words of the call's own. -/
def StepPost (cv0 : Value) (code0 : List Insn) (T : FT) (ms : List Int) (w : World) (e : Ending) (w' : World) : Prop := ∃ v1 v2, e = .returned (.tuple #[v1, v2]) ∧ (∀ W, Inss W cv0 code0 → IsTask W v1 T) ∧ Own w' w.heap.size v2 ms ∧ Below w.heap.size w w'
theorem own_set_far {w : World} {base : Nat} {v : Value} {ms : List Int} (h : Own w base v ms) {g : Nat} (hg : g < base) (cs : Array Value) : Own (w.setRow g cs) base v ms := by
  obtain ⟨⟨h1, h2⟩, h3⟩ := h
  refine ⟨⟨h1, ?_⟩, h3⟩
  rcases h2 with h2 | ⟨g', cap, cur, e, hg', hh, r⟩
  · exact .inl h2
  · exact .inr ⟨g', cap, cur, e, hg', (setRow_other w g g' cs (by omega)).trans hh, r⟩
/-- What stands behind the result's row stored last. -/
theorem StepPost.stored {T : FT} {ms : List Int} {w w1 : World} {cv0 cv v2 : Value} {code0 : List Insn} (hI : ∀ W, Inss W cv0 code0 → Inss W cv T.code) (ht : T.t.ok) (hc : cv.oneCell' = true) (hb : Below w.heap.size w w1) (ho : Own w1 (w.heap.size + 2) v2 ms) :
    StepPost cv0 code0 T ms w (.returned (.tuple #[.agg (tcells cv T.t), v2])) (w1.setRow (w.heap.size + 1) (tcells cv T.t)) := by
  have hb' := below_row hb (g := w.heap.size + 1) (by omega) (tcells cv T.t)
  exact ⟨_, _, rfl, fun W hW => ⟨cv, rfl, hI W hW, ht, hc⟩, own_base (own_set_far ho (by omega) _) (by omega), hb'⟩
set_option maxHeartbeats 4000000 in
set_option maxRecDepth 20000 in
set_option linter.unusedSimpArgs false in
/-- A step of one that is done. -/
theorem step_done {cv vm : Value} {T : FT} {ms : List Int} {w : World} (ht : T.t.ok) (hc : cv.oneCell' = true) (hm : Words w vm ms) (hd : T.t.done = true) :
    Calls Try.prog 33 #[.agg (tcells cv T.t), vm] w (StepPost cv T.code T (counts ms) w) := by
  have h32 := ht.1
  have e34 := tcells_34 (cv := cv) h32
  rw [hd] at e34
  have hsz := tcells_size (cv := cv) h32
  have hone := tcells_one (t := T.t) hc
  obtain ⟨tl, ht1, hl1⟩ := tcells_list cv T.t h32
  have F : Hid (∀ v2 w1, Below w.heap.size w w1 → Own w1 (w.heap.size + 2) v2 (counts ms) → StepPost cv T.code T (counts ms) w (.returned (.tuple #[.agg (tcells cv T.t), v2])) (w1.setRow (w.heap.size + 1) (tcells cv T.t))) := Lib.hid fun v2 w1 hb ho => StepPost.stored (fun _ h => h) ht hc hb ho
  have HM := Lib.hid hm
  rw [ht1] at F e34 hsz hone
  rw [ht1]
  rw [List.getElem?_toArray] at e34
  have HSZ := Lib.hid hsz
  have HONE := Lib.hid hone
  have HL1 := Lib.hid hl1
  clear hm ht h32 hd hsz hone ht1 hc hl1
  go_enter Try.func33, Try.ntmps33
  go_wp2_with fail
  refine wp_at fun W0 hW0 => ?_
  have bx : Box W0 w.heap.size 42 tl.toArray := by rw [hW0]; exact (Box.new _ _ _).alloc _
  have br : ∃ z, Box W0 (w.heap.size + 1) 42 z ∧ z.size = 36 := by rw [hW0]; exact ⟨_, Box.at_ (by simp) _ _, rfl⟩
  have hb0 : Below w.heap.size w W0 := by rw [hW0]; exact ((Below.refl _ w).alloc (Nat.le_refl _) _).alloc (by simp) _
  have hs0 : W0.heap.size = w.heap.size + 2 := by rw [hW0]; simp
  obtain ⟨z, br, hz⟩ := br
  clear hW0
  have HB := Lib.hid hb0
  have BX := Lib.hid bx
  have BR := Lib.hid br
  have HM0 := Lib.hid (HM.out.below (w' := W0) hb0)
  clear hb0 bx br
  have hu := Try.underlying42
  refine wp_region_held_drew (S := fun w' => w'.rangeAt w.heap.size 0 tl) (by kernel_rfl) BX.out.range (fun hHeld => ?_)
  refine wpAnyH_take (i := 0) (v := .agg tl.toArray) rfl (by kernel_rfl) (by kernel_rfl) (by kernel_rfl) (fun _ _ _ h => h)
    (yieldsIf_load_mid (by rfl) 42 _ rfl w.heap.size 0 rfl tl _ (fun _ h => h) hu rfl (by rw [HL1.out]; exact size_task)) hHeld ?_
  clear hu
  simp only [Act.put, List.setIfInBounds_toArray, List.set_cons_zero, List.set_cons_succ]
  refine wpAnyH_take (i := 1) (v := vm) rfl (by kernel_rfl) (by kernel_rfl) (by kernel_rfl) (fun _ _ _ h => h) (Or.inl ⟨by rfl, fun w hw => ?_⟩) hHeld ?_
  · go_simp
  simp only [Act.put, List.setIfInBounds_toArray, List.set_cons_zero, List.set_cons_succ]
  refine wpAnyH_ready (rs := [2]) (by kernel_rfl) (by simp) ?_
  refine AllReadyH.cons rfl (fun K hK => ?_) AllReadyH.nil
  go_simp
  refine (tknown_call (w := W0.drew) HM0.out.drew).mono ?_
  rintro e w1 ⟨v2, rfl, ho, hb1'⟩
  have hb1 := below_of_drew hb1'
  clear hb1'
  have BR1 := Lib.hid (BR.out.kept hb1)
  have HF := Lib.hid (F.out v2 w1 (below_call HB.out hb1 HB.out.size) (own_base ho (by show _ ≤ W0.heap.size; omega)))
  have bx1 : Box w1 w.heap.size 42 tl.toArray := BX.out.kept hb1
  refine hK.out _ _ bx1.range (fun hHeld2 => ?_)
  clear hK K ho hb1
  refine wpAnyH_ready (rs := [3]) (by kernel_rfl) (by simp) ?_
  refine AllReadyH.cons rfl (fun K hK => ?_) AllReadyH.nil
  rw [if_pos (by rfl)]
  refine wp_store_row 42 _ _ rfl (w.heap.size + 1) tl.toArray rfl rfl 42 _ BR1.out (size_task' (by rw [HSZ.out])) (by rw [hz, HSZ.out]) HONE.out ?_
  refine hK.out _ _ (by exact (Box.row_far (bx1) (by omega) _).range) (fun _ => ?_)
  clear hK K
  refine wpAnyH_ready (rs := [4]) (by kernel_rfl) (by simp) ?_
  refine AllReadyH.cons rfl (fun K hK => ?_) AllReadyH.nil
  go_simp
  refine hK.out _ _ (by exact (Box.row_far (bx1) (by omega) _).range) (fun _ => ?_)
  clear hK K
  refine wpAnyH_done (by kernel_rfl) ?_ _
  go_wp2
  exact bodyPost_ret (results_row_tmp Try.results33 _ _ (w.heap.size + 1) 42 _ _ rfl (BR1.out.row _) Try.underlying42 rfl (size_task' HSZ.out)) rfl HF.out

set_option maxHeartbeats 4000000 in
/-- A step of what is no program's task. -/
theorem step_insane {cv vm : Value} {T : FT} {ms : List Int} {w : World} (hI : Inss w cv T.code) (ht : T.t.ok) (hc : cv.oneCell' = true) (hm : Words w vm ms) (hd : T.t.done = false) (hs : ¬ Sane T.code) :
    Calls Try.prog 33 #[.agg (tcells cv T.t), vm] w (StepPost cv T.code (startT T.code) (counts ms) w) := by
  have h32 := ht.1
  have e34 := tcells_34 (cv := cv) h32
  have e0 := tcells_0 (cv := cv) (t := T.t)
  rw [hd] at e34
  have HI := Lib.hid hI
  have HM := Lib.hid hm
  have HS := Lib.hid hs
  have hok : (startT T.code).t.ok := (startT_ok hI.2).1
  obtain ⟨A, c, rfl, _⟩ := hI.1.form
  generalize tcells (.slice A T.code.length c) T.t = C at *
  clear hm hI ht h32 hd hc hs
  go_enter Try.func33, Try.ntmps33
  go_wp2_with fail
  refine calls_at fun W0 hW0 => ?_
  have bx : Box W0 w.heap.size 42 C := by rw [hW0]; exact (Box.new _ _ _).alloc _
  have br : ∃ z, Box W0 (w.heap.size + 1) 42 z ∧ z.size = 36 := by rw [hW0]; exact ⟨_, Box.at_ (by simp) _ _, rfl⟩
  have hb0 : Below w.heap.size w W0 := by rw [hW0]; exact ((Below.refl _ w).alloc (Nat.le_refl _) _).alloc (by simp) _
  have hs0 : W0.heap.size = w.heap.size + 2 := by rw [hW0]; simp
  obtain ⟨z, br, hz⟩ := br
  clear hW0
  refine (sane_call (HI.out.below hb0)).mono ?_
  rintro e w1 ⟨rfl, hb1⟩
  rw [decide_eq_false HS.out]
  have hb2 := below_call hb0 hb1 hb0.size
  have hs1 : w.heap.size + 2 ≤ w1.heap.size := by have := hb1.size; omega
  have bx1 := bx.kept hb1
  have br1 := br.kept hb1
  have d0 := (bx1.cell 0).trans e0
  have HB := Lib.hid hb2
  have BR := Lib.hid br1
  have HI1 := Lib.hid (HI.out.below hb2)
  clear hb0 hb1 hb2 bx br bx1 br1 hs0
  go_wp2_with fail
  refine (start_call HI1.out).mono ?_
  rintro e w2 ⟨rfl, hb2⟩
  have hc' := startCv_one HI.out
  have hi' : ∀ W, Inss W (.slice A T.code.length c) T.code → Inss W (startCv T.code (.slice A T.code.length c)) (startT T.code).code := fun W h => startCv_inss h
  generalize startCv T.code (.slice A T.code.length c) = cv' at *
  have hb3 := below_call HB.out hb2 HB.out.size
  have br2 := BR.out.kept hb2
  have HM2 := Lib.hid (HM.out.below hb3)
  have hs2 : w.heap.size + 2 ≤ w2.heap.size := by have := hb2.size; omega
  have HB3 := Lib.hid hb3
  have BR2 := Lib.hid br2
  clear hb2 hb3 br2 HB BR HI1 d0
  go_wp2_with fail
  refine (tknown_call HM2.out).mono ?_
  rintro e w3 ⟨v2, rfl, ho, hb4⟩
  have br3 := BR2.out.kept hb4
  have hb5 := below_call HB3.out hb4 HB3.out.size
  have hF : StepPost (.slice A T.code.length c) T.code (startT T.code) (counts ms) w (.returned (.tuple #[.agg (tcells cv' (startT T.code).t), v2])) (w3.setRow (w.heap.size + 1) (tcells cv' (startT T.code).t)) :=
    StepPost.stored hi' hok hc' hb5 (own_base ho (by omega))
  have HF := Lib.hid hF
  have BR3 := Lib.hid br3
  have HSZ := Lib.hid (tcells_size (cv := cv') hok.1)
  have HONE := Lib.hid (tcells_one (t := (startT T.code).t) hc')
  clear hb4 hb5 br3 ho hF
  generalize tcells cv' (startT T.code).t = D at *
  go_wp2_with (first | with_reducible refine load_stop rfl 42 _ rfl ?_ | with_reducible refine store_stop rfl 42 _ _ rfl ?_)
  refine AtStore.go (w.heap.size + 1) rfl rfl BR3.out (size_task' HSZ.out) (by rw [hz, HSZ.out]) HONE.out ?_
  go_wp2
  exact bodyPost_ret (results_row_tmp Try.results33 _ _ (w.heap.size + 1) 42 _ _ rfl (BR3.out.row _) Try.underlying42 rfl (size_task' HSZ.out)) rfl HF.out
end Go.Proofs.Ytpkelneimjmmkaa

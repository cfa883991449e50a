/- How a task comes to rest: the iterator that task.rest ranges over. -/
import Derived.Test.YtpkelneimjmmkaaTaskC
import Derived.RangeFuncNested
import Derived.RangeFuncBound
import Derived.RangeFuncCalls
import Derived.RangeFuncLeaves
import Derived.Shelf.Abstract
import Derived.Shelf.RegionOpen
import Derived.WalkKit
import Derived.OwnWalkIn
import Derived.TacticsInMore
import Derived.LoopNIn
import Derived.LoopIn
import Derived.Deep.RegionHeld3
import Derived.Deep.MidRow
namespace Go.Proofs.Ytpkelneimjmmkaa
open Go.RowKit Go.Shelf

/-- What the iterator asks of the words J on the worlds between two rounds. -/
structure Turns (g gp : Nat) (cv : Value) (code : List Insn) (J : Tsk → World → Prop) : Prop where
  box : ∀ {t W}, J t W → Box W g 42 (tcells cv t)
  ok : ∀ {t W}, J t W → t.ok
  ptr : ∀ {t W}, J t W → W.cell? ⟨gp, 0, none⟩ = some (.pointer (some ⟨g, 0, none⟩))
  plt : ∀ {t W}, J t W → gp < W.heap.size
  code : ∀ {t W}, J t W → Inss W cv code
  moved : ∀ {t W W'}, J t W → Below W.heap.size W W' → J t W'
  set : ∀ {t t' W W'}, J t W → t'.ok → W.grownBy W' (some g) → Box W' g 42 (tcells cv t') → J t' W'

/-- How many rounds may still come, read off the world. -/
def roundsLeft (code : List Insn) (g : Nat) (W : World) : Nat :=
  match W.cell? ⟨g, 34, none⟩, W.cell? ⟨g, 1, none⟩ with
  | some (.bool d), some (.int _ pc) => if d then 0 else ((code.length : Int) - pc).toNat
  | _, _ => 0
theorem roundsLeft_eq {code : List Insn} {g : Nat} {W : World} {cv : Value} {t : Tsk} {ty : TypeId} (h : Box W g ty (tcells cv t)) (ht : t.regs.length = 32) : roundsLeft code g W = left code t := by
  unfold roundsLeft
  rw [(h.cell 34).trans (tcells_34 ht), (h.cell 1).trans tcells_1]
  rfl

theorem grown_setCells (g : Nat) : ∀ (vs : List Value) (o : Nat) (W : World), W.grownBy (W.setCells g o vs) (some g)
  | [], _, W => World.grownBy.refl W _
  | v :: r, o, W => by
    have h1 : W.grownBy (W.setCell ⟨g, o, none⟩ v) (some g) := ⟨rfl, rfl, rfl, (KeepsWalks.setCell W _ v).size, fun k _ hk => Below.heap_setCell _ _ _ k (fun e => hk (by rw [e]))⟩
    exact h1.trans (grown_setCells g r (o + 1) _)
theorem box_setCells {g : Nat} {t : TypeId} : ∀ (vs : List Value) (o : Nat) (W : World) (cs : Array Value), Box W g t cs → ∃ cs' : Array Value, Box (W.setCells g o vs) g t cs' ∧ cs'.size = cs.size
  | [], _, _, cs, h => ⟨cs, h, rfl⟩
  | v :: r, o, W, cs, h => by
    obtain ⟨cs', h1, h2⟩ := box_setCells r (o + 1) _ _ (h.set_ o v)
    exact ⟨cs', h1, by rw [h2]; simp⟩
/-- A whole row stored cell by cell. -/
theorem Box.setCells_all {W : World} {g : Nat} {t : TypeId} {cs : Array Value} {vs : List Value} (h : Box W g t cs) (hs : vs.length = cs.size) : Box (W.setCells g 0 vs) g t vs.toArray := by
  obtain ⟨cs', h1, h2⟩ := box_setCells vs 0 W cs h
  have hc := World.cell?_setCells_in g vs 0 W (fun j hj => by rw [h.cell]; rw [Array.getElem?_eq_getElem (by omega)]; rfl)
  have he : cs' = vs.toArray := by
    apply Array.ext
    · simp; omega
    · intro j hj1 hj2
      have hj : j < vs.length := by simpa using hj2
      have := hc j hj
      rw [h1.cell, Nat.zero_add, Array.getElem?_eq_getElem hj1] at this
      injection this
  rw [← he]; exact h1
theorem Box.range {W : World} {g : Nat} {t : TypeId} {cs : List Value} (h : Box W g t cs.toArray) : W.rangeAt g 0 cs := fun j v hv => by
  rw [h.cell, Nat.zero_add]; simpa using hv
theorem Box.thereAll {W : World} {g : Nat} {t : TypeId} {cs : Array Value} (h : Box W g t cs) {n : Nat} (hn : cs.size = n) : W.there g 0 n := fun j hj =>
  ⟨by rw [h.cell, Nat.zero_add, Array.getElem?_eq_getElem (by omega)]; rfl, h.frozen _⟩
theorem ended_list {cv : Value} {t : Tsk} {a : Int} {w : World} {tl tl2 : List Value} (ht : t.regs.length = 32) (hc : cv.oneCell' = true) (h1 : tcells cv t = tl.toArray) (h2 : tcells cv { t with done := true, ans := a } = tl2.toArray) :
    Calls Try.prog 77 #[.agg tl.toArray, .int .i64 a] w (fun e w' => e = .returned (.agg tl2.toArray) ∧ Below w.heap.size w w') := by
  rw [← h1, ← h2]; exact ended_call cv t a w ht hc
theorem tcells_list (cv : Value) (t : Tsk) (ht : t.regs.length = 32) : ∃ tl : List Value, tcells cv t = tl.toArray ∧ tl.length = 36 := ⟨(tcells cv t).toList, by simp, by simpa using tcells_size (cv := cv) ht⟩

set_option maxHeartbeats 4000000 in
set_option maxRecDepth 20000 in
set_option linter.unusedSimpArgs false in
/-- One go over what a task does by itself. -/
theorem alone_call {g gp l n : Nat} {cv : Value} {code : List Insn} {J : Tsk → World → Prop} (T : Turns g gp cv code J) (hs : Sane code) (hone : cv.oneCell' = true) (hne : gp ≠ g)
    (hY : ∀ (t : Tsk) (x : Insn) (W : World), J t W → t.done = false → 0 ≤ t.pc → t.pc < (code.length : Int) → code.getD t.pc.toNat insn0 = x → 2 < x.k →
      YieldAt Fence.wide n Try.prog l #[x.val] W fun e W' => e = .returned (.bool true) ∧ J (byItself t x) W')
    {t : Tsk} {W : World} (h : J t W) :
    Calls Try.prog 99 #[.func (.yield l) #[] #[], .pointer (some ⟨gp, 0, none⟩)] W (fun e W' => (∃ v, e = .returned v) ∧ J (rest code t) W') := by
  have HT := Lib.hid T
  have HY := Lib.hid hY
  have HS := Lib.hid hs
  have H0 := Lib.hid h
  clear T hY h hs
  go_enter Try.func99, Try.ntmps99
  go_wp2_with fail
  go_loopw [] (fun wr => ∃ t', Hid (J t' wr) ∧ Hid (rest code t' = rest code t)) (fun wr => roundsLeft code g wr)
  case atStart => exact ⟨t, H0, Lib.hid rfl⟩
  case round =>
    obtain ⟨t', HJ, HR⟩ := hrel
    have h32 := (HT.out.ok HJ.out).1
    have e34 := ((HT.out.box HJ.out).cell 34).trans (tcells_34 h32)
    have ep := HT.out.ptr HJ.out
    by_cases hd : t'.done = true
    · rw [hd] at e34
      have F : Hid (J (rest code t) wr) := Lib.hid (by rw [← HR.out, rest_done hd]; exact HJ.out)
      clear hd
      go_wp2
      go_end0
      exact ⟨⟨_, rfl⟩, F.out⟩
    · have hd' : t'.done = false := by simpa using hd
      rw [hd'] at e34
      have e1 := ((HT.out.box HJ.out).cell 1).trans tcells_1
      have e0 := ((HT.out.box HJ.out).cell 0).trans tcells_0
      clear hd
      have HD := Lib.hid hd'
      clear hd'
      have hpc := (HT.out.ok HJ.out).2.2.1
      have hI := HT.out.code HJ.out
      obtain ⟨A, c, hcv, hc1, hc2, hA⟩ := hI.1.form
      rw [hcv] at e0
      unfold maxLen at hc2
      have HI := Lib.hid hI
      clear hI hA
      by_cases hin : 0 ≤ t'.pc ∧ t'.pc < (code.length : Int)
      · obtain ⟨hp0, hp1⟩ := hin
        obtain ⟨pc, hpce⟩ := Int.eq_ofNat_of_zero_le hp0
        have hpl : pc < code.length := by omega
        have hsl : code.length ≤ 200 := HS.out.2.2
        have hI' := HI.out
        rw [hcv] at hI'
        obtain ⟨b, off, rfl, hbl, c0, c1, c2, c3, c4⟩ := hI'.at_ rfl hpl
        have hxe : code.getD t'.pc.toNat insn0 = code.getD pc insn0 := by rw [hpce]; rfl
        generalize hx : code.getD pc insn0 = x at *
        rw [hpce] at e1
        have HX := Lib.hid hxe
        have HX2 := Lib.hid hx
        have HPC := Lib.hid hpce
        clear hI' hxe hx hp1
        have hneg : ¬ (pc : Int) < 0 := by omega
        have hge : ¬ (code.length : Int) ≤ (pc : Int) := by omega
        have hlt : (pc : Int) < (code.length : Int) := by omega
        go_wp2_with fail
        go_quiet (fail)
        go_wp2_with fail
        rename_i nq _ K2 hK2
        obtain ⟨W2, hW2⟩ : ∃ W2, W2 = wr.drewN nq := ⟨_, rfl⟩
        have f0 : W2.cell? ⟨gp, 0, none⟩ = some (.pointer (some ⟨g, 0, none⟩)) := by rw [hW2]; exact ep
        have f1 : W2.cell? ⟨g, 0, none⟩ = some (.slice (some ⟨b, off, none⟩) code.length c) := by rw [hW2]; exact e0
        have f2 : W2.cell? ⟨g, 1, none⟩ = some (.int .i64 (pc : Int)) := by rw [hW2]; exact e1
        have f3 : W2.cell? ⟨b, off + pc * 5, none⟩ = some (.int .i64 x.k) := by rw [hW2]; exact c0
        have f4 : W2.cell? ⟨b, off + pc * 5 + 1, none⟩ = some (.int .i64 x.i) := by rw [hW2]; exact c1
        have f5 : W2.cell? ⟨b, off + pc * 5 + 2, none⟩ = some (.int .i64 x.r) := by rw [hW2]; exact c2
        have f6 : W2.cell? ⟨b, off + pc * 5 + 3, none⟩ = some (.int .i64 x.to) := by rw [hW2]; exact c3
        have f7 : W2.cell? ⟨b, off + pc * 5 + 4, none⟩ = some (.int .u64 x.a) := by rw [hW2]; exact c4
        have HB2 : Hid (Below wr.heap.size wr W2) := Lib.hid (by rw [hW2]; exact below_drewN (Below.refl _ _) _)
        rw [← hW2]
        clear hW2 ep e0 e1 c0 c1 c2 c3 c4 e34
        have n0 := World.new_ne W2.drew _ f0
        have n1 := World.new_ne W2.drew _ f1
        have n2 := World.new_ne W2.drew _ f3
        go_region_held3 (fun w' => w'.cell? ⟨gp, 0, none⟩ = some (.pointer (some ⟨g, 0, none⟩)) ∧ w'.cell? ⟨g, 0, none⟩ = some (.slice (some ⟨b, off, none⟩) code.length c) ∧ w'.cell? ⟨g, 1, none⟩ = some (.int .i64 (pc : Int)) ∧
          w'.cell? ⟨b, off + pc * 5, none⟩ = some (.int .i64 x.k) ∧ w'.cell? ⟨b, off + pc * 5 + 1, none⟩ = some (.int .i64 x.i) ∧ w'.cell? ⟨b, off + pc * 5 + 2, none⟩ = some (.int .i64 x.r) ∧ w'.cell? ⟨b, off + pc * 5 + 3, none⟩ = some (.int .i64 x.to) ∧ w'.cell? ⟨b, off + pc * 5 + 4, none⟩ = some (.int .u64 x.a)) (go_keep) (fail)
        have hJ : Hid (∀ o, J t' (W2.alloc o).drew) := Lib.hid fun o => by
          have := ((HB2.out.alloc (o := o) (HB2.out.size)).trans (c := (W2.alloc o).drew) ⟨rfl, rfl, rfl, Nat.le_refl _, fun _ _ => rfl⟩)
          exact HT.out.moved HJ.out this
        by_cases hk : x.k ≤ 2
        · have F : Hid (∀ o, J (rest code t) (W2.alloc o).drew) := Lib.hid fun o => by
            have hr := rest_at (code := code) HD.out hp0 (by rw [HPC.out]; omega) (by rw [HX.out]; exact hk)
            rw [← HR.out, hr]
            exact hJ.out o
          go_wp2
          exact bodyPost_ret (results_none rfl _ _ _) rfl ⟨⟨_, rfl⟩, F.out _⟩
        · have hY2 := HY.out t' x _ (hJ.out (Obj.cells x.cells.toArray 55)) HD.out hp0 (by rw [HPC.out]; omega) HX.out (by omega)
          obtain ⟨fn, tmps, assign, body, hy, hR⟩ := hY2
          have HRR := Lib.hid hR
          clear hR
          have HL : Hid (rest code (byItself t' x) = rest code t) := Lib.hid (by rw [← HR.out, rest_on HS.out HD.out hp0 (by rw [HPC.out]; omega) (by rw [HX.out]; omega), HX.out])
          have HM : Hid (left code (byItself t' x) < left code t') := Lib.hid (by have := byItself_left HS.out hp0 (by rw [HPC.out]; omega) HD.out; rw [HX.out] at this; exact this)
          simp only [Insn.cells, Insn.val] at hy HRR
          refine hK2 _ _ ?_
          refine (wpIn_wide (n := n + 1)).1 ?_
          gi_wp2
          refine HRR.out.mono ?_
          rintro e W3 ⟨rfl, hJ3⟩
          have HJ3 := Lib.hid hJ3
          have HMM : Hid (roundsLeft code g W3 < roundsLeft code g wr) := Lib.hid (by
            rw [roundsLeft_eq (HT.out.box hJ3) (HT.out.ok hJ3).1, roundsLeft_eq (HT.out.box HJ.out) h32]; exact HM.out)
          clear hJ3
          gi_wp2
          go_roundw
          case rel => exact ⟨byItself t' x, HJ3, HL⟩
          case measure => exact HMM.out
      · have hout : t'.pc < 0 ∨ t'.pc ≥ (code.length : Int) := by omega
        have hend := rest_out HD.out hout
        rw [HR.out] at hend
        have HE := Lib.hid hend
        clear hend
        obtain ⟨tl, ht1, hl1⟩ := tcells_list cv t' h32
        obtain ⟨tl2, ht2, hl2⟩ := tcells_list cv { t' with done := true, ans := -1 } h32
        have hu := Try.underlying42
        have hi1 : (Try.prog.info? 42).map (·.size) = some tl.length := by rw [hl1]; exact size_task
        have hi2 : (Try.prog.info? 42).map (·.size) = some tl2.length := by rw [hl2]; exact size_task
        have hone2 : ∀ v ∈ tl2, v.oneCell' = true := by
          have := tcells_one (t := { t' with done := true, ans := -1 }) hone
          rw [ht2] at this
          intro v hv
          exact Array.all_eq_true_iff_forall_mem.1 this v (by simpa using hv)
        have hbx : Box wr g 42 tl.toArray := by rw [← ht1]; exact HT.out.box HJ.out
        have HC : Hid (∀ (nq : Nat) (w1 : World), Below wr.heap.size (wr.drewN nq) w1 → w1.cell? ⟨gp, 0, none⟩ = some (.pointer (some ⟨g, 0, none⟩)) ∧ w1.there g 0 tl2.length ∧ (w1.setCells g 0 tl2).cell? ⟨gp, 0, none⟩ = some (.pointer (some ⟨g, 0, none⟩)) ∧ J (rest code t) (w1.setCells g 0 tl2)) := Lib.hid fun nq w1 hb => by
          have hB : Below wr.heap.size wr w1 := (below_drewN (Below.refl _ wr) nq).trans hb
          have hbx1 : Box w1 g 42 tl.toArray := hbx.kept hB
          have hp1 := (hB.cell (p := ⟨gp, 0, none⟩) (HT.out.plt HJ.out)).trans ep
          refine ⟨hp1, hbx1.thereAll (by simp [hl1, hl2]), ?_, ?_⟩
          · rw [World.cell?_setCells_out g tl2 0 w1 ⟨gp, 0, none⟩ (fun e => absurd e hne)]; exact hp1
          · rw [HE.out]
            have hok := HT.out.ok HJ.out
            exact HT.out.set (HT.out.moved HJ.out hB) ⟨hok.1, hok.2.1, hok.2.2.1, by unfold I64; constructor <;> (simp only; omega)⟩ (grown_setCells g tl2 0 w1) (by rw [ht2]; exact hbx1.setCells_all (by simp [hl1, hl2]))
        have HB := Lib.hid hbx
        clear hbx
        have HA : Hid (∀ w, Calls Try.prog 77 #[.agg tl.toArray, .int .i64 (-1)] w (fun e w' => e = .returned (.agg tl2.toArray) ∧ Below w.heap.size w w')) := Lib.hid fun w => ended_list h32 hone ht1 ht2
        have hcase : t'.pc < 0 ∨ (¬ t'.pc < 0 ∧ (code.length : Int) ≤ t'.pc) := by omega
        clear hin hout
        rcases hcase with hneg | ⟨hneg, hge⟩
        all_goals
          go_wp2_with fail
          go_quiet (fail)
          go_wp2_with fail
          rename_i nq _ _ _
          have c1 : (wr.drewN nq).drew.cell? ⟨gp, 0, none⟩ = some (.pointer (some ⟨g, 0, none⟩)) := ep
          refine wp_region_held_drew (S := fun w' => w'.cell? ⟨gp, 0, none⟩ = some (.pointer (some ⟨g, 0, none⟩))) (by kernel_rfl) c1 (fun hHeld => ?_)
          refine wpAnyH_take (i := 0) (v := .pointer (some ⟨g, 0, none⟩)) rfl (by kernel_rfl) (by kernel_rfl) (by kernel_rfl) (fun _ _ _ h => h) (Or.inl ⟨by rfl, fun w hw => ?_⟩) hHeld ?_
          · go_simp
          simp only [Act.put, List.setIfInBounds_toArray, List.set_cons_zero, List.set_cons_succ]
          refine wpAnyH_take (i := 1) (v := .pointer (some ⟨g, 0, none⟩)) rfl (by kernel_rfl) (by kernel_rfl) (by kernel_rfl) (fun _ _ _ h => h) (Or.inl ⟨by rfl, fun w hw => ?_⟩) hHeld ?_
          · go_simp
          simp only [Act.put, List.setIfInBounds_toArray, List.set_cons_zero, List.set_cons_succ]
          refine wpAnyH_take (i := 2) (v := .pointer (some ⟨g, 0, none⟩)) rfl (by kernel_rfl) (by kernel_rfl) (by kernel_rfl) (fun _ _ _ h => h) (Or.inl ⟨by rfl, fun w hw => ?_⟩) hHeld ?_
          · go_simp
          simp only [Act.put, List.setIfInBounds_toArray, List.set_cons_zero, List.set_cons_succ]
          refine wpAnyH_ready (rs := [3]) (by kernel_rfl) (by simp) ?_
          refine AllReadyH.cons rfl (fun K hK => ?_) AllReadyH.nil
          rw [if_pos (by rfl)]
          refine wp_load_row 42 _ rfl g rfl 42 _ (0, 0) _ HB.out hu rfl (size_task' (by simp [hl1])) ?_
          refine hK.out _ _ hHeld (fun _ => ?_)
          clear hK K
          simp only [Act.put, List.setIfInBounds_toArray, List.set_cons_zero, List.set_cons_succ]
          refine wpAnyH_ready (rs := [4]) (by kernel_rfl) (by simp) ?_
          refine AllReadyH.cons rfl (fun K hK => ?_) AllReadyH.nil
          go_simp
          refine (HA.out _).mono ?_
          rintro e w1 ⟨rfl, hb⟩
          obtain ⟨c2, th2, c3, hJ2⟩ := HC.out (nq + 1) w1 hb
          refine hK.out _ _ c2 (fun hHeld2 => ?_)
          clear hK K
          refine wpAnyH_ready (rs := [5]) (by kernel_rfl) (by simp) ?_
          refine AllReadyH.cons rfl (fun K hK => ?_) AllReadyH.nil
          go_simp
          refine hK.out _ _ c2 (fun _ => ?_)
          clear hK K
          refine wpAnyH_ready (rs := [6]) (by kernel_rfl) (by simp) ?_
          refine AllReadyH.cons rfl (fun K hK => ?_) AllReadyH.nil
          rw [if_pos (by rfl)]
          refine wp_store_mid 42 _ _ rfl g 0 tl2.toArray rfl rfl (by simpa using th2) (size_task' (by simp [hl2])) (all_oneCell_toArray hone2) ?_
          rw [List.toList_toArray]
          refine hK.out _ _ c3 (fun _ => ?_)
          clear hK K
          refine wpAnyH_done (by kernel_rfl) ?_ _
          simp only [Act.put, List.setIfInBounds_toArray, List.set_cons_zero, List.set_cons_succ]
          go_wp2
          exact bodyPost_ret (results_none rfl _ _ _) rfl ⟨⟨_, rfl⟩, hJ2⟩
end Go.Proofs.Ytpkelneimjmmkaa

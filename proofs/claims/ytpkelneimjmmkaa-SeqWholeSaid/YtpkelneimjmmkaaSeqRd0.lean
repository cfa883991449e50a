/- A step of one who reads. -/
import Derived.Test.YtpkelneimjmmkaaSeqWrt
namespace Go.Proofs.Ytpkelneimjmmkaa
open Go.RowKit

/-- A reader's program was begun, or was not. -/
structure Rst (X : Nat → Prop) (g gr gf : Nat) (w w' : World) (p : Plq) (cl call : List Value) (fs : Array Value) (T : FT) : Prop where
  ply : PlqB w' g p
  chg : Chg (fun j => j = gr ∨ j = gf) w w'
  rbox : Box w' gr 42 call.toArray
  fbox : Box w' gf 3 fs
  t : OffT X w' cl T
theorem Rst.drew {X : Nat → Prop} {g gr gf : Nat} {w w' : World} {p : Plq} {cl call : List Value} {fs : Array Value} {T : FT} (h : Rst X g gr gf w w' p cl call fs T) : Rst X g gr gf w w'.drew p cl call fs T :=
  ⟨⟨h.ply.box, h.ply.len⟩, h.chg.drew, h.rbox, h.fbox, h.t⟩
theorem drew_setCells (g : Nat) : ∀ (vs : List Value) (o : Nat) (w : World), (w.drew).setCells g o vs = (w.setCells g o vs).drew
  | [], _, _ => rfl
  | v :: vs, o, w => by
    simp only [World.setCells]
    rw [World.setCell_drew]
    exact drew_setCells g vs (o + 1) _
/-- Words stay where a cell that is no word is written. -/
theorem Words.other {w : World} {v : Value} {ms : List Int} (h : Words w v ms) {a : Addr} {u u' : Value} (ha : w.cell? a = some u) (hu : ∀ x, u ≠ .int .u64 x) : Words (w.setCell a u') v ms := by
  obtain ⟨⟨hl, A, c, e, h1, h2, h0, h3⟩, hw⟩ := h
  refine ⟨⟨hl, A, c, e, h1, h2, h0, fun hn => ?_⟩, hw⟩
  obtain ⟨ad, e1, hb, hc⟩ := h3 hn
  refine ⟨ad, e1, by simpa using hb, fun j y hy => ?_⟩
  have h4 := hc j y hy
  refine (World.cell?_setCell_other _ _ _ _ ?_).trans h4
  · intro e2
    rw [← e2, ha] at h4
    injection h4 with h4
    have hm : y ∈ u64s ms := List.mem_of_getElem? hy
    simp only [u64s, List.mem_map] at hm
    obtain ⟨x, _, rfl⟩ := hm
    exact hu x h4
theorem Chg.undrew {X : Nat → Prop} {w w' : World} (h : Chg X w.drew w') : Chg X w w' := ⟨h.os, h.tape, h.output, h.size, h.block⟩
theorem PlqB.drew {w : World} {g : Nat} {p : Plq} (h : PlqB w g p) : PlqB w.drew g p := ⟨h.box, h.len⟩

set_option maxHeartbeats 16000000 in
set_option maxRecDepth 20000 in
theorem reader0_call {base g gr gf n k s : Nat} {w0 w : World} {p : Plq} {c0 c1 : List Value} {m : List Int} {D : Nat} {wr : FT} {F0 F1 : Nat} {T0 T1 : FT} (h : QlyI base g gr gf w0 w n k s p c0 c1 m D wr F0 F1 T0 T1)
    (hn1 : 1 ≤ n) (hn : n ≤ 28) (hk1 : 1 ≤ k) (hk : k ≤ 6) (hs : s < 500) :
    Calls Try.prog 55 #[.pointer (some ⟨g, 0, none⟩), .int .i64 0] w (fun e w' => e = .returned (.tuple #[]) ∧ ∃ p' c0' c1' m' D' wr' F0' F1' T0' T1', QlyI base g gr gf w0 w' n k (s + 1) p' c0' c1' m' D' wr' F0' F1' T0' T1') := by
  have HI := Lib.hid h
  obtain ⟨X, hX⟩ : ∃ X, X = Our g gr gf := ⟨_, rfl⟩
  have HXX := Lib.hid hX
  have HXB : Hid (∀ k, X k → k < w.heap.size) := Lib.hid (by rw [hX]; exact h.lt)
  have HXG : Hid (X g ∧ X gr ∧ X gf) := Lib.hid (by rw [hX]; exact ⟨.inl rfl, .inr (.inl rfl), .inr (.inr rfl)⟩)
  obtain ⟨len0, one0, x34, _⟩ := h.t0.size
  obtain ⟨lenj, _, _, _⟩ := h.t1.size
  have HLI := Lib.hid len0
  have HLJ := Lib.hid lenj
  have HRB : Hid (∀ W cl, cl.length = 36 → Box W gr 42 (cl ++ c1).toArray → W.rangeAt gr 0 cl) := Lib.hid fun W cl hl hb => Box.midRange (A := []) (C := c1) (by simpa using hb) rfl
  have HRS : Hid (∀ W cl cl', cl.length = 36 → cl'.length = 36 → Box W gr 42 (cl ++ c1).toArray → Box (W.setCells gr 0 cl') gr 42 (cl' ++ c1).toArray) := Lib.hid fun W cl cl' hl hl' hb => by
    have := Box.midSet (A := []) (B := cl) (C := c1) (vs := cl') (o := 0) (by simpa using hb) rfl (by omega)
    simpa using this
  have HRT : Hid (∀ W cl, cl.length = 36 → Box W gr 42 (cl ++ c1).toArray → W.there gr 0 36) := Lib.hid fun W cl hl hb => hb.midThere (by have := HLJ.out; simp; omega)
  have a42 : w.cell? ⟨g, 42, none⟩ = some (.slice (some ⟨gr, 0, none⟩) 2 2) := (h.ply.high 0).trans (by simp [h.vr_is])
  obtain ⟨bd, hbd⟩ : ∃ bd, bd = T0.t.done := ⟨_, rfl⟩
  have a34 : w.cell? ⟨gr, 34, none⟩ = some (.bool bd) := (HRB.out w c0 len0 h.rbox 34 _ (by rw [hbd]; exact x34))
  have HBD := Lib.hid hbd
  clear hbd
  obtain ⟨T9, hT9⟩ : ∃ T9, T9 = if T0.t.done then startT (tryC 2 (n : Int) (k : Int)) else T0 := ⟨_, rfl⟩
  obtain ⟨F9, hF9⟩ : ∃ F9, F9 = if T0.t.done then D else F0 := ⟨_, rfl⟩
  have HT9 := Lib.hid hT9
  have HF9 := Lib.hid hF9
  have hlaw := qt_reader hn1 hn hk1 hk h.law.len h.law.writes h.law.one
  simp only at hlaw
  rw [← hT9, ← hF9] at hlaw
  have HLAW := Lib.hid hlaw
  have hDs : D ≤ s := h.few
  have hne1 : g ≠ gr := h.ne1
  have hne2 : g ≠ gf := h.ne2
  have hne3 : gr ≠ gf := h.ne3
  clear hX h x34 hT9 hF9 hlaw len0 one0 lenj
  go_enter Try.func55, Try.ntmps55
  go_upto_if 16 with fail
  go_cut [] (fun wx => ∃ cl : List Value, Hid (Rst X g gr gf w wx p cl (cl ++ c1) #[.int .i64 (F9 : Int), .int .i64 (F1 : Int)] T9))
  case first =>
    cases bd with
    | true =>
      have HT10 : Hid (T9 = startT (tryC 2 (n : Int) (k : Int))) := Lib.hid (by rw [HT9.out, if_pos HBD.out.symm])
      have HF10 : Hid (F9 = D) := Lib.hid (by rw [HF9.out, if_pos HBD.out.symm])
      go_wp2_with fail
      refine wp_at fun W1 hW1 => ?_
      have PB1 : Hid (PlqB W1 g p) := Lib.hid (by rw [hW1]; exact HI.out.ply)
      have RB1 : Hid (Box W1 gr 42 (c0 ++ c1).toArray) := Lib.hid (by rw [hW1]; exact HI.out.rbox)
      have FB1 : Hid (Box W1 gf 3 #[.int .i64 (F0 : Int), .int .i64 (F1 : Int)]) := Lib.hid (by rw [hW1]; exact HI.out.fbox)
      have CH1 : Hid (Chg (fun j => j = gr ∨ j = gf) w W1) := Lib.hid (by rw [hW1]; exact Chg.refl _ _)
      have HXB1 : Hid (∀ k, X k → k < W1.heap.size) := Lib.hid (by rw [hW1]; exact HXB.out)
      clear hW1 a42 a34
      have HSW : Hid (∀ V, PlqB V g p → V.cell? ⟨g, 1, none⟩ = some (.int .i64 2) ∧ V.cell? ⟨g, 2, none⟩ = some (.int .i64 (n : Int)) ∧ V.cell? ⟨g, 3, none⟩ = some (.int .i64 (k : Int)) ∧ V.cell? ⟨g, 42, none⟩ = some (.slice (some ⟨gr, 0, none⟩) 2 2)) := Lib.hid fun V hp =>
        ⟨(hp.low 1 (by omega)).trans (by simp [HI.out.b_is]), (hp.low 2 (by omega)).trans (by simp [HI.out.n_is]), (hp.low 3 (by omega)).trans (by simp [HI.out.k_is]), (hp.high 0).trans (by simp [HI.out.vr_is])⟩
      refine wp_region_held_drew (S := fun V => V.cell? ⟨g, 1, none⟩ = some (.int .i64 2) ∧ V.cell? ⟨g, 2, none⟩ = some (.int .i64 (n : Int)) ∧ V.cell? ⟨g, 3, none⟩ = some (.int .i64 (k : Int)) ∧ V.cell? ⟨g, 42, none⟩ = some (.slice (some ⟨gr, 0, none⟩) 2 2)) (by kernel_rfl) (HSW.out W1 PB1.out) (fun hHeld => ?_)
      refine take_at (i := 0) (v := .pointer (some ⟨g, 0, none⟩)) rfl rfl (by kernel_rfl) (by kernel_rfl) (by kernel_rfl) (fun _ _ _ h => h) (Or.inl ⟨by rfl, fun w hw => ?_⟩) hHeld ?_
      · go_simp
      simp only [List.setIfInBounds_toArray, List.set_cons_zero, List.set_cons_succ]
      refine take_at (i := 1) (v := .pointer (some ⟨g, 0, none⟩)) rfl rfl (by kernel_rfl) (by kernel_rfl) (by kernel_rfl) (fun _ _ _ h => h) (Or.inl ⟨by rfl, fun w hw => ?_⟩) hHeld ?_
      · go_simp
      simp only [List.setIfInBounds_toArray, List.set_cons_zero, List.set_cons_succ]
      refine take_at (i := 2) (v := .pointer (some ⟨g, 42, none⟩)) rfl rfl (by kernel_rfl) (by kernel_rfl) (by kernel_rfl) (fun _ _ _ h => h) (Or.inl ⟨by rfl, fun w hw => ?_⟩) hHeld ?_
      · go_simp
      simp only [List.setIfInBounds_toArray, List.set_cons_zero, List.set_cons_succ]
      refine take_at (i := 3) (v := .slice (some ⟨gr, 0, none⟩) 2 2) rfl rfl (by kernel_rfl) (by kernel_rfl) (by kernel_rfl) (fun _ _ _ h => h) (Or.inl ⟨by rfl, fun w hw => ?_⟩) hHeld ?_
      · have h0 := hw.2.2.2; go_simp
      simp only [List.setIfInBounds_toArray, List.set_cons_zero, List.set_cons_succ]
      refine take_at (i := 4) (v := .int .i64 0) rfl rfl (by kernel_rfl) (by kernel_rfl) (by kernel_rfl) (fun _ _ _ h => h) (Or.inl ⟨by rfl, fun w hw => ?_⟩) hHeld ?_
      · go_simp
      simp only [List.setIfInBounds_toArray, List.set_cons_zero, List.set_cons_succ]
      refine take_at (i := 5) (v := .pointer (some ⟨g, 0, none⟩)) rfl rfl (by kernel_rfl) (by kernel_rfl) (by kernel_rfl) (fun _ _ _ h => h) (Or.inl ⟨by rfl, fun w hw => ?_⟩) hHeld ?_
      · go_simp
      simp only [List.setIfInBounds_toArray, List.set_cons_zero, List.set_cons_succ]
      refine take_at (i := 6) (v := .pointer (some ⟨g, 0, none⟩)) rfl rfl (by kernel_rfl) (by kernel_rfl) (by kernel_rfl) (fun _ _ _ h => h) (Or.inl ⟨by rfl, fun w hw => ?_⟩) hHeld ?_
      · go_simp
      simp only [List.setIfInBounds_toArray, List.set_cons_zero, List.set_cons_succ]
      refine take_at (i := 7) (v := .pointer (some ⟨g, 1, none⟩)) rfl rfl (by kernel_rfl) (by kernel_rfl) (by kernel_rfl) (fun _ _ _ h => h) (Or.inl ⟨by rfl, fun w hw => ?_⟩) hHeld ?_
      · go_simp
      simp only [List.setIfInBounds_toArray, List.set_cons_zero, List.set_cons_succ]
      refine take_at (i := 8) (v := .int .i64 2) rfl rfl (by kernel_rfl) (by kernel_rfl) (by kernel_rfl) (fun _ _ _ h => h) (Or.inl ⟨by rfl, fun w hw => ?_⟩) hHeld ?_
      · have h0 := hw.1; go_simp
      simp only [List.setIfInBounds_toArray, List.set_cons_zero, List.set_cons_succ]
      refine take_at (i := 9) (v := .pointer (some ⟨g, 0, none⟩)) rfl rfl (by kernel_rfl) (by kernel_rfl) (by kernel_rfl) (fun _ _ _ h => h) (Or.inl ⟨by rfl, fun w hw => ?_⟩) hHeld ?_
      · go_simp
      simp only [List.setIfInBounds_toArray, List.set_cons_zero, List.set_cons_succ]
      refine take_at (i := 10) (v := .pointer (some ⟨g, 0, none⟩)) rfl rfl (by kernel_rfl) (by kernel_rfl) (by kernel_rfl) (fun _ _ _ h => h) (Or.inl ⟨by rfl, fun w hw => ?_⟩) hHeld ?_
      · go_simp
      simp only [List.setIfInBounds_toArray, List.set_cons_zero, List.set_cons_succ]
      refine take_at (i := 11) (v := .pointer (some ⟨g, 2, none⟩)) rfl rfl (by kernel_rfl) (by kernel_rfl) (by kernel_rfl) (fun _ _ _ h => h) (Or.inl ⟨by rfl, fun w hw => ?_⟩) hHeld ?_
      · go_simp
      simp only [List.setIfInBounds_toArray, List.set_cons_zero, List.set_cons_succ]
      refine take_at (i := 12) (v := .int .i64 (n : Int)) rfl rfl (by kernel_rfl) (by kernel_rfl) (by kernel_rfl) (fun _ _ _ h => h) (Or.inl ⟨by rfl, fun w hw => ?_⟩) hHeld ?_
      · have h0 := hw.2.1; go_simp
      simp only [List.setIfInBounds_toArray, List.set_cons_zero, List.set_cons_succ]
      refine take_at (i := 13) (v := .pointer (some ⟨g, 0, none⟩)) rfl rfl (by kernel_rfl) (by kernel_rfl) (by kernel_rfl) (fun _ _ _ h => h) (Or.inl ⟨by rfl, fun w hw => ?_⟩) hHeld ?_
      · go_simp
      simp only [List.setIfInBounds_toArray, List.set_cons_zero, List.set_cons_succ]
      refine take_at (i := 14) (v := .pointer (some ⟨g, 0, none⟩)) rfl rfl (by kernel_rfl) (by kernel_rfl) (by kernel_rfl) (fun _ _ _ h => h) (Or.inl ⟨by rfl, fun w hw => ?_⟩) hHeld ?_
      · go_simp
      simp only [List.setIfInBounds_toArray, List.set_cons_zero, List.set_cons_succ]
      refine take_at (i := 15) (v := .pointer (some ⟨g, 3, none⟩)) rfl rfl (by kernel_rfl) (by kernel_rfl) (by kernel_rfl) (fun _ _ _ h => h) (Or.inl ⟨by rfl, fun w hw => ?_⟩) hHeld ?_
      · go_simp
      simp only [List.setIfInBounds_toArray, List.set_cons_zero, List.set_cons_succ]
      refine take_at (i := 16) (v := .int .i64 (k : Int)) rfl rfl (by kernel_rfl) (by kernel_rfl) (by kernel_rfl) (fun _ _ _ h => h) (Or.inl ⟨by rfl, fun w hw => ?_⟩) hHeld ?_
      · have h0 := hw.2.2.1; go_simp
      simp only [List.setIfInBounds_toArray, List.set_cons_zero, List.set_cons_succ]
      refine wpAnyH_ready (rs := [17]) (by kernel_rfl) (by simp) ?_
      refine AllReadyH.cons rfl (fun KQ hKQ => ?_) AllReadyH.nil
      go_simp
      refine (try_own 2 (n : Int) (k : Int) _).mono ?_
      rintro e V8 ⟨v6, rfl, hi6, hb6⟩
      have HB8 : Hid (Below W1.heap.size W1 V8) := Lib.hid ⟨hb6.os, hb6.tape, hb6.output, hb6.size, hb6.block⟩
      have HI6 : Hid (OwnI V8 W1.heap.size v6 (tryC 2 (n : Int) (k : Int))) := Lib.hid hi6
      refine hKQ.out _ _ (HSW.out _ (PB1.out.kept HB8.out)) (fun hHeld => ?_)
      clear hKQ KQ hi6 hb6
      refine wpAnyH_ready (rs := [18]) (by kernel_rfl) (by simp) ?_
      refine AllReadyH.cons rfl (fun KQ hKQ => ?_) AllReadyH.nil
      go_simp
      refine (start_call HI6.out.inss).mono ?_
      rintro e V9 ⟨rfl, hb7⟩
      have HB9 : Hid (Below W1.heap.size W1 V9) := Lib.hid (below_call HB8.out hb7 HB8.out.size)
      have hot := OffT.start (X := X) (w := V9) (HI6.out.kept hb7) HXB1.out rfl
      generalize tcells (startCv _ _) (startT _).t = C7 at *
      obtain ⟨cl7, rfl⟩ : ∃ l : List Value, C7 = l.toArray := ⟨C7.toList, by simp⟩
      have hot2 : OffT X V9 cl7 (startT (tryC 2 (n : Int) (k : Int))) := hot
      have hsz := hot2.size
      have HOT := Lib.hid hot2
      have HSZ7 := Lib.hid hsz.1
      have HONE7 := Lib.hid hsz.2.1
      refine hKQ.out _ _ (HSW.out _ (PB1.out.kept HB9.out)) (fun hHeld => ?_)
      clear hKQ KQ hb7 hot hot2 hsz
      refine take_at (i := 19) (v := .pointer (some ⟨gr, 0, none⟩)) rfl rfl (by kernel_rfl) (by kernel_rfl) (by kernel_rfl) (fun _ _ _ h => h) (Or.inl ⟨by rfl, fun w hw => ?_⟩) hHeld ?_
      · go_simp
      simp only [List.setIfInBounds_toArray, List.set_cons_zero, List.set_cons_succ]
      refine wpAnyH_ready (rs := [20]) (by kernel_rfl) (by simp) ?_
      refine AllReadyH.cons rfl (fun KQ hKQ => ?_) AllReadyH.nil
      rw [if_pos (by rfl)]
      refine wp_store_mid 42 _ _ rfl gr 0 cl7.toArray rfl rfl (by rw [List.size_toArray, HSZ7.out]; exact HRT.out _ c0 HLI.out (RB1.out.kept HB9.out)) (by rw [List.size_toArray, HSZ7.out]; exact size_task) HONE7.out ?_
      have hP4 : PlqB (V9.setCells gr 0 cl7) g p := (PB1.out.kept HB9.out).chg (Chg.setCells (X := (· = gr)) rfl 0 cl7) hne1
      have hR4 : Box (V9.setCells gr 0 cl7) gr 42 (cl7 ++ c1).toArray := HRS.out _ c0 cl7 HLI.out HSZ7.out (RB1.out.kept HB9.out)
      have hFb4 : Box (V9.setCells gr 0 cl7) gf 3 #[.int .i64 (F0 : Int), .int .i64 (F1 : Int)] := (FB1.out.kept HB9.out).chg (Chg.setCells (X := (· = gr)) rfl 0 cl7) (fun e => hne3 e.symm)
      have hC4 : Chg (fun j => j = gr ∨ j = gf) w (V9.setCells gr 0 cl7) := CH1.out.trans ((Chg.of HB9.out).trans (Chg.setCells (.inl rfl) 0 cl7))
      have hO4 : OffT X (V9.setCells gr 0 cl7) cl7 T9 := by rw [HT10.out]; exact HOT.out.chg (Chg.setCells HXG.out.2.1 0 cl7)
      refine hKQ.out _ _ (HSW.out _ hP4) (fun hHeld => ?_)
      clear hKQ KQ
      refine wpAnyH_done (by kernel_rfl) ?_ _
      obtain ⟨W2, hW2⟩ : ∃ W2, W2 = V9.setCells gr 0 cl7 := ⟨_, rfl⟩
      rw [← hW2] at hP4 hR4 hFb4 hC4 hO4 ⊢
      have HP4 := Lib.hid hP4
      have HR4 := Lib.hid hR4
      have HFB4 := Lib.hid hFb4
      have HC4 := Lib.hid hC4
      have HO4 := Lib.hid hO4
      clear hP4 hR4 hFb4 hC4 hO4 hW2 hHeld
      have a43 : W2.cell? ⟨g, 43, none⟩ = some (.slice (some ⟨gf, 0, none⟩) 2 2) := (HP4.out.high 1).trans (by simp [HI.out.vf_is])
      have a5 : W2.cell? ⟨g, 5, none⟩ = some (.int .i64 (D : Int)) := (HP4.out.low 5 (by omega)).trans (by simp [HI.out.done_is])
      have af : W2.cell? ⟨gf, 0, none⟩ = some (.int .i64 (F0 : Int)) := HFB4.out.cell 0
      have aff := HFB4.out.frozen 0
      go_wp2_with fail
      go_still_tail 10, (by kernel_rfl)
      go_wp2_with fail
      have HF : Hid (Rst X g gr gf w (W2.setCell ⟨gf, 0, none⟩ (.int .i64 (D : Int))) p cl7 (cl7 ++ c1) #[.int .i64 (F9 : Int), .int .i64 (F1 : Int)] T9) := Lib.hid ⟨HP4.out.chg (Chg.setCell (X := (· = gf)) rfl _) hne2, HC4.out.trans (Chg.setCell (.inr rfl) _), HR4.out.chg (Chg.setCell (X := (· = gf)) rfl _) hne3, by have := HFB4.out.set_ 0 (.int .i64 (D : Int)); rw [HF10.out]; exact this, HO4.out.chg (Chg.setCell HXG.out.2.2 _)⟩
      go_meet
      case rel => exact ⟨_, by first | exact HF | exact (Lib.hid (HF.out.drew))⟩
    | false =>
      have HF : Hid (Rst X g gr gf w w p c0 (c0 ++ c1) #[.int .i64 (F9 : Int), .int .i64 (F1 : Int)] T9) := Lib.hid ⟨HI.out.ply, Chg.refl _ _, HI.out.rbox, by rw [HF9.out, if_neg (by rw [← HBD.out]; simp)]; exact HI.out.fbox, by rw [HT9.out, if_neg (by rw [← HBD.out]; simp), HXX.out]; exact HI.out.t0⟩
      go_wp2_with fail
      go_meet
      case rel => exact ⟨_, HF⟩
  case rest =>
    obtain ⟨cl2, HQ⟩ := hcut
    obtain ⟨w2, rfl⟩ : ∃ w2 : World, w2 = wc := ⟨_, rfl⟩
    have hl2 := HQ.out.t.size.1
    have HL2 := Lib.hid hl2
    have hi8 : (Try.prog.info? 42).map (·.size) = some cl2.length := by rw [hl2]; exact size_task
    have HI8 := Lib.hid hi8
    have HT1 : Hid (OffT X w2 cl2 T9) := Lib.hid HQ.out.t
    have HCX : Hid (Chg X w w2) := Lib.hid (HQ.out.chg.mono fun j _ e => by rcases e with rfl | rfl; exact HXG.out.2.1; exact HXG.out.2.2)
    have HM : Hid (OffW X w2 p.vm m) := Lib.hid (by have := HI.out.mem; rw [← HXX.out] at this; exact this.chg HCX.out)
    replace HXB : Hid (∀ k, X k → k < w2.heap.size) := Lib.hid fun k hk => by have h1 := HXB.out k hk; have h2 := HQ.out.chg.size; omega
    have HS : Hid (∀ W, Below w2.heap.size w2 W → W.rangeAt gr 0 cl2 ∧ W.cell? ⟨g, 0, none⟩ = some p.vm ∧ W.cell? ⟨g, 42, none⟩ = some (.slice (some ⟨gr, 0, none⟩) 2 2)) := Lib.hid fun W hW => by
      have hp := HQ.out.ply.kept hW
      exact ⟨HRB.out W cl2 HL2.out (HQ.out.rbox.kept hW), hp.low 0 (by omega), (hp.high 0).trans (by simp [HI.out.vr_is])⟩
    clear hi8 hl2 a42 a34
    go_upto_region 4 with fail
    go_cut [4, 5] (fun s4 v9 wx => ∃ (g12 : Nat) (cl : List Value), s4 = .pointer (some ⟨g12, 0, none⟩) ∧ Hid (Aft X w2 wx g12 cl v9 (stepT T9 m).1 (stepT T9 m).2))
    case first =>
      refine wp_region_held_drew (S := fun W => W.rangeAt gr 0 cl2 ∧ W.cell? ⟨g, 0, none⟩ = some p.vm ∧ W.cell? ⟨g, 42, none⟩ = some (.slice (some ⟨gr, 0, none⟩) 2 2)) (by kernel_rfl) (HS.out w2 (Below.refl _ _)) (fun hHeld => ?_)
      refine take_at (i := 0) (v := .pointer (some ⟨g, 0, none⟩)) rfl rfl (by kernel_rfl) (by kernel_rfl) (by kernel_rfl) (fun _ _ _ h => h) (Or.inl ⟨by rfl, fun w2 hw => ?_⟩) hHeld ?_
      · go_simp
      simp only [List.setIfInBounds_toArray, List.set_cons_zero, List.set_cons_succ]
      refine take_at (i := 1) (v := .pointer (some ⟨g, 0, none⟩)) rfl rfl (by kernel_rfl) (by kernel_rfl) (by kernel_rfl) (fun _ _ _ h => h) (Or.inl ⟨by rfl, fun w2 hw => ?_⟩) hHeld ?_
      · go_simp
      simp only [List.setIfInBounds_toArray, List.set_cons_zero, List.set_cons_succ]
      refine take_at (i := 2) (v := .pointer (some ⟨g, 42, none⟩)) rfl rfl (by kernel_rfl) (by kernel_rfl) (by kernel_rfl) (fun _ _ _ h => h) (Or.inl ⟨by rfl, fun w2 hw => ?_⟩) hHeld ?_
      · go_simp
      simp only [List.setIfInBounds_toArray, List.set_cons_zero, List.set_cons_succ]
      refine take_at (i := 3) (v := .slice (some ⟨gr, 0, none⟩) 2 2) rfl rfl (by kernel_rfl) (by kernel_rfl) (by kernel_rfl) (fun _ _ _ h => h) (Or.inl ⟨by rfl, fun w2 hw => ?_⟩) hHeld ?_
      · have h0 := hw.2.2; go_simp
      simp only [List.setIfInBounds_toArray, List.set_cons_zero, List.set_cons_succ]
      refine take_at (i := 4) (v := .int .i64 0) rfl rfl (by kernel_rfl) (by kernel_rfl) (by kernel_rfl) (fun _ _ _ h => h) (Or.inl ⟨by rfl, fun w2 hw => ?_⟩) hHeld ?_
      · go_simp
      simp only [List.setIfInBounds_toArray, List.set_cons_zero, List.set_cons_succ]
      refine take_at (i := 5) (v := .pointer (some ⟨gr, 0, none⟩)) rfl rfl (by kernel_rfl) (by kernel_rfl) (by kernel_rfl) (fun _ _ _ h => h) (Or.inl ⟨by rfl, fun w2 hw => ?_⟩) hHeld ?_
      · go_simp
      simp only [List.setIfInBounds_toArray, List.set_cons_zero, List.set_cons_succ]
      refine take_at (i := 6) (v := .agg cl2.toArray) rfl rfl (by kernel_rfl) (by kernel_rfl) (by kernel_rfl) (fun _ _ _ h => h)
        (yieldsIf_load_mid (by rfl) 42 _ rfl gr (0) rfl cl2 _ (fun _ h => h.1) Try.underlying42 rfl HI8.out) hHeld ?_
      simp only [List.setIfInBounds_toArray, List.set_cons_zero, List.set_cons_succ]
      refine take_at (i := 7) (v := .pointer (some ⟨g, 0, none⟩)) rfl rfl (by kernel_rfl) (by kernel_rfl) (by kernel_rfl) (fun _ _ _ h => h) (Or.inl ⟨by rfl, fun w2 hw => ?_⟩) hHeld ?_
      · go_simp
      simp only [List.setIfInBounds_toArray, List.set_cons_zero, List.set_cons_succ]
      refine take_at (i := 8) (v := .pointer (some ⟨g, 0, none⟩)) rfl rfl (by kernel_rfl) (by kernel_rfl) (by kernel_rfl) (fun _ _ _ h => h) (Or.inl ⟨by rfl, fun w2 hw => ?_⟩) hHeld ?_
      · go_simp
      simp only [List.setIfInBounds_toArray, List.set_cons_zero, List.set_cons_succ]
      refine take_at (i := 9) (v := .pointer (some ⟨g, 0, none⟩)) rfl rfl (by kernel_rfl) (by kernel_rfl) (by kernel_rfl) (fun _ _ _ h => h) (Or.inl ⟨by rfl, fun w2 hw => ?_⟩) hHeld ?_
      · go_simp
      simp only [List.setIfInBounds_toArray, List.set_cons_zero, List.set_cons_succ]
      refine take_at (i := 10) (v := p.vm) rfl rfl (by kernel_rfl) (by kernel_rfl) (by kernel_rfl) (fun _ _ _ h => h) (Or.inl ⟨by rfl, fun w2 hw => ?_⟩) hHeld ?_
      · have h0 := hw.2.1; go_simp
      simp only [List.setIfInBounds_toArray, List.set_cons_zero, List.set_cons_succ]
      refine any_at fun W6 hW6 => ?_
      have HD0 : Hid (Below w2.heap.size w2 W6) := Lib.hid (by rw [hW6]; exact ⟨rfl, rfl, rfl, Nat.le_refl _, fun _ _ => rfl⟩)
      replace hHeld := HS.out _ HD0.out
      clear hW6
      refine wpAnyH_ready (rs := [11, 15]) (by kernel_rfl) (by simp) ?_
      refine AllReadyH.cons rfl (fun KQ hKQ => ?_) (AllReadyH.cons rfl (fun KQ hKQ => ?_) AllReadyH.nil)
      · go_simp
        refine (step_call (HT1.out.chg (Chg.of HD0.out)).task (HM.out.chg (Chg.of HD0.out)).words).mono ?_
        rintro e wb1 ⟨v8, v9, rfl, ht9, ho9, hb9⟩
        have hT9 := ht9 wb1 ((HT1.out.chg (Chg.of HD0.out)).chg (Chg.of hb9)).task
        obtain ⟨cl9, rfl, hsz9, hone9, _, _, _⟩ := hT9.list
        have HSZ9 := Lib.hid hsz9
        have HONE9 := Lib.hid hone9
        have HA9 := Lib.hid ht9
        have HM9 : Hid (Own wb1 w2.heap.size v9 (stepT T9 m).2) := Lib.hid ⟨row_base ho9.1 HD0.out.size, ho9.2⟩
        have HD1 : Hid (Below w2.heap.size w2 wb1) := Lib.hid (below_call HD0.out hb9 HD0.out.size)
        clear ht9 ho9 hT9 hsz9 hone9
        refine hKQ.out _ _ (HS.out _ HD1.out) (fun hHeld => ?_)
        clear hKQ KQ hb9
        refine take_at (i := 12) (v := .tuple #[.agg cl9.toArray, v9]) rfl rfl (by kernel_rfl) (by kernel_rfl) (by kernel_rfl) (fun _ _ _ h => h) (Or.inl ⟨by rfl, fun w2 hw => ?_⟩) hHeld ?_
        · go_simp
        simp only [List.setIfInBounds_toArray, List.set_cons_zero, List.set_cons_succ]
        refine take_at (i := 13) (v := .agg cl9.toArray) rfl rfl (by kernel_rfl) (by kernel_rfl) (by kernel_rfl) (fun _ _ _ h => h) (Or.inl ⟨by rfl, fun w2 hw => ?_⟩) hHeld ?_
        · go_simp
        simp only [List.setIfInBounds_toArray, List.set_cons_zero, List.set_cons_succ]
        refine take_at (i := 14) (v := v9) rfl rfl (by kernel_rfl) (by kernel_rfl) (by kernel_rfl) (fun _ _ _ h => h) (Or.inl ⟨by rfl, fun w2 hw => ?_⟩) hHeld ?_
        · go_simp
        simp only [List.setIfInBounds_toArray, List.set_cons_zero, List.set_cons_succ]
        refine wpAnyH_ready (rs := [15]) (by kernel_rfl) (by simp) ?_
        refine AllReadyH.cons rfl (fun KQ hKQ => ?_) AllReadyH.nil
        go_simp
        refine hKQ.out _ _ (HS.out _ (HD1.out.alloc HD1.out.size _)) (fun hHeld0 => ?_)
        clear hKQ KQ hHeld0
        refine any_at fun wb2 hwb2 => ?_
        have hxz : ∃ Z, Box wb2 wb1.heap.size 42 Z ∧ Z.size = 36 := by rw [hwb2]; exact ⟨_, Box.new _ _ _, rfl⟩
        obtain ⟨Z12, hxz1, hxz2⟩ := hxz
        have HX12 := Lib.hid hxz1
        have HZ12 := Lib.hid hxz2
        have HD2 : Hid (Below w2.heap.size w2 wb2) := Lib.hid (by rw [hwb2]; exact HD1.out.alloc HD1.out.size _)
        have HG12 : Hid (w2.heap.size ≤ wb1.heap.size) := Lib.hid HD1.out.size
        have HNE : Hid (∀ k, v9.ownBlock = some k → k ≠ wb1.heap.size) := Lib.hid (fun k hk => by have := (HM9.out.1.lt k hk).2; omega)
        replace HM9 : Hid (Own wb2 w2.heap.size v9 (stepT T9 m).2) := Lib.hid (by rw [hwb2]; exact ⟨HM9.out.1.alloc _, HM9.out.2⟩)
        have hHeld := HS.out _ HD2.out
        clear hwb2 hxz1 hxz2
        generalize wb1.heap.size = g12 at *
        refine wpAnyH_ready (rs := [16]) (by kernel_rfl) (by simp) ?_
        refine AllReadyH.cons rfl (fun KQ hKQ => ?_) AllReadyH.nil
        rw [if_pos (by rfl)]
        refine wp_store_mid 42 _ _ rfl g12 0 cl9.toArray rfl rfl (HX12.out.thereAll (by simp [HSZ9.out, HZ12.out])) (by rw [List.size_toArray, HSZ9.out]; exact size_task) HONE9.out ?_
        have hbx : Box (wb2.setCells g12 0 cl9) g12 42 cl9.toArray := HX12.out.setCells_all (by simp [HSZ9.out, HZ12.out])
        have hbf : Below w2.heap.size w2 (wb2.setCells g12 0 cl9) := Below.setCells HD2.out HD2.out.size HG12.out _ _
        have hot : OffT X (wb2.setCells g12 0 cl9) cl9 (stepT T9 m).1 := (HT1.out.chg (Chg.of hbf)).step HA9.out
        have hom : OffW X (wb2.setCells g12 0 cl9) v9 (stepT T9 m).2 := OffW.new (own_setCells_off HM9.out HNE.out _ _) HXB.out
        refine hKQ.out _ _ (HS.out _ hbf) (fun hHeld => ?_)
        clear hKQ KQ
        refine wpAnyH_ready (rs := [17]) (by kernel_rfl) (by simp) ?_
        refine AllReadyH.cons rfl (fun KQ hKQ => ?_) AllReadyH.nil
        go_simp
        refine hKQ.out _ _ (HS.out _ hbf) (fun hHeld => ?_)
        clear hKQ KQ
        refine wpAnyH_done (by kernel_rfl) ?_ _
        have HAFT := Lib.hid (Aft.mk hbx HSZ9.out HONE9.out hot hom hbf HG12.out)
        clear hbx hbf hot hom
        go_wp2_with fail
        go_meet
        case rel => exact ⟨g12, cl9, rfl, HAFT⟩
      · go_simp
        refine hKQ.out _ _ (HS.out _ (HD0.out.alloc HD0.out.size _)) (fun hHeld0 => ?_)
        clear hKQ KQ hHeld0
        refine any_at fun wb1 hwb1 => ?_
        have hxz : ∃ Z, Box wb1 W6.heap.size 42 Z ∧ Z.size = 36 := by rw [hwb1]; exact ⟨_, Box.new _ _ _, rfl⟩
        obtain ⟨Z12, hxz1, hxz2⟩ := hxz
        have HX12 := Lib.hid hxz1
        have HZ12 := Lib.hid hxz2
        have HD1 : Hid (Below w2.heap.size w2 wb1) := Lib.hid (by rw [hwb1]; exact HD0.out.alloc HD0.out.size _)
        have HG12 : Hid (w2.heap.size ≤ W6.heap.size) := Lib.hid HD0.out.size
        have hHeld := HS.out _ HD1.out
        clear hwb1 hxz1 hxz2
        generalize W6.heap.size = g12 at *
        refine wpAnyH_ready (rs := [11]) (by kernel_rfl) (by simp) ?_
        refine AllReadyH.cons rfl (fun KQ hKQ => ?_) AllReadyH.nil
        go_simp
        refine (step_call (HT1.out.chg (Chg.of HD1.out)).task (HM.out.chg (Chg.of HD1.out)).words).mono ?_
        rintro e wb2 ⟨v8, v9, rfl, ht9, ho9, hb9⟩
        have hT9 := ht9 wb2 ((HT1.out.chg (Chg.of HD1.out)).chg (Chg.of hb9)).task
        obtain ⟨cl9, rfl, hsz9, hone9, _, _, _⟩ := hT9.list
        have HSZ9 := Lib.hid hsz9
        have HONE9 := Lib.hid hone9
        have HA9 := Lib.hid ht9
        have HM9 : Hid (Own wb2 w2.heap.size v9 (stepT T9 m).2) := Lib.hid ⟨row_base ho9.1 HD1.out.size, ho9.2⟩
        have HD2 : Hid (Below w2.heap.size w2 wb2) := Lib.hid (below_call HD1.out hb9 HD1.out.size)
        have HNE : Hid (∀ k, v9.ownBlock = some k → k ≠ g12) := Lib.hid (fun k hk => by have h1 := (ho9.1.lt k hk).1; have h2 := HX12.out.lt; omega)
        replace HX12 := Lib.hid (HX12.out.kept hb9)
        clear ht9 ho9 hT9 hsz9 hone9
        refine hKQ.out _ _ (HS.out _ HD2.out) (fun hHeld => ?_)
        clear hKQ KQ hb9
        refine take_at (i := 12) (v := .tuple #[.agg cl9.toArray, v9]) rfl rfl (by kernel_rfl) (by kernel_rfl) (by kernel_rfl) (fun _ _ _ h => h) (Or.inl ⟨by rfl, fun w2 hw => ?_⟩) hHeld ?_
        · go_simp
        simp only [List.setIfInBounds_toArray, List.set_cons_zero, List.set_cons_succ]
        refine take_at (i := 13) (v := .agg cl9.toArray) rfl rfl (by kernel_rfl) (by kernel_rfl) (by kernel_rfl) (fun _ _ _ h => h) (Or.inl ⟨by rfl, fun w2 hw => ?_⟩) hHeld ?_
        · go_simp
        simp only [List.setIfInBounds_toArray, List.set_cons_zero, List.set_cons_succ]
        refine take_at (i := 14) (v := v9) rfl rfl (by kernel_rfl) (by kernel_rfl) (by kernel_rfl) (fun _ _ _ h => h) (Or.inl ⟨by rfl, fun w2 hw => ?_⟩) hHeld ?_
        · go_simp
        simp only [List.setIfInBounds_toArray, List.set_cons_zero, List.set_cons_succ]
        refine wpAnyH_ready (rs := [16]) (by kernel_rfl) (by simp) ?_
        refine AllReadyH.cons rfl (fun KQ hKQ => ?_) AllReadyH.nil
        rw [if_pos (by rfl)]
        refine wp_store_mid 42 _ _ rfl g12 0 cl9.toArray rfl rfl (HX12.out.thereAll (by simp [HSZ9.out, HZ12.out])) (by rw [List.size_toArray, HSZ9.out]; exact size_task) HONE9.out ?_
        have hbx : Box (wb2.setCells g12 0 cl9) g12 42 cl9.toArray := HX12.out.setCells_all (by simp [HSZ9.out, HZ12.out])
        have hbf : Below w2.heap.size w2 (wb2.setCells g12 0 cl9) := Below.setCells HD2.out HD2.out.size HG12.out _ _
        have hot : OffT X (wb2.setCells g12 0 cl9) cl9 (stepT T9 m).1 := (HT1.out.chg (Chg.of hbf)).step HA9.out
        have hom : OffW X (wb2.setCells g12 0 cl9) v9 (stepT T9 m).2 := OffW.new (own_setCells_off HM9.out HNE.out _ _) HXB.out
        refine hKQ.out _ _ (HS.out _ hbf) (fun hHeld => ?_)
        clear hKQ KQ
        refine wpAnyH_ready (rs := [17]) (by kernel_rfl) (by simp) ?_
        refine AllReadyH.cons rfl (fun KQ hKQ => ?_) AllReadyH.nil
        go_simp
        refine hKQ.out _ _ (HS.out _ hbf) (fun hHeld => ?_)
        clear hKQ KQ
        refine wpAnyH_done (by kernel_rfl) ?_ _
        have HAFT := Lib.hid (Aft.mk hbx HSZ9.out HONE9.out hot hom hbf HG12.out)
        clear hbx hbf hot hom
        go_wp2_with fail
        go_meet
        case rel => exact ⟨g12, cl9, rfl, HAFT⟩
    case rest =>
      obtain ⟨g12, cl9, rfl, HA⟩ := hcut
      have HPL : Hid (PlqB wc g p) := Lib.hid (HQ.out.ply.kept HA.out.below)
      have HRBc : Hid (Box wc gr 42 (cl2 ++ c1).toArray) := Lib.hid (HQ.out.rbox.kept HA.out.below)
      have HFBc : Hid (Box wc gf 3 #[.int .i64 (F9 : Int), .int .i64 (F1 : Int)]) := Lib.hid (HQ.out.fbox.kept HA.out.below)
      obtain ⟨A9, p9, hv9, _, _⟩ := row_form HA.out.mem.1.1
      subst hv9
      have HNE : Hid (g12 ≠ g ∧ g12 ≠ gr) := Lib.hid ⟨by have h1 := HQ.out.ply.box.lt; have h2 := HA.out.new; omega, by have h1 := HQ.out.rbox.lt; have h2 := HA.out.new; omega⟩
      generalize hTT : (stepT T9 m).1 = T8 at *
      generalize hMM : (stepT T9 m).2 = m9 at *
      clear hTT hMM
      have hi9 : (Try.prog.info? 42).map (·.size) = some cl9.length := by rw [HA.out.len]; exact size_task
      have HI9 := Lib.hid hi9
      have HS4 : Hid (∀ W, Chg (· = gr) wc W → W.rangeAt g12 0 cl9 ∧ W.cell? ⟨g, 42, none⟩ = some (.slice (some ⟨gr, 0, none⟩) 2 2)) := Lib.hid fun W hW =>
        ⟨(HA.out.box.chg hW HNE.out.2).range, ((HPL.out.chg hW hne1).high 0).trans (by simp [HI.out.vr_is])⟩
      have HCH : Hid (Chg X w wc) := Lib.hid (HCX.out.trans (Chg.of HA.out.below))
      clear hi9
      go_wp2_with fail
      refine wp_region_held_drew (S := fun W => W.rangeAt g12 0 cl9 ∧ W.cell? ⟨g, 42, none⟩ = some (.slice (some ⟨gr, 0, none⟩) 2 2)) (by kernel_rfl) (HS4.out wc (Chg.refl _ _)) (fun hHeld => ?_)
      refine take_at (i := 0) (v := .pointer (some ⟨g, 0, none⟩)) rfl rfl (by kernel_rfl) (by kernel_rfl) (by kernel_rfl) (fun _ _ _ h => h) (Or.inl ⟨by rfl, fun w hw => ?_⟩) hHeld ?_
      · go_simp
      simp only [List.setIfInBounds_toArray, List.set_cons_zero, List.set_cons_succ]
      refine take_at (i := 1) (v := .pointer (some ⟨g, 0, none⟩)) rfl rfl (by kernel_rfl) (by kernel_rfl) (by kernel_rfl) (fun _ _ _ h => h) (Or.inl ⟨by rfl, fun w hw => ?_⟩) hHeld ?_
      · go_simp
      simp only [List.setIfInBounds_toArray, List.set_cons_zero, List.set_cons_succ]
      refine take_at (i := 2) (v := .pointer (some ⟨g, 42, none⟩)) rfl rfl (by kernel_rfl) (by kernel_rfl) (by kernel_rfl) (fun _ _ _ h => h) (Or.inl ⟨by rfl, fun w hw => ?_⟩) hHeld ?_
      · go_simp
      simp only [List.setIfInBounds_toArray, List.set_cons_zero, List.set_cons_succ]
      refine take_at (i := 3) (v := .slice (some ⟨gr, 0, none⟩) 2 2) rfl rfl (by kernel_rfl) (by kernel_rfl) (by kernel_rfl) (fun _ _ _ h => h) (Or.inl ⟨by rfl, fun w hw => ?_⟩) hHeld ?_
      · have h0 := hw.2; go_simp
      simp only [List.setIfInBounds_toArray, List.set_cons_zero, List.set_cons_succ]
      refine take_at (i := 4) (v := .int .i64 0) rfl rfl (by kernel_rfl) (by kernel_rfl) (by kernel_rfl) (fun _ _ _ h => h) (Or.inl ⟨by rfl, fun w hw => ?_⟩) hHeld ?_
      · go_simp
      simp only [List.setIfInBounds_toArray, List.set_cons_zero, List.set_cons_succ]
      refine take_at (i := 5) (v := .agg cl9.toArray) rfl rfl (by kernel_rfl) (by kernel_rfl) (by kernel_rfl) (fun _ _ _ h => h)
        (yieldsIf_load_mid (by rfl) 42 _ rfl g12 (0) rfl cl9 _ (fun _ h => h.1) Try.underlying42 rfl HI9.out) hHeld ?_
      simp only [List.setIfInBounds_toArray, List.set_cons_zero, List.set_cons_succ]
      refine take_at (i := 6) (v := .pointer (some ⟨gr, 0, none⟩)) rfl rfl (by kernel_rfl) (by kernel_rfl) (by kernel_rfl) (fun _ _ _ h => h) (Or.inl ⟨by rfl, fun w hw => ?_⟩) hHeld ?_
      · go_simp
      simp only [List.setIfInBounds_toArray, List.set_cons_zero, List.set_cons_succ]
      refine wpAnyH_ready (rs := [7]) (by kernel_rfl) (by simp) ?_
      refine AllReadyH.cons rfl (fun KQ hKQ => ?_) AllReadyH.nil
      rw [if_pos (by rfl)]
      refine wp_store_mid 42 _ _ rfl gr 0 cl9.toArray rfl rfl (by rw [List.size_toArray, HA.out.len]; exact HRT.out _ cl2 HL2.out HRBc.out) (by rw [List.size_toArray, HA.out.len]; exact size_task) HA.out.one ?_
      refine hKQ.out _ _ (HS4.out _ (by first | exact Chg.setCells (X := (· = gr)) rfl 0 cl9 | exact Chg.undrew (Chg.setCells (X := (· = gr)) rfl 0 cl9))) (fun hHeld => ?_)
      clear hKQ KQ
      refine wpAnyH_done (by kernel_rfl) ?_ _
      obtain ⟨W1, hW1⟩ : ∃ W1, W1 = World.setCells wc gr 0 cl9 := ⟨_, rfl⟩
      have hdr := drew_setCells gr cl9 0 wc
      (try rw [hdr])
      rw [← hW1]
      have PB1 : Hid (PlqB W1 g p) := Lib.hid (by rw [hW1]; exact HPL.out.chg (Chg.setCells (X := (· = gr)) rfl _ cl9) hne1)
      have RB1 : Hid (Box W1 gr 42 (cl9 ++ c1).toArray) := Lib.hid (by rw [hW1]; exact HRS.out _ cl2 cl9 HL2.out HA.out.len HRBc.out)
      have FB1 : Hid (Box W1 gf 3 #[.int .i64 (F9 : Int), .int .i64 (F1 : Int)]) := Lib.hid (by rw [hW1]; exact HFBc.out.chg (Chg.setCells (X := (· = gr)) rfl _ cl9) (fun e => hne3 e.symm))
      have BX1 : Hid (Box W1 g12 42 cl9.toArray) := Lib.hid (by rw [hW1]; exact HA.out.box.chg (Chg.setCells (X := (· = gr)) rfl _ cl9) HNE.out.2)
      have CH1 : Hid (Chg X wc W1) := Lib.hid (by rw [hW1]; exact Chg.setCells HXG.out.2.1 _ cl9)
      clear hW1 hdr
      have a0 : W1.cell? ⟨g, 0, none⟩ = some p.vm := PB1.out.low 0 (by omega)
      have f0 := PB1.out.fz 0
      go_wp2_with fail
      refine wp_at fun W2 hW2 => ?_
      have PB2 : Hid (PlqB W2 g { p with vm := .slice A9 m9.length p9 }) := Lib.hid (by rw [hW2]; first | exact PB1.out.putVm _ | exact (PB1.out.putVm _).drew)
      have CG2 : Hid (Chg (· = g) W1 W2) := Lib.hid (by rw [hW2]; first | exact Chg.setCell (X := (· = g)) rfl _ | exact (Chg.setCell (X := (· = g)) rfl _).drew)
      clear hW2 a0 f0
      have RB2 : Hid (Box W2 gr 42 (cl9 ++ c1).toArray) := Lib.hid (RB1.out.chg CG2.out (fun e => hne1 e.symm))
      have FB2 : Hid (Box W2 gf 3 #[.int .i64 (F9 : Int), .int .i64 (F1 : Int)]) := Lib.hid (FB1.out.chg CG2.out (fun e => hne2 e.symm))
      have BX2 : Hid (Box W2 g12 42 cl9.toArray) := Lib.hid (BX1.out.chg CG2.out HNE.out.1)
      have CX2 : Hid (Chg X wc W2) := Lib.hid (CH1.out.trans (CG2.out.mono fun j _ e => e ▸ HXG.out.1))
      have HTK : Hid (OffT X W2 cl9 T8) := Lib.hid (HA.out.task.chg CX2.out)
      have HMK : Hid (OffW X W2 (.slice A9 m9.length p9) m9) := Lib.hid (HA.out.mem.chg CX2.out)
      have FIN : Hid (∀ (W : World) (q2 : Plq), Chg (· = g) W2 W → PlqB W g q2 → q2.vm = .slice A9 m9.length p9 → q2.b = p.b → q2.n = p.n → q2.k = p.k → q2.dn = p.dn → q2.ok = true → q2.vr = p.vr → q2.vf = p.vf → q2.l = p.l →
          QlyI base g gr gf w0 W n k (s + 1) q2 cl9 c1 m9 D wr F9 F1 T8 T1) := Lib.hid fun W q2 hc hp e2 e3 e4 e5 e6 e7 e8 e9 e1 => by
        have hcx : Chg X W2 W := hc.mono fun j _ e => e ▸ HXG.out.1
        have hall : Chg (Our g gr gf) w W := HXX.out ▸ (HCH.out.trans (CX2.out.trans hcx))
        obtain ⟨l1, l2, l3, _⟩ := HLAW.out
        subst l1
        refine HI.out.next hall hp e3 e4 e5 (by rw [e6]; exact HI.out.done_is) e7 e8 e9 (RB2.out.chg hc (fun e => hne1 e.symm)) (FB2.out.chg hc (fun e => hne2 e.symm)) ?_ ?_ ?_ ?_ ?_ (by omega)
        · rw [e2, ← HXX.out]; exact HMK.out.chg hcx
        · rw [e1]; exact HI.out.t.chg hall
        · rw [← HXX.out]; exact HTK.out.chg hcx
        · exact HI.out.t1.chg hall
        · exact ⟨HI.out.law.len, HI.out.law.writes, l2, HI.out.law.two⟩
      have HS6 : Hid (∀ W, Below W2.heap.size W2 W → W.rangeAt g12 0 cl9 ∧ W.cell? ⟨g, 2, none⟩ = some (.int .i64 (n : Int))) := Lib.hid fun W hW =>
        ⟨(BX2.out.kept hW).range, ((PB2.out.kept hW).low 2 (by omega)).trans (by simp [HI.out.n_is])⟩
      have hii : I64 (n : Int) := by unfold I64; omega
      have HII := Lib.hid hii
      clear hii
      refine wp_region_held_drew (S := fun W => W.rangeAt g12 0 cl9 ∧ W.cell? ⟨g, 2, none⟩ = some (.int .i64 (n : Int))) (by kernel_rfl) (HS6.out W2 (Below.refl _ _)) (fun hHeld => ?_)
      refine take_at (i := 0) (v := .agg cl9.toArray) rfl rfl (by kernel_rfl) (by kernel_rfl) (by kernel_rfl) (fun _ _ _ h => h)
        (yieldsIf_load_mid (by rfl) 42 _ rfl g12 (0) rfl cl9 _ (fun _ h => h.1) Try.underlying42 rfl HI9.out) hHeld ?_
      simp only [List.setIfInBounds_toArray, List.set_cons_zero, List.set_cons_succ]
      refine take_at (i := 1) (v := .pointer (some ⟨g, 0, none⟩)) rfl rfl (by kernel_rfl) (by kernel_rfl) (by kernel_rfl) (fun _ _ _ h => h) (Or.inl ⟨by rfl, fun w hw => ?_⟩) hHeld ?_
      · go_simp
      simp only [List.setIfInBounds_toArray, List.set_cons_zero, List.set_cons_succ]
      refine take_at (i := 2) (v := .pointer (some ⟨g, 0, none⟩)) rfl rfl (by kernel_rfl) (by kernel_rfl) (by kernel_rfl) (fun _ _ _ h => h) (Or.inl ⟨by rfl, fun w hw => ?_⟩) hHeld ?_
      · go_simp
      simp only [List.setIfInBounds_toArray, List.set_cons_zero, List.set_cons_succ]
      refine take_at (i := 3) (v := .pointer (some ⟨g, 2, none⟩)) rfl rfl (by kernel_rfl) (by kernel_rfl) (by kernel_rfl) (fun _ _ _ h => h) (Or.inl ⟨by rfl, fun w hw => ?_⟩) hHeld ?_
      · go_simp
      simp only [List.setIfInBounds_toArray, List.set_cons_zero, List.set_cons_succ]
      refine take_at (i := 4) (v := .int .i64 (n : Int)) rfl rfl (by kernel_rfl) (by kernel_rfl) (by kernel_rfl) (fun _ _ _ h => h) (Or.inl ⟨by rfl, fun w hw => ?_⟩) hHeld ?_
      · have h0 := hw.2; go_simp
      simp only [List.setIfInBounds_toArray, List.set_cons_zero, List.set_cons_succ]
      refine wpAnyH_ready (rs := [5]) (by kernel_rfl) (by simp) ?_
      refine AllReadyH.cons rfl (fun KQ hKQ => ?_) AllReadyH.nil
      go_simp
      refine (taken_call (w := W2.drew) (show IsTask W2.drew _ T8 from HTK.out.task) HII.out).mono ?_
      rintro e W3 ⟨v8, rfl, ho8, hb8⟩
      have HB8 : Hid (Below W2.heap.size W2 W3) := Lib.hid ⟨hb8.os, hb8.tape, hb8.output, hb8.size, hb8.block⟩
      have HL8 := Lib.hid ho8
      refine hKQ.out _ _ (HS6.out _ HB8.out) (fun hHeld => ?_)
      clear hKQ KQ ho8 hb8
      obtain ⟨tv, htv⟩ : ∃ tv, tv = takenV T8 (n : Int) := ⟨_, rfl⟩
      obtain ⟨tb, htb⟩ : ∃ tb, tb = takenB T8 (n : Int) := ⟨_, rfl⟩
      rw [← htv, ← htb]
      have HTV := Lib.hid htv
      have HTB := Lib.hid htb
      clear htv htb
      refine take_at (i := 6) (v := .tuple #[.int .i64 tv, v8, .bool tb]) rfl rfl (by kernel_rfl) (by kernel_rfl) (by kernel_rfl) (fun _ _ _ h => h) (Or.inl ⟨by rfl, fun w hw => ?_⟩) hHeld ?_
      · go_simp
      simp only [List.setIfInBounds_toArray, List.set_cons_zero, List.set_cons_succ]
      refine take_at (i := 7) (v := .int .i64 tv) rfl rfl (by kernel_rfl) (by kernel_rfl) (by kernel_rfl) (fun _ _ _ h => h) (Or.inl ⟨by rfl, fun w hw => ?_⟩) hHeld ?_
      · go_simp
      simp only [List.setIfInBounds_toArray, List.set_cons_zero, List.set_cons_succ]
      refine take_at (i := 8) (v := v8) rfl rfl (by kernel_rfl) (by kernel_rfl) (by kernel_rfl) (fun _ _ _ h => h) (Or.inl ⟨by rfl, fun w hw => ?_⟩) hHeld ?_
      · go_simp
      simp only [List.setIfInBounds_toArray, List.set_cons_zero, List.set_cons_succ]
      refine take_at (i := 9) (v := .bool tb) rfl rfl (by kernel_rfl) (by kernel_rfl) (by kernel_rfl) (fun _ _ _ h => h) (Or.inl ⟨by rfl, fun w hw => ?_⟩) hHeld ?_
      · go_simp
      simp only [List.setIfInBounds_toArray, List.set_cons_zero, List.set_cons_succ]
      refine take_at (i := 10) (v := .int .i64 tv) rfl rfl (by kernel_rfl) (by kernel_rfl) (by kernel_rfl) (fun _ _ _ h => h) (Or.inl ⟨by rfl, fun w hw => ?_⟩) hHeld ?_
      · go_simp
      simp only [List.setIfInBounds_toArray, List.set_cons_zero, List.set_cons_succ]
      refine take_at (i := 11) (v := v8) rfl rfl (by kernel_rfl) (by kernel_rfl) (by kernel_rfl) (fun _ _ _ h => h) (Or.inl ⟨by rfl, fun w hw => ?_⟩) hHeld ?_
      · go_simp
      simp only [List.setIfInBounds_toArray, List.set_cons_zero, List.set_cons_succ]
      refine take_at (i := 12) (v := .bool tb) rfl rfl (by kernel_rfl) (by kernel_rfl) (by kernel_rfl) (fun _ _ _ h => h) (Or.inl ⟨by rfl, fun w hw => ?_⟩) hHeld ?_
      · go_simp
      simp only [List.setIfInBounds_toArray, List.set_cons_zero, List.set_cons_succ]
      refine wpAnyH_done (by kernel_rfl) ?_ _
      have PB3 : Hid (PlqB W3 g { p with vm := .slice A9 m9.length p9 }) := Lib.hid (PB2.out.kept HB8.out)
      cases hb : tb
      · have HF := Lib.hid (FIN.out W3 { p with vm := .slice A9 m9.length p9 } (Chg.of HB8.out) PB3.out rfl rfl rfl rfl rfl HI.out.ok_is rfl rfl rfl)
        go_wp2
        go_end0
        exact ⟨rfl, _, _, _, _, _, _, _, _, _, _, HF.out⟩
      · subst hb
        obtain ⟨l1, l2, l3, l4⟩ := HLAW.out
        obtain ⟨l5, l6⟩ := l4 HTB.out.symm
        have htv : tv = (D : Int) := HTV.out.trans l5
        have hl8 := HL8.out
        rw [l6] at hl8
        have HW8 := Lib.hid hl8
        have hF9D : F9 ≤ D := l3
        clear l1 l2 l3 l4 l5 l6 hl8
        subst htv
        have a44 : W3.cell? ⟨g, 44, none⟩ = some (.int .i64 p.whole) := PB3.out.high 2
        have a45 : W3.cell? ⟨g, 45, none⟩ = some (.bool true) := (PB3.out.high 3).trans (by simp [HI.out.ok_is])
        have a43 : W3.cell? ⟨g, 43, none⟩ = some (.slice (some ⟨gf, 0, none⟩) 2 2) := (PB3.out.high 1).trans (by simp [HI.out.vf_is])
        have a5 : W3.cell? ⟨g, 5, none⟩ = some (.int .i64 (D : Int)) := (PB3.out.low 5 (by omega)).trans (by simp [HI.out.done_is])
        have a2 : W3.cell? ⟨g, 2, none⟩ = some (.int .i64 (n : Int)) := (PB3.out.low 2 (by omega)).trans (by simp [HI.out.n_is])
        have af : W3.cell? ⟨gf, 0, none⟩ = some (.int .i64 (F9 : Int)) := (FB2.out.kept HB8.out).cell 0
        have f44 := PB3.out.fz 44
        have f45 := PB3.out.fz 45
        have hge : decide (F9 ≤ D) = true := decide_eq_true hF9D
        have hge2 : decide ((F9 : Int) ≤ (D : Int)) = true := decide_eq_true (by omega)
        go_wp2_with fail
        refine calls_at fun W4 hW4 => ?_
        have PB4 : Hid (PlqB W4 g { p with vm := .slice A9 m9.length p9, whole := wrap64 (p.whole + 1) }) := Lib.hid (by rw [hW4]; first | exact PB3.out.putWhole _ | exact (PB3.out.putWhole _).drew)
        have CG4 : Hid (Chg (· = g) W3 W4) := Lib.hid (by rw [hW4]; first | exact Chg.setCell (X := (· = g)) rfl _ | exact (Chg.setCell (X := (· = g)) rfl _).drew)
        have HW9 : Hid (Words W4 v8 (wordsQ n (D : Int))) := Lib.hid (by rw [hW4]; first | exact HW8.out.other a44 (fun x e => by cases e) | exact (HW8.out.other a44 (fun x e => by cases e)).drew)
        clear hW4 a44 a45 a43 a5 a2 af f44 f45 hge hge2
        refine (words15_call n hn (D : Int) (by omega) _).mono ?_
        rintro e W5 ⟨v10, rfl, ho10, hb10⟩
        have HO10 := Lib.hid ho10.words
        have HW10 := Lib.hid (HW9.out.below hb10)
        have PB5 : Hid (PlqB W5 g { p with vm := .slice A9 m9.length p9, whole := wrap64 (p.whole + 1) }) := Lib.hid (PB4.out.kept hb10)
        have CG5 : Hid (Chg (· = g) W3 W5) := Lib.hid (CG4.out.trans (Chg.of hb10))
        clear ho10 hb10
        go_wp2_with fail
        refine (same_call HW10.out HO10.out).mono ?_
        rintro e W6 ⟨rfl, hb11⟩
        rw [decide_eq_true rfl]
        have PB6 : Hid (PlqB W6 g { p with vm := .slice A9 m9.length p9, whole := wrap64 (p.whole + 1) }) := Lib.hid (PB5.out.kept hb11)
        have CG6 : Hid (Chg (· = g) W3 W6) := Lib.hid (CG5.out.trans (Chg.of hb11))
        clear hb11
        have a45 : W6.cell? ⟨g, 45, none⟩ = some (.bool p.ok) := PB6.out.high 3
        have f45 := PB6.out.fz 45
        have HF := Lib.hid (FIN.out (W6.setCell ⟨g, 45, none⟩ (.bool true)) { p with vm := .slice A9 m9.length p9, whole := wrap64 (p.whole + 1), ok := true } ((Chg.of HB8.out).trans (CG6.out.trans (Chg.setCell (X := (· = g)) rfl _))) (PB6.out.putOk true) rfl rfl rfl rfl rfl rfl rfl rfl rfl)
        go_wp2
        go_end0
        exact ⟨rfl, _, _, _, _, _, _, _, _, _, _, HF.out⟩
end Go.Proofs.Ytpkelneimjmmkaa

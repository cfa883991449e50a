/- A step of who writes. -/
import Derived.Test.YtpkelneimjmmkaaSeqP
import Derived.Deep.DeepCutAuto
import Derived.StillTailTactics
namespace Go.Proofs.Ytpkelneimjmmkaa
open Go.RowKit

/-- A program was begun, or was not. -/
structure Wst (X : Nat → Prop) (g : Nat) (w w' : World) (p q : Plq) (T : FT) : Prop where
  ply : PlqB w' g q
  chg : Chg (· = g) w w'
  t : OffT X w' q.l T
  vm : q.vm = p.vm
  b : q.b = p.b
  n : q.n = p.n
  k : q.k = p.k
  dn : q.dn = p.dn
  vr : q.vr = p.vr
  vf : q.vf = p.vf
  ok : q.ok = p.ok

set_option maxHeartbeats 16000000 in
set_option maxRecDepth 20000 in
theorem writer_call {base g gr gf n k s : Nat} {w0 w : World} {p : Plq} {c0 c1 : List Value} {m : List Int} {D : Nat} {wr : FT} {F0 F1 : Nat} {T0 T1 : FT} (h : QlyI base g gr gf w0 w n k s p c0 c1 m D wr F0 F1 T0 T1)
    (hn1 : 1 ≤ n) (hn : n ≤ 28) (hs : s < 500) :
    Calls Try.prog 54 #[.pointer (some ⟨g, 0, none⟩)] w (fun e w' => e = .returned (.tuple #[]) ∧ ∃ p' c0' c1' m' D' wr' F0' F1' T0' T1', QlyI base g gr gf w0 w' n k (s + 1) p' c0' c1' m' D' wr' F0' F1' T0' T1') := by
  have HI := Lib.hid h
  obtain ⟨X, hX⟩ : ∃ X, X = Our g gr gf := ⟨_, rfl⟩
  have HXX := Lib.hid hX
  have HXB : Hid (∀ k, X k → k < w.heap.size) := Lib.hid (by rw [hX]; exact h.lt)
  have HXG : Hid (X g) := Lib.hid (by rw [hX]; exact .inl rfl)
  obtain ⟨_, _, x34, _⟩ := h.t.size
  obtain ⟨bd, hbd⟩ : ∃ bd, bd = wr.t.done := ⟨_, rfl⟩
  have c40 : w.cell? ⟨g, 40, none⟩ = some (.bool bd) := (h.ply.mid 34 (by omega)).trans (by rw [hbd]; exact x34)
  have HBD := Lib.hid hbd
  clear hbd
  obtain ⟨T9, hT9⟩ : ∃ T9, T9 = if wr.t.done then startT (writeC 2 (2 * (D : Int)) (wordsQ n ((D : Int) + 1))) else wr := ⟨_, rfl⟩
  have HT9 := Lib.hid hT9
  have hlaw := qt_writer hn1 hn h.law
  simp only at hlaw
  rw [← hT9] at hlaw
  have HLAW := Lib.hid hlaw
  have hDs : D ≤ s := h.few
  clear hX h x34 hT9 hlaw
  go_enter Try.func54, Try.ntmps54
  go_upto_if 8 with fail
  go_cut [] (fun wx => ∃ q : Plq, Hid (Wst X g w wx p q T9))
  case first =>
    cases bd with
    | true =>
      have HT10 : Hid (T9 = startT (writeC 2 (2 * (D : Int)) (wordsQ n ((D : Int) + 1)))) := Lib.hid (by rw [HT9.out, if_pos HBD.out.symm])
      have c4 : w.cell? ⟨g, 4, none⟩ = some (.int .i64 p.begun) := HI.out.ply.low 4 (by omega)
      have f4 := HI.out.ply.fz 4
      go_wp2_with fail
      refine wp_at fun W1 hW1 => ?_
      have PB1 : Hid (PlqB W1 g { p with begun := wrap64 (p.begun + 1) }) := Lib.hid (by rw [hW1]; exact HI.out.ply.putBegun _)
      have CH1 : Hid (Chg (· = g) w W1) := Lib.hid (by rw [hW1]; exact Chg.setCell (X := (· = g)) rfl _)
      clear hW1 c40 c4 f4
      have HSW : Hid (∀ V, PlqB V g { p with begun := wrap64 (p.begun + 1) } → V.cell? ⟨g, 1, none⟩ = some (.int .i64 2) ∧ V.cell? ⟨g, 2, none⟩ = some (.int .i64 (n : Int)) ∧ V.cell? ⟨g, 5, none⟩ = some (.int .i64 (D : Int))) := Lib.hid fun V hp =>
        ⟨(hp.low 1 (by omega)).trans (by simp [HI.out.b_is]), (hp.low 2 (by omega)).trans (by simp [HI.out.n_is]), (hp.low 5 (by omega)).trans (by simp [HI.out.done_is])⟩
      have hw2 : IntKind.i64.wrap (2 * (D : Int)) = 2 * (D : Int) := by rw [IntKind.wrap_i64]; omega
      have hw3 : IntKind.i64.wrap ((D : Int) + 1) = (D : Int) + 1 := by rw [IntKind.wrap_i64]; omega
      refine wp_region_held_drew (S := fun V => V.cell? ⟨g, 1, none⟩ = some (.int .i64 2) ∧ V.cell? ⟨g, 2, none⟩ = some (.int .i64 (n : Int)) ∧ V.cell? ⟨g, 5, none⟩ = some (.int .i64 (D : Int))) (by kernel_rfl) (HSW.out W1 PB1.out) (fun hHeld => ?_)
      refine take_at (i := 0) (v := .pointer (some ⟨g, 0, none⟩)) rfl rfl (by kernel_rfl) (by kernel_rfl) (by kernel_rfl) (fun _ _ _ h => h) (Or.inl ⟨by rfl, fun w hw => ?_⟩) hHeld ?_
      · go_simp
      simp only [List.setIfInBounds_toArray, List.set_cons_zero, List.set_cons_succ]
      refine take_at (i := 1) (v := .pointer (some ⟨g, 0, none⟩)) rfl rfl (by kernel_rfl) (by kernel_rfl) (by kernel_rfl) (fun _ _ _ h => h) (Or.inl ⟨by rfl, fun w hw => ?_⟩) hHeld ?_
      · go_simp
      simp only [List.setIfInBounds_toArray, List.set_cons_zero, List.set_cons_succ]
      refine take_at (i := 2) (v := .pointer (some ⟨g, 0, none⟩)) rfl rfl (by kernel_rfl) (by kernel_rfl) (by kernel_rfl) (fun _ _ _ h => h) (Or.inl ⟨by rfl, fun w hw => ?_⟩) hHeld ?_
      · go_simp
      simp only [List.setIfInBounds_toArray, List.set_cons_zero, List.set_cons_succ]
      refine take_at (i := 3) (v := .pointer (some ⟨g, 1, none⟩)) rfl rfl (by kernel_rfl) (by kernel_rfl) (by kernel_rfl) (fun _ _ _ h => h) (Or.inl ⟨by rfl, fun w hw => ?_⟩) hHeld ?_
      · go_simp
      simp only [List.setIfInBounds_toArray, List.set_cons_zero, List.set_cons_succ]
      refine take_at (i := 4) (v := .int .i64 2) rfl rfl (by kernel_rfl) (by kernel_rfl) (by kernel_rfl) (fun _ _ _ h => h) (Or.inl ⟨by rfl, fun w hw => ?_⟩) hHeld ?_
      · have h0 := hw.1; go_simp
      simp only [List.setIfInBounds_toArray, List.set_cons_zero, List.set_cons_succ]
      refine take_at (i := 5) (v := .pointer (some ⟨g, 0, none⟩)) rfl rfl (by kernel_rfl) (by kernel_rfl) (by kernel_rfl) (fun _ _ _ h => h) (Or.inl ⟨by rfl, fun w hw => ?_⟩) hHeld ?_
      · go_simp
      simp only [List.setIfInBounds_toArray, List.set_cons_zero, List.set_cons_succ]
      refine take_at (i := 6) (v := .pointer (some ⟨g, 0, none⟩)) rfl rfl (by kernel_rfl) (by kernel_rfl) (by kernel_rfl) (fun _ _ _ h => h) (Or.inl ⟨by rfl, fun w hw => ?_⟩) hHeld ?_
      · go_simp
      simp only [List.setIfInBounds_toArray, List.set_cons_zero, List.set_cons_succ]
      refine take_at (i := 7) (v := .pointer (some ⟨g, 5, none⟩)) rfl rfl (by kernel_rfl) (by kernel_rfl) (by kernel_rfl) (fun _ _ _ h => h) (Or.inl ⟨by rfl, fun w hw => ?_⟩) hHeld ?_
      · go_simp
      simp only [List.setIfInBounds_toArray, List.set_cons_zero, List.set_cons_succ]
      refine take_at (i := 8) (v := .int .i64 (D : Int)) rfl rfl (by kernel_rfl) (by kernel_rfl) (by kernel_rfl) (fun _ _ _ h => h) (Or.inl ⟨by rfl, fun w hw => ?_⟩) hHeld ?_
      · have h0 := hw.2.2; go_simp
      simp only [List.setIfInBounds_toArray, List.set_cons_zero, List.set_cons_succ]
      refine take_at (i := 9) (v := .int .i64 (2 * (D : Int))) rfl rfl (by kernel_rfl) (by kernel_rfl) (by kernel_rfl) (fun _ _ _ h => h) (Or.inl ⟨by rfl, fun w hw => ?_⟩) hHeld ?_
      · go_simp
      simp only [List.setIfInBounds_toArray, List.set_cons_zero, List.set_cons_succ]
      refine take_at (i := 10) (v := .pointer (some ⟨g, 0, none⟩)) rfl rfl (by kernel_rfl) (by kernel_rfl) (by kernel_rfl) (fun _ _ _ h => h) (Or.inl ⟨by rfl, fun w hw => ?_⟩) hHeld ?_
      · go_simp
      simp only [List.setIfInBounds_toArray, List.set_cons_zero, List.set_cons_succ]
      refine take_at (i := 11) (v := .pointer (some ⟨g, 0, none⟩)) rfl rfl (by kernel_rfl) (by kernel_rfl) (by kernel_rfl) (fun _ _ _ h => h) (Or.inl ⟨by rfl, fun w hw => ?_⟩) hHeld ?_
      · go_simp
      simp only [List.setIfInBounds_toArray, List.set_cons_zero, List.set_cons_succ]
      refine take_at (i := 12) (v := .pointer (some ⟨g, 2, none⟩)) rfl rfl (by kernel_rfl) (by kernel_rfl) (by kernel_rfl) (fun _ _ _ h => h) (Or.inl ⟨by rfl, fun w hw => ?_⟩) hHeld ?_
      · go_simp
      simp only [List.setIfInBounds_toArray, List.set_cons_zero, List.set_cons_succ]
      refine take_at (i := 13) (v := .int .i64 (n : Int)) rfl rfl (by kernel_rfl) (by kernel_rfl) (by kernel_rfl) (fun _ _ _ h => h) (Or.inl ⟨by rfl, fun w hw => ?_⟩) hHeld ?_
      · have h0 := hw.2.1; go_simp
      simp only [List.setIfInBounds_toArray, List.set_cons_zero, List.set_cons_succ]
      refine take_at (i := 14) (v := .pointer (some ⟨g, 0, none⟩)) rfl rfl (by kernel_rfl) (by kernel_rfl) (by kernel_rfl) (fun _ _ _ h => h) (Or.inl ⟨by rfl, fun w hw => ?_⟩) hHeld ?_
      · go_simp
      simp only [List.setIfInBounds_toArray, List.set_cons_zero, List.set_cons_succ]
      refine take_at (i := 15) (v := .pointer (some ⟨g, 0, none⟩)) rfl rfl (by kernel_rfl) (by kernel_rfl) (by kernel_rfl) (fun _ _ _ h => h) (Or.inl ⟨by rfl, fun w hw => ?_⟩) hHeld ?_
      · go_simp
      simp only [List.setIfInBounds_toArray, List.set_cons_zero, List.set_cons_succ]
      refine take_at (i := 16) (v := .pointer (some ⟨g, 5, none⟩)) rfl rfl (by kernel_rfl) (by kernel_rfl) (by kernel_rfl) (fun _ _ _ h => h) (Or.inl ⟨by rfl, fun w hw => ?_⟩) hHeld ?_
      · go_simp
      simp only [List.setIfInBounds_toArray, List.set_cons_zero, List.set_cons_succ]
      refine take_at (i := 17) (v := .int .i64 (D : Int)) rfl rfl (by kernel_rfl) (by kernel_rfl) (by kernel_rfl) (fun _ _ _ h => h) (Or.inl ⟨by rfl, fun w hw => ?_⟩) hHeld ?_
      · have h0 := hw.2.2; go_simp
      simp only [List.setIfInBounds_toArray, List.set_cons_zero, List.set_cons_succ]
      refine take_at (i := 18) (v := .int .i64 ((D : Int) + 1)) rfl rfl (by kernel_rfl) (by kernel_rfl) (by kernel_rfl) (fun _ _ _ h => h) (Or.inl ⟨by rfl, fun w hw => ?_⟩) hHeld ?_
      · go_simp
      simp only [List.setIfInBounds_toArray, List.set_cons_zero, List.set_cons_succ]
      refine wpAnyH_ready (rs := [19]) (by kernel_rfl) (by simp) ?_
      refine AllReadyH.cons rfl (fun KQ hKQ => ?_) AllReadyH.nil
      go_simp
      refine (words15_call n hn ((D : Int) + 1) (by omega) _).mono ?_
      rintro e V7 ⟨v5, rfl, ho5, hb5⟩
      have HB7 : Hid (Below W1.heap.size W1 V7) := Lib.hid ⟨hb5.os, hb5.tape, hb5.output, hb5.size, hb5.block⟩
      have HQ5 := Lib.hid ho5.words
      refine hKQ.out _ _ (HSW.out _ (PB1.out.kept HB7.out)) (fun hHeld => ?_)
      clear hKQ KQ ho5 hb5
      refine wpAnyH_ready (rs := [20]) (by kernel_rfl) (by simp) ?_
      refine AllReadyH.cons rfl (fun KQ hKQ => ?_) AllReadyH.nil
      go_simp
      refine (write_own (b := 2) (ver := 2 * (D : Int)) ⟨by omega, by omega⟩ HQ5.out).mono ?_
      rintro e V8 ⟨v6, rfl, hi6, hb6⟩
      have HB8 : Hid (Below W1.heap.size W1 V8) := Lib.hid (below_call HB7.out hb6 HB7.out.size)
      have HI6 : Hid (OwnI V8 W1.heap.size v6 (writeC 2 (2 * (D : Int)) (wordsQ n ((D : Int) + 1)))) := Lib.hid (hi6.base HB7.out.size)
      refine hKQ.out _ _ (HSW.out _ (PB1.out.kept HB8.out)) (fun hHeld => ?_)
      clear hKQ KQ hi6 hb6
      refine wpAnyH_ready (rs := [21]) (by kernel_rfl) (by simp) ?_
      refine AllReadyH.cons rfl (fun KQ hKQ => ?_) AllReadyH.nil
      go_simp
      refine (start_call HI6.out.inss).mono ?_
      rintro e V9 ⟨rfl, hb7⟩
      have HB9 : Hid (Below W1.heap.size W1 V9) := Lib.hid (below_call HB8.out hb7 HB8.out.size)
      have hot := OffT.start (X := X) (w := V9) (HI6.out.kept hb7) (fun k hk => by have h1 := HXB.out k hk; have h2 := CH1.out.size; omega) rfl
      generalize tcells (startCv _ _) (startT _).t = C7 at *
      obtain ⟨cl7, rfl⟩ : ∃ l : List Value, C7 = l.toArray := ⟨C7.toList, by simp⟩
      have hot2 : OffT X V9 cl7 (startT (writeC 2 (2 * (D : Int)) (wordsQ n ((D : Int) + 1)))) := hot
      have hsz := hot2.size
      have HOT := Lib.hid hot2
      have HSZ7 := Lib.hid hsz.1
      have HONE7 := Lib.hid hsz.2.1
      refine hKQ.out _ _ (HSW.out _ (PB1.out.kept HB9.out)) (fun hHeld => ?_)
      clear hKQ KQ hb7 hot hot2 hsz
      refine take_at (i := 22) (v := .pointer (some ⟨g, 0, none⟩)) rfl rfl (by kernel_rfl) (by kernel_rfl) (by kernel_rfl) (fun _ _ _ h => h) (Or.inl ⟨by rfl, fun w hw => ?_⟩) hHeld ?_
      · go_simp
      simp only [List.setIfInBounds_toArray, List.set_cons_zero, List.set_cons_succ]
      refine take_at (i := 23) (v := .pointer (some ⟨g, 6, none⟩)) rfl rfl (by kernel_rfl) (by kernel_rfl) (by kernel_rfl) (fun _ _ _ h => h) (Or.inl ⟨by rfl, fun w hw => ?_⟩) hHeld ?_
      · go_simp
      simp only [List.setIfInBounds_toArray, List.set_cons_zero, List.set_cons_succ]
      refine wpAnyH_ready (rs := [24]) (by kernel_rfl) (by simp) ?_
      refine AllReadyH.cons rfl (fun KQ hKQ => ?_) AllReadyH.nil
      rw [if_pos (by rfl)]
      refine wp_store_mid 42 _ _ rfl g 6 cl7.toArray rfl rfl ((PB1.out.kept HB9.out).t (by simp [HSZ7.out])) (by rw [List.size_toArray, HSZ7.out]; exact size_task) HONE7.out ?_
      have hP4 : PlqB (V9.setCells g 6 cl7) g { p with begun := wrap64 (p.begun + 1), l := cl7 } := (PB1.out.kept HB9.out).set HSZ7.out
      have hF : Wst X g w (V9.setCells g 6 cl7) p { p with begun := wrap64 (p.begun + 1), l := cl7 } T9 := ⟨hP4, CH1.out.trans ((Chg.of HB9.out).trans (Chg.setCells (X := (· = g)) rfl 6 cl7)), by rw [HT10.out]; exact HOT.out.chg (Chg.setCells HXG.out 6 cl7), rfl, rfl, rfl, rfl, rfl, rfl, rfl, rfl⟩
      have HF := Lib.hid hF
      refine hKQ.out _ _ ⟨(hP4.low 1 (by omega)).trans (by simp [HI.out.b_is]), (hP4.low 2 (by omega)).trans (by simp [HI.out.n_is]), (hP4.low 5 (by omega)).trans (by simp [HI.out.done_is])⟩ (fun hHeld => ?_)
      clear hKQ KQ hF hP4
      refine wpAnyH_done (by kernel_rfl) ?_ _
      go_wp2_with fail
      go_meet
      case rel => exact ⟨_, HF⟩
    | false =>
      have HF : Hid (Wst X g w w p p T9) := Lib.hid ⟨HI.out.ply, Chg.refl _ _, by rw [HT9.out, if_neg (by rw [← HBD.out]; simp), HXX.out]; exact HI.out.t, rfl, rfl, rfl, rfl, rfl, rfl, rfl, rfl⟩
      go_wp2_with fail
      go_meet
      case rel => exact ⟨_, HF⟩
  case rest =>
    obtain ⟨q, HQ⟩ := hcut
    obtain ⟨w2, rfl⟩ : ∃ w2 : World, w2 = wc := ⟨_, rfl⟩
    have hi8 : (Try.prog.info? 42).map (·.size) = some q.l.length := by rw [HQ.out.ply.len]; exact size_task
    have HI8 := Lib.hid hi8
    have HT1 : Hid (OffT X w2 q.l T9) := Lib.hid HQ.out.t
    have HM : Hid (OffW X w2 q.vm m) := Lib.hid (by have := HI.out.mem; rw [← HXX.out] at this; rw [HQ.out.vm]; exact this.chg (HQ.out.chg.mono fun k _ e => e ▸ HXG.out))
    replace HXB : Hid (∀ k, X k → k < w2.heap.size) := Lib.hid fun k hk => by have h1 := HXB.out k hk; have h2 := HQ.out.chg.size; omega
    have HS : Hid (∀ W, Below w2.heap.size w2 W → W.rangeAt g 6 q.l ∧ W.cell? ⟨g, 0, none⟩ = some q.vm) := Lib.hid fun W hW => by
      have hp := HQ.out.ply.kept hW
      exact ⟨hp.r, hp.low 0 (by omega)⟩
    clear hi8 c40
    go_upto_region 4 with fail
    go_cut [2, 3] (fun s2 v9 wx => ∃ (g12 : Nat) (cl : List Value), s2 = .pointer (some ⟨g12, 0, none⟩) ∧ Hid (Aft X w2 wx g12 cl v9 (stepT T9 m).1 (stepT T9 m).2))
    case first =>
      refine wp_region_held_drew (S := fun W => W.rangeAt g 6 q.l ∧ W.cell? ⟨g, 0, none⟩ = some q.vm) (by kernel_rfl) (HS.out w2 (Below.refl _ _)) (fun hHeld => ?_)
      refine take_at (i := 0) (v := .pointer (some ⟨g, 0, none⟩)) rfl rfl (by kernel_rfl) (by kernel_rfl) (by kernel_rfl) (fun _ _ _ h => h) (Or.inl ⟨by rfl, fun w2 hw => ?_⟩) hHeld ?_
      · go_simp
      simp only [List.setIfInBounds_toArray, List.set_cons_zero, List.set_cons_succ]
      refine take_at (i := 1) (v := .pointer (some ⟨g, 0, none⟩)) rfl rfl (by kernel_rfl) (by kernel_rfl) (by kernel_rfl) (fun _ _ _ h => h) (Or.inl ⟨by rfl, fun w2 hw => ?_⟩) hHeld ?_
      · go_simp
      simp only [List.setIfInBounds_toArray, List.set_cons_zero, List.set_cons_succ]
      refine take_at (i := 2) (v := .pointer (some ⟨g, 6, none⟩)) rfl rfl (by kernel_rfl) (by kernel_rfl) (by kernel_rfl) (fun _ _ _ h => h) (Or.inl ⟨by rfl, fun w2 hw => ?_⟩) hHeld ?_
      · go_simp
      simp only [List.setIfInBounds_toArray, List.set_cons_zero, List.set_cons_succ]
      refine take_at (i := 3) (v := .agg q.l.toArray) rfl rfl (by kernel_rfl) (by kernel_rfl) (by kernel_rfl) (fun _ _ _ h => h)
        (yieldsIf_load_mid (by rfl) 42 _ rfl g (6) rfl q.l _ (fun _ h => h.1) Try.underlying42 rfl HI8.out) hHeld ?_
      simp only [List.setIfInBounds_toArray, List.set_cons_zero, List.set_cons_succ]
      refine take_at (i := 4) (v := .pointer (some ⟨g, 0, none⟩)) rfl rfl (by kernel_rfl) (by kernel_rfl) (by kernel_rfl) (fun _ _ _ h => h) (Or.inl ⟨by rfl, fun w2 hw => ?_⟩) hHeld ?_
      · go_simp
      simp only [List.setIfInBounds_toArray, List.set_cons_zero, List.set_cons_succ]
      refine take_at (i := 5) (v := .pointer (some ⟨g, 0, none⟩)) rfl rfl (by kernel_rfl) (by kernel_rfl) (by kernel_rfl) (fun _ _ _ h => h) (Or.inl ⟨by rfl, fun w2 hw => ?_⟩) hHeld ?_
      · go_simp
      simp only [List.setIfInBounds_toArray, List.set_cons_zero, List.set_cons_succ]
      refine take_at (i := 6) (v := .pointer (some ⟨g, 0, none⟩)) rfl rfl (by kernel_rfl) (by kernel_rfl) (by kernel_rfl) (fun _ _ _ h => h) (Or.inl ⟨by rfl, fun w2 hw => ?_⟩) hHeld ?_
      · go_simp
      simp only [List.setIfInBounds_toArray, List.set_cons_zero, List.set_cons_succ]
      refine take_at (i := 7) (v := q.vm) rfl rfl (by kernel_rfl) (by kernel_rfl) (by kernel_rfl) (fun _ _ _ h => h) (Or.inl ⟨by rfl, fun w2 hw => ?_⟩) hHeld ?_
      · have h0 := hw.2; go_simp
      simp only [List.setIfInBounds_toArray, List.set_cons_zero, List.set_cons_succ]
      refine any_at fun W6 hW6 => ?_
      have HD0 : Hid (Below w2.heap.size w2 W6) := Lib.hid (by rw [hW6]; exact ⟨rfl, rfl, rfl, Nat.le_refl _, fun _ _ => rfl⟩)
      replace hHeld := HS.out _ HD0.out
      clear hW6
      refine wpAnyH_ready (rs := [8, 12]) (by kernel_rfl) (by simp) ?_
      refine AllReadyH.cons rfl (fun KQ hKQ => ?_) (AllReadyH.cons rfl (fun KQ hKQ => ?_) AllReadyH.nil)
      · go_simp
        refine (step_call (HT1.out.chg (Chg.of HD0.out)).task (HM.out.chg (Chg.of HD0.out)).words).mono ?_
        rintro e wb1 ⟨v8, v9, rfl, ht9, ho9, hb9⟩
        have hT9 := ht9 wb1 ((HT1.out.chg (Chg.of HD0.out)).chg (Chg.of hb9)).task
        obtain ⟨cl9, rfl, hsz9, hone9, _, _, _⟩ := hT9.list
        have HSZ9 := Lib.hid hsz9
        have HONE9 := Lib.hid hone9
        have HA9 := Lib.hid ht9
        have HM9 : Hid (Own wb1 w2.heap.size v9 (stepT T9 m).2) := Lib.hid ⟨row_base ho9.1 HD0.out.size, ho9.2⟩
        have HD1 : Hid (Below w2.heap.size w2 wb1) := Lib.hid (below_call HD0.out hb9 HD0.out.size)
        clear ht9 ho9 hT9 hsz9 hone9
        refine hKQ.out _ _ (HS.out _ HD1.out) (fun hHeld => ?_)
        clear hKQ KQ hb9
        refine take_at (i := 9) (v := .tuple #[.agg cl9.toArray, v9]) rfl rfl (by kernel_rfl) (by kernel_rfl) (by kernel_rfl) (fun _ _ _ h => h) (Or.inl ⟨by rfl, fun w2 hw => ?_⟩) hHeld ?_
        · go_simp
        simp only [List.setIfInBounds_toArray, List.set_cons_zero, List.set_cons_succ]
        refine take_at (i := 10) (v := .agg cl9.toArray) rfl rfl (by kernel_rfl) (by kernel_rfl) (by kernel_rfl) (fun _ _ _ h => h) (Or.inl ⟨by rfl, fun w2 hw => ?_⟩) hHeld ?_
        · go_simp
        simp only [List.setIfInBounds_toArray, List.set_cons_zero, List.set_cons_succ]
        refine take_at (i := 11) (v := v9) rfl rfl (by kernel_rfl) (by kernel_rfl) (by kernel_rfl) (fun _ _ _ h => h) (Or.inl ⟨by rfl, fun w2 hw => ?_⟩) hHeld ?_
        · go_simp
        simp only [List.setIfInBounds_toArray, List.set_cons_zero, List.set_cons_succ]
        refine wpAnyH_ready (rs := [12]) (by kernel_rfl) (by simp) ?_
        refine AllReadyH.cons rfl (fun KQ hKQ => ?_) AllReadyH.nil
        go_simp
        refine hKQ.out _ _ (HS.out _ (HD1.out.alloc HD1.out.size _)) (fun hHeld0 => ?_)
        clear hKQ KQ hHeld0
        refine any_at fun wb2 hwb2 => ?_
        have hxz : ∃ Z, Box wb2 wb1.heap.size 42 Z ∧ Z.size = 36 := by rw [hwb2]; exact ⟨_, Box.new _ _ _, rfl⟩
        obtain ⟨Z12, hxz1, hxz2⟩ := hxz
        have HX12 := Lib.hid hxz1
        have HZ12 := Lib.hid hxz2
        have HD2 : Hid (Below w2.heap.size w2 wb2) := Lib.hid (by rw [hwb2]; exact HD1.out.alloc HD1.out.size _)
        have HG12 : Hid (w2.heap.size ≤ wb1.heap.size) := Lib.hid HD1.out.size
        have HNE : Hid (∀ k, v9.ownBlock = some k → k ≠ wb1.heap.size) := Lib.hid (fun k hk => by have := (HM9.out.1.lt k hk).2; omega)
        replace HM9 : Hid (Own wb2 w2.heap.size v9 (stepT T9 m).2) := Lib.hid (by rw [hwb2]; exact ⟨HM9.out.1.alloc _, HM9.out.2⟩)
        have hHeld := HS.out _ HD2.out
        clear hwb2 hxz1 hxz2
        generalize wb1.heap.size = g12 at *
        refine wpAnyH_ready (rs := [13]) (by kernel_rfl) (by simp) ?_
        refine AllReadyH.cons rfl (fun KQ hKQ => ?_) AllReadyH.nil
        rw [if_pos (by rfl)]
        refine wp_store_mid 42 _ _ rfl g12 0 cl9.toArray rfl rfl (HX12.out.thereAll (by simp [HSZ9.out, HZ12.out])) (by rw [List.size_toArray, HSZ9.out]; exact size_task) HONE9.out ?_
        have hbx : Box (wb2.setCells g12 0 cl9) g12 42 cl9.toArray := HX12.out.setCells_all (by simp [HSZ9.out, HZ12.out])
        have hbf : Below w2.heap.size w2 (wb2.setCells g12 0 cl9) := Below.setCells HD2.out HD2.out.size HG12.out _ _
        have hot : OffT X (wb2.setCells g12 0 cl9) cl9 (stepT T9 m).1 := (HT1.out.chg (Chg.of hbf)).step HA9.out
        have hom : OffW X (wb2.setCells g12 0 cl9) v9 (stepT T9 m).2 := OffW.new (own_setCells_off HM9.out HNE.out _ _) HXB.out
        refine hKQ.out _ _ (HS.out _ hbf) (fun hHeld => ?_)
        clear hKQ KQ
        refine wpAnyH_ready (rs := [14]) (by kernel_rfl) (by simp) ?_
        refine AllReadyH.cons rfl (fun KQ hKQ => ?_) AllReadyH.nil
        go_simp
        refine hKQ.out _ _ (HS.out _ hbf) (fun hHeld => ?_)
        clear hKQ KQ
        refine wpAnyH_done (by kernel_rfl) ?_ _
        have HAFT := Lib.hid (Aft.mk hbx HSZ9.out HONE9.out hot hom hbf HG12.out)
        clear hbx hbf hot hom
        go_wp2_with fail
        go_meet
        case rel => exact ⟨g12, cl9, rfl, HAFT⟩
      · go_simp
        refine hKQ.out _ _ (HS.out _ (HD0.out.alloc HD0.out.size _)) (fun hHeld0 => ?_)
        clear hKQ KQ hHeld0
        refine any_at fun wb1 hwb1 => ?_
        have hxz : ∃ Z, Box wb1 W6.heap.size 42 Z ∧ Z.size = 36 := by rw [hwb1]; exact ⟨_, Box.new _ _ _, rfl⟩
        obtain ⟨Z12, hxz1, hxz2⟩ := hxz
        have HX12 := Lib.hid hxz1
        have HZ12 := Lib.hid hxz2
        have HD1 : Hid (Below w2.heap.size w2 wb1) := Lib.hid (by rw [hwb1]; exact HD0.out.alloc HD0.out.size _)
        have HG12 : Hid (w2.heap.size ≤ W6.heap.size) := Lib.hid HD0.out.size
        have hHeld := HS.out _ HD1.out
        clear hwb1 hxz1 hxz2
        generalize W6.heap.size = g12 at *
        refine wpAnyH_ready (rs := [8]) (by kernel_rfl) (by simp) ?_
        refine AllReadyH.cons rfl (fun KQ hKQ => ?_) AllReadyH.nil
        go_simp
        refine (step_call (HT1.out.chg (Chg.of HD1.out)).task (HM.out.chg (Chg.of HD1.out)).words).mono ?_
        rintro e wb2 ⟨v8, v9, rfl, ht9, ho9, hb9⟩
        have hT9 := ht9 wb2 ((HT1.out.chg (Chg.of HD1.out)).chg (Chg.of hb9)).task
        obtain ⟨cl9, rfl, hsz9, hone9, _, _, _⟩ := hT9.list
        have HSZ9 := Lib.hid hsz9
        have HONE9 := Lib.hid hone9
        have HA9 := Lib.hid ht9
        have HM9 : Hid (Own wb2 w2.heap.size v9 (stepT T9 m).2) := Lib.hid ⟨row_base ho9.1 HD1.out.size, ho9.2⟩
        have HD2 : Hid (Below w2.heap.size w2 wb2) := Lib.hid (below_call HD1.out hb9 HD1.out.size)
        have HNE : Hid (∀ k, v9.ownBlock = some k → k ≠ g12) := Lib.hid (fun k hk => by have h1 := (ho9.1.lt k hk).1; have h2 := HX12.out.lt; omega)
        replace HX12 := Lib.hid (HX12.out.kept hb9)
        clear ht9 ho9 hT9 hsz9 hone9
        refine hKQ.out _ _ (HS.out _ HD2.out) (fun hHeld => ?_)
        clear hKQ KQ hb9
        refine take_at (i := 9) (v := .tuple #[.agg cl9.toArray, v9]) rfl rfl (by kernel_rfl) (by kernel_rfl) (by kernel_rfl) (fun _ _ _ h => h) (Or.inl ⟨by rfl, fun w2 hw => ?_⟩) hHeld ?_
        · go_simp
        simp only [List.setIfInBounds_toArray, List.set_cons_zero, List.set_cons_succ]
        refine take_at (i := 10) (v := .agg cl9.toArray) rfl rfl (by kernel_rfl) (by kernel_rfl) (by kernel_rfl) (fun _ _ _ h => h) (Or.inl ⟨by rfl, fun w2 hw => ?_⟩) hHeld ?_
        · go_simp
        simp only [List.setIfInBounds_toArray, List.set_cons_zero, List.set_cons_succ]
        refine take_at (i := 11) (v := v9) rfl rfl (by kernel_rfl) (by kernel_rfl) (by kernel_rfl) (fun _ _ _ h => h) (Or.inl ⟨by rfl, fun w2 hw => ?_⟩) hHeld ?_
        · go_simp
        simp only [List.setIfInBounds_toArray, List.set_cons_zero, List.set_cons_succ]
        refine wpAnyH_ready (rs := [13]) (by kernel_rfl) (by simp) ?_
        refine AllReadyH.cons rfl (fun KQ hKQ => ?_) AllReadyH.nil
        rw [if_pos (by rfl)]
        refine wp_store_mid 42 _ _ rfl g12 0 cl9.toArray rfl rfl (HX12.out.thereAll (by simp [HSZ9.out, HZ12.out])) (by rw [List.size_toArray, HSZ9.out]; exact size_task) HONE9.out ?_
        have hbx : Box (wb2.setCells g12 0 cl9) g12 42 cl9.toArray := HX12.out.setCells_all (by simp [HSZ9.out, HZ12.out])
        have hbf : Below w2.heap.size w2 (wb2.setCells g12 0 cl9) := Below.setCells HD2.out HD2.out.size HG12.out _ _
        have hot : OffT X (wb2.setCells g12 0 cl9) cl9 (stepT T9 m).1 := (HT1.out.chg (Chg.of hbf)).step HA9.out
        have hom : OffW X (wb2.setCells g12 0 cl9) v9 (stepT T9 m).2 := OffW.new (own_setCells_off HM9.out HNE.out _ _) HXB.out
        refine hKQ.out _ _ (HS.out _ hbf) (fun hHeld => ?_)
        clear hKQ KQ
        refine wpAnyH_ready (rs := [14]) (by kernel_rfl) (by simp) ?_
        refine AllReadyH.cons rfl (fun KQ hKQ => ?_) AllReadyH.nil
        go_simp
        refine hKQ.out _ _ (HS.out _ hbf) (fun hHeld => ?_)
        clear hKQ KQ
        refine wpAnyH_done (by kernel_rfl) ?_ _
        have HAFT := Lib.hid (Aft.mk hbx HSZ9.out HONE9.out hot hom hbf HG12.out)
        clear hbx hbf hot hom
        go_wp2_with fail
        go_meet
        case rel => exact ⟨g12, cl9, rfl, HAFT⟩
    case rest =>
      obtain ⟨g12, cl9, rfl, HA⟩ := hcut
      have HPL : Hid (PlqB wc g q) := Lib.hid (HQ.out.ply.kept HA.out.below)
      obtain ⟨_, _, x34, x35⟩ := HA.out.task.size
      obtain ⟨A9, p9, hv9, _, _⟩ := row_form HA.out.mem.1.1
      subst hv9
      have hne : g12 ≠ g := by have h1 := HQ.out.ply.box.lt; have h2 := HA.out.new; omega
      generalize hTT : (stepT T9 m).1 = T8 at *
      generalize hMM : (stepT T9 m).2 = m9 at *
      clear hTT hMM
      have HNE := Lib.hid hne
      go_wp2_with (first | with_reducible refine mid_stop 42 _ rfl ?_ | with_reducible refine storeM_stop rfl 42 _ _ rfl ?_)
      refine AtMid.go rfl g12 0 rfl HA.out.box.range Try.underlying42 rfl (by rw [HA.out.len]; exact size_task) ?_
      go_wp2_with (first | with_reducible refine mid_stop 42 _ rfl ?_ | with_reducible refine storeM_stop rfl 42 _ _ rfl ?_)
      refine AtStoreM.go g 6 (cs := cl9) rfl rfl (HPL.out.t HA.out.len) (by rw [HA.out.len]; exact size_task) HA.out.one ?_
      refine wpl_at fun W1 hW1 => ?_
      have PB1 : Hid (PlqB W1 g { q with l := cl9 }) := Lib.hid (by rw [hW1]; exact HPL.out.set HA.out.len)
      have BX1 : Hid (Box W1 g12 42 cl9.toArray) := Lib.hid (by rw [hW1]; exact HA.out.box.chg (X := (· = g)) (Chg.setCells (X := (· = g)) rfl 6 cl9) HNE.out)
      have CH1 : Hid (Chg (· = g) wc W1) := Lib.hid (by rw [hW1]; exact Chg.setCells (X := (· = g)) rfl 6 cl9)
      clear hW1
      have a0 : W1.cell? ⟨g, 0, none⟩ = some q.vm := PB1.out.low 0 (by omega)
      have a5 : W1.cell? ⟨g, 5, none⟩ = some (.int .i64 (D : Int)) := (PB1.out.low 5 (by omega)).trans (by simp [HQ.out.dn, HI.out.done_is])
      have a45 : W1.cell? ⟨g, 45, none⟩ = some (.bool true) := (PB1.out.high 3).trans (by simp [HQ.out.ok, HI.out.ok_is])
      have f0 := PB1.out.fz 0
      have f5 := PB1.out.fz 5
      have f45 := PB1.out.fz 45
      have d34 : W1.cell? ⟨g12, 34, none⟩ = some (.bool T8.t.done) := (BX1.out.cell 34).trans (by simpa using x34)
      have d35 : W1.cell? ⟨g12, 35, none⟩ = some (.int .i64 T8.t.ans) := (BX1.out.cell 35).trans (by simpa using x35)
      have hwD : IntKind.i64.wrap ((D : Int) + 1) = (D : Int) + 1 := by rw [IntKind.wrap_i64]; omega
      have HCH : Hid (Chg (· = g) w wc) := Lib.hid (HQ.out.chg.trans (Chg.of HA.out.below))
      clear x34 x35
      have FIN : Hid (∀ (W : World) (q2 : Plq) (D2 : Nat), Chg (· = g) W1 W → PlqB W g q2 → q2.l = cl9 → q2.vm = .slice A9 m9.length p9 → q2.b = q.b → q2.n = q.n → q2.k = q.k → q2.dn = (D2 : Int) → q2.ok = true → q2.vr = q.vr → q2.vf = q.vf → QT n k m9 D2 T8 F0 F1 T0 T1 → D2 ≤ s + 1 →
          QlyI base g gr gf w0 W n k (s + 1) q2 c0 c1 m9 D2 T8 F0 F1 T0 T1) := Lib.hid fun W q2 D2 hc hp e1 e2 e3 e4 e5 e6 e7 e8 e9 hq hd2 => by
        have hcw : Chg (· = g) wc W := CH1.out.trans hc
        have hcx : Chg X wc W := hcw.mono fun k _ e => e ▸ HXG.out
        have hg : Chg (· = g) w W := HCH.out.trans hcw
        have hall : Chg (Our g gr gf) w W := hg.mono fun k _ e => .inl e
        refine HI.out.next hall hp (by rw [e3, HQ.out.b]) (by rw [e4, HQ.out.n]) (by rw [e5, HQ.out.k]) e6 e7 (by rw [e8, HQ.out.vr]) (by rw [e9, HQ.out.vf]) ?_ ?_ ?_ ?_ (HI.out.t0.chg hall) (HI.out.t1.chg hall) hq hd2
        · exact HI.out.rbox.chg hg (fun e => HI.out.ne1 e.symm)
        · exact HI.out.fbox.chg hg (fun e => HI.out.ne2 e.symm)
        · rw [e2, ← HXX.out]; exact HA.out.mem.chg hcx
        · rw [e1, ← HXX.out]; exact HA.out.task.chg hcx
      rcases HLAW.out with ⟨hd, hq⟩ | ⟨hd, ha, hq⟩
      · rw [hd] at d34
        have HQT := Lib.hid hq
        clear hd hq d35 a5 f5 a45 f45 hwD
        have HF : Hid (QlyI base g gr gf w0 (W1.setCell ⟨g, 0, none⟩ (.slice A9 m9.length p9)) n k (s + 1) { q with l := cl9, vm := .slice A9 m9.length p9 } c0 c1 m9 D T8 F0 F1 T0 T1) := Lib.hid
          (FIN.out _ _ D (Chg.setCell (X := (· = g)) rfl _) (PB1.out.putVm _) rfl rfl rfl rfl rfl (by simp only; rw [HQ.out.dn]; exact HI.out.done_is) (by simp only; rw [HQ.out.ok]; exact HI.out.ok_is) rfl rfl HQT.out (by omega))
        go_wp2
        go_end0
        exact ⟨rfl, _, _, _, _, _, _, _, _, _, _, HF.out⟩
      · rw [hd] at d34
        rw [ha] at d35
        have HQT := Lib.hid hq
        clear hd ha hq
        have HF : Hid (QlyI base g gr gf w0 (((W1.setCell ⟨g, 0, none⟩ (.slice A9 m9.length p9)).setCell ⟨g, 5, none⟩ (.int .i64 ((D : Int) + 1))).setCell ⟨g, 45, none⟩ (.bool true)) n k (s + 1) { q with l := cl9, vm := .slice A9 m9.length p9, dn := (D : Int) + 1, ok := true } c0 c1 m9 (D + 1) T8 F0 F1 T0 T1) := Lib.hid
          (FIN.out _ _ (D + 1) (((Chg.setCell (X := (· = g)) rfl _).trans (Chg.setCell (X := (· = g)) rfl _)).trans (Chg.setCell (X := (· = g)) rfl _)) (((PB1.out.putVm _).putDone _).putOk true) rfl rfl rfl rfl rfl (by simp only; omega) rfl rfl rfl HQT.out (by omega))
        go_wp2
        go_end0
        exact ⟨rfl, _, _, _, _, _, _, _, _, _, _, HF.out⟩
end Go.Proofs.Ytpkelneimjmmkaa

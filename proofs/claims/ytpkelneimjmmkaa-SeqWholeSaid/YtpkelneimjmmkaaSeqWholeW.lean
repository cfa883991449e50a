/- The walk of SeqWhole. -/
import Derived.Test.YtpkelneimjmmkaaSeqRd1
import Derived.Test.YtpkelneimjmmkaaPlayB
import Derived.Test.YtpkelneimjmmkaaOpen
import Derived.Test.YtpkelneimjmmkaaCellRunsW
namespace Go.Proofs.Ytpkelneimjmmkaa
open Go.RowKit

/-- A slice of ints that reads. -/
def IntsQ (w : World) (v : Value) (l : List Int) : Prop := Sl w v 1 l.length (l.map (Value.int .i64)) ∧ ∀ x ∈ l, I64 x
theorem IntsQ.below {w w' : World} {v : Value} {l : List Int} (h : IntsQ w v l) (hb : Below w.heap.size w w') : IntsQ w' v l := ⟨h.1.below hb, h.2⟩
theorem IntsQ.at_ {w : World} {A : Option Addr} {n c : Nat} {l : List Int} {k : Nat} (h : IntsQ w (.slice A n c) l) (hn : n = l.length) (hk : k < l.length) :
    ∃ b off, A = some ⟨b, off, none⟩ ∧ b < w.heap.size ∧ w.cell? ⟨b, off + k, none⟩ = some (.int .i64 (l.getD k 0)) := by
  subst hn
  obtain ⟨b, off, rfl, hb, hc⟩ := h.1.at_ (by omega) (by omega)
  exact ⟨b, off, rfl, hb, hc k _ (by simp [List.getD_eq_getElem?_getD, hk])⟩
def placesQ : Array (Nat × Nat) := #[(0, 1), (1, 1), (2, 1), (3, 1), (4, 1), (5, 1), (6, 36), (42, 1), (43, 1), (44, 1), (45, 1)]
def taskZ : List Value := (tcells (.slice none 0 0) tsk0).toList
def playQ : List Value := [.slice none 0 0, .int .i64 0, .int .i64 0, .int .i64 0, .int .i64 0, .int .i64 0] ++ taskZ ++ [.slice none 0 0, .slice none 0 0, .int .i64 0, .bool false]
theorem playQ_zero (w : World) : (zeroValue 73).run Try.prog w = .ok (.agg playQ.toArray) w := by kernel_rfl
theorem playQ_places (w : World) : ∃ fs : Array Field, Try.prog.underlying 73 = some (.struct fs) ∧ (fs.mapM fun (f : Field) => do pure (f.offset, ← sizeOf f.type) : Sem (Array (Nat × Nat))).run Try.prog w = .ok placesQ w := ⟨_, Try.underlying73, by kernel_rfl⟩
theorem playQ_build {v vr vf : Value} {n k : Int} {cl : List Value} (hv : v.cells = #[v]) (hr : vr.cells = #[vr]) (hf : vf.cells = #[vf]) (h1 : cl.length = 36) (w : World) :
    (Instr.build 73 #[(0, v), (1, .int .i64 2), (2, .int .i64 n), (3, .int .i64 k), (6, .agg cl.toArray), (7, vr), (8, vf), (10, .bool true)]).run Try.prog w =
      .ok (.agg (Plq.cells ⟨v, 2, n, k, 0, 0, cl, vr, vf, 0, true⟩).toArray) w := by
  obtain ⟨fs, h3, h4⟩ := playQ_places w
  refine run_build (playQ_zero w) h3 h4 ?_
  rw [show playQ = [] ++ [.slice none 0 0] ++ ([.int .i64 0, .int .i64 0, .int .i64 0, .int .i64 0, .int .i64 0] ++ taskZ ++ [.slice none 0 0, .slice none 0 0, .int .i64 0, .bool false]) from rfl]
  rw [fill_mid (vs := [v]) (off := 0) (n := 1) rfl hv rfl _ _ _ rfl rfl]
  rw [show [] ++ [v] ++ ([Value.int .i64 0, .int .i64 0, .int .i64 0, .int .i64 0, .int .i64 0] ++ taskZ ++ [.slice none 0 0, .slice none 0 0, .int .i64 0, .bool false]) = [v] ++ [.int .i64 0] ++ ([.int .i64 0, .int .i64 0, .int .i64 0, .int .i64 0] ++ taskZ ++ [.slice none 0 0, .slice none 0 0, .int .i64 0, .bool false]) from rfl]
  rw [fill_mid (vs := [.int .i64 2]) (off := 1) (n := 1) rfl rfl rfl _ _ _ rfl rfl]
  rw [show [v] ++ [Value.int .i64 2] ++ ([Value.int .i64 0, .int .i64 0, .int .i64 0, .int .i64 0] ++ taskZ ++ [.slice none 0 0, .slice none 0 0, .int .i64 0, .bool false]) = [v, .int .i64 2] ++ [.int .i64 0] ++ ([.int .i64 0, .int .i64 0, .int .i64 0] ++ taskZ ++ [.slice none 0 0, .slice none 0 0, .int .i64 0, .bool false]) from rfl]
  rw [fill_mid (vs := [.int .i64 n]) (off := 2) (n := 1) rfl rfl rfl _ _ _ rfl rfl]
  rw [show [v, Value.int .i64 2] ++ [Value.int .i64 n] ++ ([Value.int .i64 0, .int .i64 0, .int .i64 0] ++ taskZ ++ [.slice none 0 0, .slice none 0 0, .int .i64 0, .bool false]) = [v, .int .i64 2, .int .i64 n] ++ [.int .i64 0] ++ ([.int .i64 0, .int .i64 0] ++ taskZ ++ [.slice none 0 0, .slice none 0 0, .int .i64 0, .bool false]) from rfl]
  rw [fill_mid (vs := [.int .i64 k]) (off := 3) (n := 1) rfl rfl rfl _ _ _ rfl rfl]
  rw [show [v, Value.int .i64 2, .int .i64 n] ++ [Value.int .i64 k] ++ ([Value.int .i64 0, .int .i64 0] ++ taskZ ++ [.slice none 0 0, .slice none 0 0, .int .i64 0, .bool false]) = [v, .int .i64 2, .int .i64 n, .int .i64 k, .int .i64 0, .int .i64 0] ++ taskZ ++ [.slice none 0 0, .slice none 0 0, .int .i64 0, .bool false] from rfl]
  rw [fill_mid (vs := cl) (off := 6) (n := 36) rfl rfl h1 _ _ _ rfl rfl]
  rw [show [v, Value.int .i64 2, .int .i64 n, .int .i64 k, .int .i64 0, .int .i64 0] ++ cl ++ [.slice none 0 0, .slice none 0 0, .int .i64 0, .bool false] = ([v, Value.int .i64 2, .int .i64 n, .int .i64 k, .int .i64 0, .int .i64 0] ++ cl) ++ [.slice none 0 0] ++ [.slice none 0 0, .int .i64 0, .bool false] by simp]
  rw [fill_mid (vs := [vr]) (off := 42) (n := 1) rfl hr rfl _ _ _ (by simp [h1]) rfl]
  rw [show ([v, Value.int .i64 2, .int .i64 n, .int .i64 k, .int .i64 0, .int .i64 0] ++ cl) ++ [vr] ++ [.slice none 0 0, .int .i64 0, .bool false] = ([v, Value.int .i64 2, .int .i64 n, .int .i64 k, .int .i64 0, .int .i64 0] ++ cl ++ [vr]) ++ [.slice none 0 0] ++ [.int .i64 0, .bool false] by simp]
  rw [fill_mid (vs := [vf]) (off := 43) (n := 1) rfl hf rfl _ _ _ (by simp [h1]) rfl]
  rw [show ([v, Value.int .i64 2, .int .i64 n, .int .i64 k, .int .i64 0, .int .i64 0] ++ cl ++ [vr]) ++ [vf] ++ [.int .i64 0, .bool false] = ([v, Value.int .i64 2, .int .i64 n, .int .i64 k, .int .i64 0, .int .i64 0] ++ cl ++ [vr, vf, .int .i64 0]) ++ [.bool false] ++ [] by simp]
  rw [fill_mid (vs := [.bool true]) (off := 45) (n := 1) rfl rfl rfl _ _ _ (by simp [h1]) rfl]
  simp [Instr.fill, Plq.cells]
theorem tasks_build {cl : List Value} (h1 : cl.length = 36) (w : World) :
    (Instr.buildSlice 57 2 #[(0, .agg cl.toArray), (1, .agg cl.toArray)]).run Try.prog w = .ok (.slice (some ⟨w.heap.size, 0, none⟩) 2 2) (w.alloc (.cells (cl ++ cl).toArray 42)) := by
  refine run_buildSlice (zv := .agg taskZ.toArray) (size := 36) Try.underlying57 (by kernel_rfl) (by kernel_rfl) (by decide) (by decide) ?_
  rw [show (Array.range (2 * 36)).map (fun i => (Value.agg taskZ.toArray).cells[i % (Value.agg taskZ.toArray).cells.size]!) = ([] ++ taskZ ++ taskZ).toArray by kernel_rfl]
  rw [fill_mid (vs := cl) (off := 0) (n := 36) rfl rfl h1 _ _ _ rfl rfl]
  rw [show ([] ++ cl ++ taskZ : List Value) = cl ++ taskZ ++ [] by simp]
  rw [fill_mid (vs := cl) (off := 36) (n := 36) rfl rfl h1 _ _ _ h1 rfl]
  simp [Instr.fill]

theorem box_ne {w : World} {g g' : Nat} {t t' : TypeId} {cs cs' : Array Value} (h : Box w g t cs) (h' : Box w g' t' cs') (ht : t ≠ t') : g ≠ g' := fun e => by
  subst e
  have := h.symm.trans h'
  injection this with this
  injection this with _ e2
  exact ht e2
theorem own_box_ne {w : World} {base g : Nat} {v : Value} {ms : List Int} {t : TypeId} {cs : Array Value} (h : Own w base v ms) (hb : Box w g t cs) (ht : 30 ≠ t) : v.ownBlock ≠ some g := fun e => by
  rcases h.1.2 with ⟨h2, _⟩ | ⟨g', cap, cur, rfl, _, hh, _⟩
  · rw [h2] at e; cases e
  · have e2 : g' = g := by injection e
    subst e2
    exact box_ne (w := w) (t := 30) hh hb ht rfl
/-- How a play is at first. -/
theorem whole_first {N K : Nat} {w1 W3 V : World} {cl : List Value} {T0 : FT} {vm : Value} {gr gf : Nat} (hb3 : Below w1.heap.size w1 W3) (hb : Below W3.heap.size W3 V) (hv : Own V W3.heap.size vm (zeros (N + 3)))
    (hr : Box V gr 42 (cl ++ cl).toArray) (hf : Box V gf 3 #[.int .i64 ((0 : Nat) : Int), .int .i64 ((0 : Nat) : Int)]) (hgr : W3.heap.size ≤ gr) (hgf : W3.heap.size ≤ gf) (hT : OffT (fun _ => False) W3 cl T0) (hd : T0.t.done = true) :
    QlyI w1.heap.size V.heap.size gr gf w1 (V.alloc (.cells (Plq.cells ⟨vm, 2, (N : Int), (K : Int), 0, 0, cl, .slice (some ⟨gr, 0, none⟩) 2 2, .slice (some ⟨gf, 0, none⟩) 2 2, 0, true⟩).toArray 73)) N K 0
      ⟨vm, 2, (N : Int), (K : Int), 0, 0, cl, .slice (some ⟨gr, 0, none⟩) 2 2, .slice (some ⟨gf, 0, none⟩) 2 2, 0, true⟩ cl cl (zeros (N + 3)) 0 T0 0 0 T0 T0 := by
  have hbV : Below V.heap.size V (V.alloc (.cells (Plq.cells ⟨vm, 2, (N : Int), (K : Int), 0, 0, cl, .slice (some ⟨gr, 0, none⟩) 2 2, .slice (some ⟨gf, 0, none⟩) 2 2, 0, true⟩).toArray 73)) := (Below.refl _ _).alloc (Nat.le_refl _) _
  have h1 := hr.lt
  have h2 := hf.lt
  have h3 := hb.size
  have h4 := hb3.size
  have hne : gr ≠ gf := box_ne hr hf (by decide)
  have hO : ∀ k, k < W3.heap.size → Our V.heap.size gr gf k → False := fun k hk ho => by
    rcases ho with e | e | e <;> omega
  have hTO := (hT.mono hO).chg (Chg.of (below_call hb hbV hb.size))
  have hVo : OffW (Our V.heap.size gr gf) V vm (zeros (N + 3)) := ⟨⟨row_base hv.1 (Nat.zero_le _), hv.2⟩, fun k hk ho => by
    have hlt := (hv.1.lt k hk).2
    rcases ho with e | e | e
    · omega
    · exact own_box_ne hv hr (by decide) (by rw [hk, e])
    · exact own_box_ne hv hf (by decide) (by rw [hk, e])⟩
  exact ⟨⟨Box.new _ _ _, hT.size.1⟩, rfl, rfl, rfl, rfl, rfl, rfl, rfl, hr.kept hbV, hf.kept hbV, hVo.chg (Chg.of hbV), hTO, hTO, hTO, qt_zero hd, by omega, by omega, hne, ⟨by omega, by omega, by omega⟩, Nat.le_refl _, below_call (below_call hb3 hb hb3.size) hbV (by omega), Nat.le_refl _⟩

set_option maxHeartbeats 16000000 in
set_option maxRecDepth 20000 in
theorem seqWhole_walk {n k : Int} {vt : Value} {l : List Int} {w : World} (hl : IntsQ w vt l) :
    Calls Try.prog 16 #[.int .i64 n, .int .i64 k, vt] w (BoolPost true w) := by
  obtain ⟨A0, d0, rfl, hd1, hd2, _⟩ := hl.1.form
  unfold maxLen at hd2
  have HL := Lib.hid hl
  clear hl
  go_enter Try.func16, Try.ntmps16
  go_wp2_with fail
  refine (awake15 _).mono ?_
  rintro e w1 ⟨rfl, hb1⟩
  replace HL := Lib.hid (HL.out.below hb1)
  have HBW := Lib.hid hb1
  clear hb1
  by_cases hn0 : n < 1
  · go_wp2
    go_ret
    exact ⟨rfl, HBW.out⟩
  by_cases hn1 : 28 < n
  · go_wp2
    go_ret
    exact ⟨rfl, HBW.out⟩
  by_cases hk0 : k < 1
  · go_wp2
    go_ret
    exact ⟨rfl, HBW.out⟩
  by_cases hk1 : 6 < k
  · go_wp2
    go_ret
    exact ⟨rfl, HBW.out⟩
  by_cases h500 : 500 < l.length
  · have h500' : (500 : Int) < (l.length : Int) := by omega
    go_wp2
    go_ret
    exact ⟨rfl, HBW.out⟩
  have n500 : ¬ (500 : Int) < (l.length : Int) := by omega
  obtain ⟨N, rfl⟩ := Int.eq_ofNat_of_zero_le (show 0 ≤ n by omega)
  obtain ⟨K, rfl⟩ := Int.eq_ofNat_of_zero_le (show 0 ≤ k by omega)
  have hN1 : 1 ≤ N := by omega
  have hN : N ≤ 28 := by omega
  have hK1 : 1 ≤ K := by omega
  have hK : K ≤ 6 := by omega
  have hn3 : IntKind.i64.wrap ((N : Int) + 3) = (N : Int) + 3 := by rw [IntKind.wrap_i64]; omega
  have hnl : newLen ((N : Int) + 3) = N + 3 := by unfold newLen; split <;> (try split) <;> omega
  have HNL := Lib.hid hnl
  clear hnl
  go_wp2_with fail
  refine calls_at fun W2 hW2 => ?_
  have hi2 : OwnI W2 w1.heap.size (.slice (some ⟨w1.heap.size, 0, none⟩) 1 1) [⟨6, 0, 0, 1, 0⟩] := by
    rw [hW2]
    exact ⟨by have := own_new w1 55 5 #[.int .i64 6, .int .i64 0, .int .i64 0, .int .i64 1, .int .u64 0] 1 rfl (by decide); simpa [Insn.cells] using this, fun x hx => by simp at hx; subst hx; simp [Insn.ok, I64, W64]⟩
  have HB2 : Hid (Below w1.heap.size w1 W2) := Lib.hid (by rw [hW2]; exact (Below.refl _ _).alloc (Nat.le_refl _) _)
  have HI2 := Lib.hid hi2
  clear hW2 hi2
  refine (start_call HI2.out.inss).mono ?_
  rintro e w3 ⟨rfl, hb3⟩
  have hot := OffT.start (X := fun _ => False) (w := w3) (HI2.out.kept hb3) (fun k hk => hk.elim) rfl
  generalize tcells (startCv _ _) (startT _).t = C3 at *
  obtain ⟨cl, rfl⟩ : ∃ l : List Value, C3 = l.toArray := ⟨C3.toList, by simp⟩
  obtain ⟨T0, hT0⟩ : ∃ T0, T0 = startT [⟨6, 0, 0, 1, 0⟩] := ⟨_, rfl⟩
  have hT : OffT (fun _ => False) w3 cl T0 := by rw [hT0]; exact hot
  have hdone : T0.t.done = true := by rw [hT0]; decide
  obtain ⟨hsz, hone, _, _⟩ := hT.size
  have HT := Lib.hid hT
  have HDN := Lib.hid hdone
  have HSZ := Lib.hid hsz
  have HONE := Lib.hid hone
  have HB3 := Lib.hid (below_call HB2.out hb3 HB2.out.size)
  clear hot hT hT0 hdone hsz hone hb3 HB2 HI2
  go_wp2_with (first | with_reducible refine mid_stop 42 _ rfl ?_ | with_reducible refine storeM_stop rfl 42 _ _ rfl ?_)
  refine AtStoreM.go w3.heap.size 0 (cs := cl) rfl rfl (newRow (by rw [HSZ.out]; rfl)).2.2 (by rw [HSZ.out]; exact size_task) HONE.out ?_
  refine wpl_at fun W3 hW3 => ?_
  have hbw3 : Below w3.heap.size w3 W3 := by rw [hW3]; exact (newRow (by rw [HSZ.out]; rfl)).1
  have HY : Hid (Box W3 w3.heap.size 42 cl.toArray) := Lib.hid (by rw [hW3]; exact (newRow (by rw [HSZ.out]; rfl)).2.1)
  replace HB3 := Lib.hid (below_call HB3.out hbw3 HB3.out.size)
  replace HT := Lib.hid (HT.out.chg (Chg.of hbw3))
  clear hW3 hbw3
  generalize w3.heap.size = g3 at *
  have hi8 : (Try.prog.info? 42).map (·.size) = some cl.length := by rw [HSZ.out]; exact size_task
  have HI8 := Lib.hid hi8
  have HS : Hid (∀ W, Below W3.heap.size W3 W → W.rangeAt g3 0 cl) := Lib.hid fun W hW => (HY.out.kept hW).range
  clear hi8
  go_wp2_with fail
  simp only [Act.put]
  go_cut [9] (fun s9 wx => ∃ (g gr gf : Nat) (p : Plq), s9 = .pointer (some ⟨g, 0, none⟩) ∧ Hid (QlyI w1.heap.size g gr gf w1 wx N K 0 p cl cl (zeros (N + 3)) 0 T0 0 0 T0 T0))
  case first =>
    refine wp_region_held_drew (S := fun W => W.rangeAt g3 0 cl) (by kernel_rfl) (HS.out W3 (Below.refl _ _)) (fun hHeld => ?_)
    refine take_at (i := 0) (v := .int .i64 (N : Int)) rfl rfl (by kernel_rfl) (by kernel_rfl) (by kernel_rfl) (fun _ _ _ h => h) (Or.inl ⟨by rfl, fun w hw => ?_⟩) hHeld ?_
    · go_simp
    simp only [List.setIfInBounds_toArray, List.set_cons_zero, List.set_cons_succ]
    refine take_at (i := 1) (v := .int .i64 ((N : Int) + 3)) rfl rfl (by kernel_rfl) (by kernel_rfl) (by kernel_rfl) (fun _ _ _ h => h) (Or.inl ⟨by rfl, fun w hw => ?_⟩) hHeld ?_
    · go_simp
    simp only [List.setIfInBounds_toArray, List.set_cons_zero, List.set_cons_succ]
    refine take_at (i := 3) (v := .int .i64 (N : Int)) rfl rfl (by kernel_rfl) (by kernel_rfl) (by kernel_rfl) (fun _ _ _ h => h) (Or.inl ⟨by rfl, fun w hw => ?_⟩) hHeld ?_
    · go_simp
    simp only [List.setIfInBounds_toArray, List.set_cons_zero, List.set_cons_succ]
    refine take_at (i := 4) (v := .int .i64 (K : Int)) rfl rfl (by kernel_rfl) (by kernel_rfl) (by kernel_rfl) (fun _ _ _ h => h) (Or.inl ⟨by rfl, fun w hw => ?_⟩) hHeld ?_
    · go_simp
    simp only [List.setIfInBounds_toArray, List.set_cons_zero, List.set_cons_succ]
    refine take_at (i := 5) (v := .agg cl.toArray) rfl rfl (by kernel_rfl) (by kernel_rfl) (by kernel_rfl) (fun _ _ _ h => h)
      (yieldsIf_load_mid (by rfl) 42 _ rfl g3 (0) rfl cl _ (fun _ h => h) Try.underlying42 rfl HI8.out) hHeld ?_
    simp only [List.setIfInBounds_toArray, List.set_cons_zero, List.set_cons_succ]
    refine take_at (i := 6) (v := .agg cl.toArray) rfl rfl (by kernel_rfl) (by kernel_rfl) (by kernel_rfl) (fun _ _ _ h => h)
      (yieldsIf_load_mid (by rfl) 42 _ rfl g3 (0) rfl cl _ (fun _ h => h) Try.underlying42 rfl HI8.out) hHeld ?_
    simp only [List.setIfInBounds_toArray, List.set_cons_zero, List.set_cons_succ]
    refine take_at (i := 7) (v := .agg cl.toArray) rfl rfl (by kernel_rfl) (by kernel_rfl) (by kernel_rfl) (fun _ _ _ h => h)
      (yieldsIf_load_mid (by rfl) 42 _ rfl g3 (0) rfl cl _ (fun _ h => h) Try.underlying42 rfl HI8.out) hHeld ?_
    simp only [List.setIfInBounds_toArray, List.set_cons_zero, List.set_cons_succ]
    refine any_at fun V0 hV0 => ?_
    have HD0 : Hid (Below W3.heap.size W3 V0) := Lib.hid (by rw [hV0]; exact ⟨rfl, rfl, rfl, Nat.le_refl _, fun _ _ => rfl⟩)
    clear hV0
    refine wpAnyH_ready (rs := [2, 8, 9]) (by kernel_rfl) (by simp) ?_
    refine AllReadyH.cons rfl (fun KQ hKQ => ?_) (AllReadyH.cons rfl (fun KQ hKQ => ?_) (AllReadyH.cons rfl (fun KQ hKQ => ?_) AllReadyH.nil))
    · go_simp
      refine (new_call ((N : Int) + 3) ⟨by omega, by omega⟩ _).mono ?_
      rintro e V1 ⟨vm, rfl, ho, hb⟩
      rw [HNL.out] at ho
      have hbb : Below V0.heap.size V0 V1 := ⟨hb.os, hb.tape, hb.output, hb.size, hb.block⟩
      obtain ⟨Am, pm, hvm, _, _⟩ := row_form ho.1
      subst hvm
      have HVM : Hid (Own V1 W3.heap.size (.slice Am (zeros (N + 3)).length pm) (zeros (N + 3))) := Lib.hid ⟨row_base ho.1 HD0.out.size, ho.2⟩
      have HD1 : Hid (Below W3.heap.size W3 V1) := Lib.hid (below_call HD0.out hbb HD0.out.size)
      refine hKQ.out _ _ (HS.out _ HD1.out) (fun hHeld => ?_)
      clear hKQ KQ hHeld ho hb hbb
      refine wpAnyH_ready (rs := [8, 9]) (by kernel_rfl) (by simp) ?_
      refine AllReadyH.cons rfl (fun KQ hKQ => ?_) (AllReadyH.cons rfl (fun KQ hKQ => ?_) AllReadyH.nil)
      · rw [if_pos (by rfl)]
        refine wp_buildSlice_run 57 2 _ rfl _ (by simp only [List.map_toArray, List.map_cons, List.map_nil]; exact tasks_build HSZ.out _) ?_
        refine hKQ.out _ _ (HS.out _ (HD1.out.alloc HD1.out.size _)) (fun hHeld => ?_)
        clear hKQ KQ hHeld
        refine any_at fun V2 hV2 => ?_
        have hbb : Below V1.heap.size V1 V2 := by rw [hV2]; exact (Below.refl _ _).alloc (Nat.le_refl _) _
        replace HVM := Lib.hid (own_kept HVM.out hbb)
        have HRB : Hid (Box V2 V1.heap.size 42 (cl ++ cl).toArray) := Lib.hid (by rw [hV2]; exact Box.new _ _ _)
        have HGR : Hid (W3.heap.size ≤ V1.heap.size) := Lib.hid HD1.out.size
        have HD2 : Hid (Below W3.heap.size W3 V2) := Lib.hid (below_call HD1.out hbb HD1.out.size)
        clear hV2 hbb
        refine wpAnyH_ready (rs := [9]) (by kernel_rfl) (by simp) ?_
        refine AllReadyH.cons rfl (fun KQ hKQ => ?_) AllReadyH.nil
        go_simp
        refine hKQ.out _ _ (HS.out _ (HD2.out.alloc HD2.out.size _)) (fun hHeld => ?_)
        clear hKQ KQ hHeld
        refine any_at fun V3 hV3 => ?_
        have hbb : Below V2.heap.size V2 V3 := by rw [hV3]; exact (Below.refl _ _).alloc (Nat.le_refl _) _
        replace HVM := Lib.hid (own_kept HVM.out hbb)
        replace HRB := Lib.hid (HRB.out.kept hbb)
        have HFB : Hid (Box V3 V2.heap.size 3 #[.int .i64 ((0 : Nat) : Int), .int .i64 ((0 : Nat) : Int)]) := Lib.hid (by rw [hV3]; exact Box.new _ _ _)
        have HGF : Hid (W3.heap.size ≤ V2.heap.size) := Lib.hid HD2.out.size
        have HD3 : Hid (Below W3.heap.size W3 V3) := Lib.hid (below_call HD2.out hbb HD2.out.size)
        clear hV3 hbb
        refine wpAnyH_ready (rs := [10]) (by kernel_rfl) (by simp) ?_
        refine AllReadyH.cons rfl (fun KQ hKQ => ?_) AllReadyH.nil
        rw [if_pos (by rfl)]
        refine wp_build_run 73 _ rfl _ (by simp only [List.map_toArray, List.map_cons, List.map_nil]; exact playQ_build rfl rfl rfl HSZ.out _) ?_
        refine hKQ.out _ _ (HS.out _ HD3.out) (fun hHeld => ?_)
        clear hKQ KQ hHeld
        refine wpAnyH_ready (rs := [11]) (by kernel_rfl) (by simp) ?_
        refine AllReadyH.cons rfl (fun KQ hKQ => ?_) AllReadyH.nil
        go_simp
        refine hKQ.out _ _ (HS.out _ (HD3.out.alloc HD3.out.size _)) (fun hHeld => ?_)
        clear hKQ KQ hHeld
        refine wpAnyH_ready (rs := [12]) (by kernel_rfl) (by simp) ?_
        refine AllReadyH.cons rfl (fun KQ hKQ => ?_) AllReadyH.nil
        go_simp
        refine hKQ.out _ _ (HS.out _ (HD3.out.alloc HD3.out.size _)) (fun hHeld => ?_)
        clear hKQ KQ hHeld
        refine wpAnyH_done (by kernel_rfl) ?_ _
        have HF := Lib.hid (whole_first (K := K) HB3.out HD3.out HVM.out HRB.out HFB.out HGR.out HGF.out HT.out HDN.out)
        go_wp2_with fail
        go_meet
        case rel => exact ⟨_, _, _, _, rfl, HF⟩
      · go_simp
        refine hKQ.out _ _ (HS.out _ (HD1.out.alloc HD1.out.size _)) (fun hHeld => ?_)
        clear hKQ KQ hHeld
        refine any_at fun V2 hV2 => ?_
        have hbb : Below V1.heap.size V1 V2 := by rw [hV2]; exact (Below.refl _ _).alloc (Nat.le_refl _) _
        replace HVM := Lib.hid (own_kept HVM.out hbb)
        have HFB : Hid (Box V2 V1.heap.size 3 #[.int .i64 ((0 : Nat) : Int), .int .i64 ((0 : Nat) : Int)]) := Lib.hid (by rw [hV2]; exact Box.new _ _ _)
        have HGF : Hid (W3.heap.size ≤ V1.heap.size) := Lib.hid HD1.out.size
        have HD2 : Hid (Below W3.heap.size W3 V2) := Lib.hid (below_call HD1.out hbb HD1.out.size)
        clear hV2 hbb
        refine wpAnyH_ready (rs := [8]) (by kernel_rfl) (by simp) ?_
        refine AllReadyH.cons rfl (fun KQ hKQ => ?_) AllReadyH.nil
        rw [if_pos (by rfl)]
        refine wp_buildSlice_run 57 2 _ rfl _ (by simp only [List.map_toArray, List.map_cons, List.map_nil]; exact tasks_build HSZ.out _) ?_
        refine hKQ.out _ _ (HS.out _ (HD2.out.alloc HD2.out.size _)) (fun hHeld => ?_)
        clear hKQ KQ hHeld
        refine any_at fun V3 hV3 => ?_
        have hbb : Below V2.heap.size V2 V3 := by rw [hV3]; exact (Below.refl _ _).alloc (Nat.le_refl _) _
        replace HVM := Lib.hid (own_kept HVM.out hbb)
        replace HFB := Lib.hid (HFB.out.kept hbb)
        have HRB : Hid (Box V3 V2.heap.size 42 (cl ++ cl).toArray) := Lib.hid (by rw [hV3]; exact Box.new _ _ _)
        have HGR : Hid (W3.heap.size ≤ V2.heap.size) := Lib.hid HD2.out.size
        have HD3 : Hid (Below W3.heap.size W3 V3) := Lib.hid (below_call HD2.out hbb HD2.out.size)
        clear hV3 hbb
        refine wpAnyH_ready (rs := [10]) (by kernel_rfl) (by simp) ?_
        refine AllReadyH.cons rfl (fun KQ hKQ => ?_) AllReadyH.nil
        rw [if_pos (by rfl)]
        refine wp_build_run 73 _ rfl _ (by simp only [List.map_toArray, List.map_cons, List.map_nil]; exact playQ_build rfl rfl rfl HSZ.out _) ?_
        refine hKQ.out _ _ (HS.out _ HD3.out) (fun hHeld => ?_)
        clear hKQ KQ hHeld
        refine wpAnyH_ready (rs := [11]) (by kernel_rfl) (by simp) ?_
        refine AllReadyH.cons rfl (fun KQ hKQ => ?_) AllReadyH.nil
        go_simp
        refine hKQ.out _ _ (HS.out _ (HD3.out.alloc HD3.out.size _)) (fun hHeld => ?_)
        clear hKQ KQ hHeld
        refine wpAnyH_ready (rs := [12]) (by kernel_rfl) (by simp) ?_
        refine AllReadyH.cons rfl (fun KQ hKQ => ?_) AllReadyH.nil
        go_simp
        refine hKQ.out _ _ (HS.out _ (HD3.out.alloc HD3.out.size _)) (fun hHeld => ?_)
        clear hKQ KQ hHeld
        refine wpAnyH_done (by kernel_rfl) ?_ _
        have HF := Lib.hid (whole_first (K := K) HB3.out HD3.out HVM.out HRB.out HFB.out HGR.out HGF.out HT.out HDN.out)
        go_wp2_with fail
        go_meet
        case rel => exact ⟨_, _, _, _, rfl, HF⟩
    · rw [if_pos (by rfl)]
      refine wp_buildSlice_run 57 2 _ rfl _ (by simp only [List.map_toArray, List.map_cons, List.map_nil]; exact tasks_build HSZ.out _) ?_
      refine hKQ.out _ _ (HS.out _ (HD0.out.alloc HD0.out.size _)) (fun hHeld => ?_)
      clear hKQ KQ hHeld
      refine any_at fun V1 hV1 => ?_
      have hbb : Below V0.heap.size V0 V1 := by rw [hV1]; exact (Below.refl _ _).alloc (Nat.le_refl _) _
      have HRB : Hid (Box V1 V0.heap.size 42 (cl ++ cl).toArray) := Lib.hid (by rw [hV1]; exact Box.new _ _ _)
      have HGR : Hid (W3.heap.size ≤ V0.heap.size) := Lib.hid HD0.out.size
      have HD1 : Hid (Below W3.heap.size W3 V1) := Lib.hid (below_call HD0.out hbb HD0.out.size)
      clear hV1 hbb
      refine wpAnyH_ready (rs := [2, 9]) (by kernel_rfl) (by simp) ?_
      refine AllReadyH.cons rfl (fun KQ hKQ => ?_) (AllReadyH.cons rfl (fun KQ hKQ => ?_) AllReadyH.nil)
      · go_simp
        refine (new_call ((N : Int) + 3) ⟨by omega, by omega⟩ _).mono ?_
        rintro e V2 ⟨vm, rfl, ho, hb⟩
        rw [HNL.out] at ho
        have hbb : Below V1.heap.size V1 V2 := ⟨hb.os, hb.tape, hb.output, hb.size, hb.block⟩
        replace HRB := Lib.hid (HRB.out.kept hbb)
        obtain ⟨Am, pm, hvm, _, _⟩ := row_form ho.1
        subst hvm
        have HVM : Hid (Own V2 W3.heap.size (.slice Am (zeros (N + 3)).length pm) (zeros (N + 3))) := Lib.hid ⟨row_base ho.1 HD1.out.size, ho.2⟩
        have HD2 : Hid (Below W3.heap.size W3 V2) := Lib.hid (below_call HD1.out hbb HD1.out.size)
        refine hKQ.out _ _ (HS.out _ HD2.out) (fun hHeld => ?_)
        clear hKQ KQ hHeld ho hb hbb
        refine wpAnyH_ready (rs := [9]) (by kernel_rfl) (by simp) ?_
        refine AllReadyH.cons rfl (fun KQ hKQ => ?_) AllReadyH.nil
        go_simp
        refine hKQ.out _ _ (HS.out _ (HD2.out.alloc HD2.out.size _)) (fun hHeld => ?_)
        clear hKQ KQ hHeld
        refine any_at fun V3 hV3 => ?_
        have hbb : Below V2.heap.size V2 V3 := by rw [hV3]; exact (Below.refl _ _).alloc (Nat.le_refl _) _
        replace HVM := Lib.hid (own_kept HVM.out hbb)
        replace HRB := Lib.hid (HRB.out.kept hbb)
        have HFB : Hid (Box V3 V2.heap.size 3 #[.int .i64 ((0 : Nat) : Int), .int .i64 ((0 : Nat) : Int)]) := Lib.hid (by rw [hV3]; exact Box.new _ _ _)
        have HGF : Hid (W3.heap.size ≤ V2.heap.size) := Lib.hid HD2.out.size
        have HD3 : Hid (Below W3.heap.size W3 V3) := Lib.hid (below_call HD2.out hbb HD2.out.size)
        clear hV3 hbb
        refine wpAnyH_ready (rs := [10]) (by kernel_rfl) (by simp) ?_
        refine AllReadyH.cons rfl (fun KQ hKQ => ?_) AllReadyH.nil
        rw [if_pos (by rfl)]
        refine wp_build_run 73 _ rfl _ (by simp only [List.map_toArray, List.map_cons, List.map_nil]; exact playQ_build rfl rfl rfl HSZ.out _) ?_
        refine hKQ.out _ _ (HS.out _ HD3.out) (fun hHeld => ?_)
        clear hKQ KQ hHeld
        refine wpAnyH_ready (rs := [11]) (by kernel_rfl) (by simp) ?_
        refine AllReadyH.cons rfl (fun KQ hKQ => ?_) AllReadyH.nil
        go_simp
        refine hKQ.out _ _ (HS.out _ (HD3.out.alloc HD3.out.size _)) (fun hHeld => ?_)
        clear hKQ KQ hHeld
        refine wpAnyH_ready (rs := [12]) (by kernel_rfl) (by simp) ?_
        refine AllReadyH.cons rfl (fun KQ hKQ => ?_) AllReadyH.nil
        go_simp
        refine hKQ.out _ _ (HS.out _ (HD3.out.alloc HD3.out.size _)) (fun hHeld => ?_)
        clear hKQ KQ hHeld
        refine wpAnyH_done (by kernel_rfl) ?_ _
        have HF := Lib.hid (whole_first (K := K) HB3.out HD3.out HVM.out HRB.out HFB.out HGR.out HGF.out HT.out HDN.out)
        go_wp2_with fail
        go_meet
        case rel => exact ⟨_, _, _, _, rfl, HF⟩
      · go_simp
        refine hKQ.out _ _ (HS.out _ (HD1.out.alloc HD1.out.size _)) (fun hHeld => ?_)
        clear hKQ KQ hHeld
        refine any_at fun V2 hV2 => ?_
        have hbb : Below V1.heap.size V1 V2 := by rw [hV2]; exact (Below.refl _ _).alloc (Nat.le_refl _) _
        replace HRB := Lib.hid (HRB.out.kept hbb)
        have HFB : Hid (Box V2 V1.heap.size 3 #[.int .i64 ((0 : Nat) : Int), .int .i64 ((0 : Nat) : Int)]) := Lib.hid (by rw [hV2]; exact Box.new _ _ _)
        have HGF : Hid (W3.heap.size ≤ V1.heap.size) := Lib.hid HD1.out.size
        have HD2 : Hid (Below W3.heap.size W3 V2) := Lib.hid (below_call HD1.out hbb HD1.out.size)
        clear hV2 hbb
        refine wpAnyH_ready (rs := [2]) (by kernel_rfl) (by simp) ?_
        refine AllReadyH.cons rfl (fun KQ hKQ => ?_) AllReadyH.nil
        go_simp
        refine (new_call ((N : Int) + 3) ⟨by omega, by omega⟩ _).mono ?_
        rintro e V3 ⟨vm, rfl, ho, hb⟩
        rw [HNL.out] at ho
        have hbb : Below V2.heap.size V2 V3 := ⟨hb.os, hb.tape, hb.output, hb.size, hb.block⟩
        replace HRB := Lib.hid (HRB.out.kept hbb)
        replace HFB := Lib.hid (HFB.out.kept hbb)
        obtain ⟨Am, pm, hvm, _, _⟩ := row_form ho.1
        subst hvm
        have HVM : Hid (Own V3 W3.heap.size (.slice Am (zeros (N + 3)).length pm) (zeros (N + 3))) := Lib.hid ⟨row_base ho.1 HD2.out.size, ho.2⟩
        have HD3 : Hid (Below W3.heap.size W3 V3) := Lib.hid (below_call HD2.out hbb HD2.out.size)
        refine hKQ.out _ _ (HS.out _ HD3.out) (fun hHeld => ?_)
        clear hKQ KQ hHeld ho hb hbb
        refine wpAnyH_ready (rs := [10]) (by kernel_rfl) (by simp) ?_
        refine AllReadyH.cons rfl (fun KQ hKQ => ?_) AllReadyH.nil
        rw [if_pos (by rfl)]
        refine wp_build_run 73 _ rfl _ (by simp only [List.map_toArray, List.map_cons, List.map_nil]; exact playQ_build rfl rfl rfl HSZ.out _) ?_
        refine hKQ.out _ _ (HS.out _ HD3.out) (fun hHeld => ?_)
        clear hKQ KQ hHeld
        refine wpAnyH_ready (rs := [11]) (by kernel_rfl) (by simp) ?_
        refine AllReadyH.cons rfl (fun KQ hKQ => ?_) AllReadyH.nil
        go_simp
        refine hKQ.out _ _ (HS.out _ (HD3.out.alloc HD3.out.size _)) (fun hHeld => ?_)
        clear hKQ KQ hHeld
        refine wpAnyH_ready (rs := [12]) (by kernel_rfl) (by simp) ?_
        refine AllReadyH.cons rfl (fun KQ hKQ => ?_) AllReadyH.nil
        go_simp
        refine hKQ.out _ _ (HS.out _ (HD3.out.alloc HD3.out.size _)) (fun hHeld => ?_)
        clear hKQ KQ hHeld
        refine wpAnyH_done (by kernel_rfl) ?_ _
        have HF := Lib.hid (whole_first (K := K) HB3.out HD3.out HVM.out HRB.out HFB.out HGR.out HGF.out HT.out HDN.out)
        go_wp2_with fail
        go_meet
        case rel => exact ⟨_, _, _, _, rfl, HF⟩
    · go_simp
      refine hKQ.out _ _ (HS.out _ (HD0.out.alloc HD0.out.size _)) (fun hHeld => ?_)
      clear hKQ KQ hHeld
      refine any_at fun V1 hV1 => ?_
      have hbb : Below V0.heap.size V0 V1 := by rw [hV1]; exact (Below.refl _ _).alloc (Nat.le_refl _) _
      have HFB : Hid (Box V1 V0.heap.size 3 #[.int .i64 ((0 : Nat) : Int), .int .i64 ((0 : Nat) : Int)]) := Lib.hid (by rw [hV1]; exact Box.new _ _ _)
      have HGF : Hid (W3.heap.size ≤ V0.heap.size) := Lib.hid HD0.out.size
      have HD1 : Hid (Below W3.heap.size W3 V1) := Lib.hid (below_call HD0.out hbb HD0.out.size)
      clear hV1 hbb
      refine wpAnyH_ready (rs := [2, 8]) (by kernel_rfl) (by simp) ?_
      refine AllReadyH.cons rfl (fun KQ hKQ => ?_) (AllReadyH.cons rfl (fun KQ hKQ => ?_) AllReadyH.nil)
      · go_simp
        refine (new_call ((N : Int) + 3) ⟨by omega, by omega⟩ _).mono ?_
        rintro e V2 ⟨vm, rfl, ho, hb⟩
        rw [HNL.out] at ho
        have hbb : Below V1.heap.size V1 V2 := ⟨hb.os, hb.tape, hb.output, hb.size, hb.block⟩
        replace HFB := Lib.hid (HFB.out.kept hbb)
        obtain ⟨Am, pm, hvm, _, _⟩ := row_form ho.1
        subst hvm
        have HVM : Hid (Own V2 W3.heap.size (.slice Am (zeros (N + 3)).length pm) (zeros (N + 3))) := Lib.hid ⟨row_base ho.1 HD1.out.size, ho.2⟩
        have HD2 : Hid (Below W3.heap.size W3 V2) := Lib.hid (below_call HD1.out hbb HD1.out.size)
        refine hKQ.out _ _ (HS.out _ HD2.out) (fun hHeld => ?_)
        clear hKQ KQ hHeld ho hb hbb
        refine wpAnyH_ready (rs := [8]) (by kernel_rfl) (by simp) ?_
        refine AllReadyH.cons rfl (fun KQ hKQ => ?_) AllReadyH.nil
        rw [if_pos (by rfl)]
        refine wp_buildSlice_run 57 2 _ rfl _ (by simp only [List.map_toArray, List.map_cons, List.map_nil]; exact tasks_build HSZ.out _) ?_
        refine hKQ.out _ _ (HS.out _ (HD2.out.alloc HD2.out.size _)) (fun hHeld => ?_)
        clear hKQ KQ hHeld
        refine any_at fun V3 hV3 => ?_
        have hbb : Below V2.heap.size V2 V3 := by rw [hV3]; exact (Below.refl _ _).alloc (Nat.le_refl _) _
        replace HVM := Lib.hid (own_kept HVM.out hbb)
        replace HFB := Lib.hid (HFB.out.kept hbb)
        have HRB : Hid (Box V3 V2.heap.size 42 (cl ++ cl).toArray) := Lib.hid (by rw [hV3]; exact Box.new _ _ _)
        have HGR : Hid (W3.heap.size ≤ V2.heap.size) := Lib.hid HD2.out.size
        have HD3 : Hid (Below W3.heap.size W3 V3) := Lib.hid (below_call HD2.out hbb HD2.out.size)
        clear hV3 hbb
        refine wpAnyH_ready (rs := [10]) (by kernel_rfl) (by simp) ?_
        refine AllReadyH.cons rfl (fun KQ hKQ => ?_) AllReadyH.nil
        rw [if_pos (by rfl)]
        refine wp_build_run 73 _ rfl _ (by simp only [List.map_toArray, List.map_cons, List.map_nil]; exact playQ_build rfl rfl rfl HSZ.out _) ?_
        refine hKQ.out _ _ (HS.out _ HD3.out) (fun hHeld => ?_)
        clear hKQ KQ hHeld
        refine wpAnyH_ready (rs := [11]) (by kernel_rfl) (by simp) ?_
        refine AllReadyH.cons rfl (fun KQ hKQ => ?_) AllReadyH.nil
        go_simp
        refine hKQ.out _ _ (HS.out _ (HD3.out.alloc HD3.out.size _)) (fun hHeld => ?_)
        clear hKQ KQ hHeld
        refine wpAnyH_ready (rs := [12]) (by kernel_rfl) (by simp) ?_
        refine AllReadyH.cons rfl (fun KQ hKQ => ?_) AllReadyH.nil
        go_simp
        refine hKQ.out _ _ (HS.out _ (HD3.out.alloc HD3.out.size _)) (fun hHeld => ?_)
        clear hKQ KQ hHeld
        refine wpAnyH_done (by kernel_rfl) ?_ _
        have HF := Lib.hid (whole_first (K := K) HB3.out HD3.out HVM.out HRB.out HFB.out HGR.out HGF.out HT.out HDN.out)
        go_wp2_with fail
        go_meet
        case rel => exact ⟨_, _, _, _, rfl, HF⟩
      · rw [if_pos (by rfl)]
        refine wp_buildSlice_run 57 2 _ rfl _ (by simp only [List.map_toArray, List.map_cons, List.map_nil]; exact tasks_build HSZ.out _) ?_
        refine hKQ.out _ _ (HS.out _ (HD1.out.alloc HD1.out.size _)) (fun hHeld => ?_)
        clear hKQ KQ hHeld
        refine any_at fun V2 hV2 => ?_
        have hbb : Below V1.heap.size V1 V2 := by rw [hV2]; exact (Below.refl _ _).alloc (Nat.le_refl _) _
        replace HFB := Lib.hid (HFB.out.kept hbb)
        have HRB : Hid (Box V2 V1.heap.size 42 (cl ++ cl).toArray) := Lib.hid (by rw [hV2]; exact Box.new _ _ _)
        have HGR : Hid (W3.heap.size ≤ V1.heap.size) := Lib.hid HD1.out.size
        have HD2 : Hid (Below W3.heap.size W3 V2) := Lib.hid (below_call HD1.out hbb HD1.out.size)
        clear hV2 hbb
        refine wpAnyH_ready (rs := [2]) (by kernel_rfl) (by simp) ?_
        refine AllReadyH.cons rfl (fun KQ hKQ => ?_) AllReadyH.nil
        go_simp
        refine (new_call ((N : Int) + 3) ⟨by omega, by omega⟩ _).mono ?_
        rintro e V3 ⟨vm, rfl, ho, hb⟩
        rw [HNL.out] at ho
        have hbb : Below V2.heap.size V2 V3 := ⟨hb.os, hb.tape, hb.output, hb.size, hb.block⟩
        replace HRB := Lib.hid (HRB.out.kept hbb)
        replace HFB := Lib.hid (HFB.out.kept hbb)
        obtain ⟨Am, pm, hvm, _, _⟩ := row_form ho.1
        subst hvm
        have HVM : Hid (Own V3 W3.heap.size (.slice Am (zeros (N + 3)).length pm) (zeros (N + 3))) := Lib.hid ⟨row_base ho.1 HD2.out.size, ho.2⟩
        have HD3 : Hid (Below W3.heap.size W3 V3) := Lib.hid (below_call HD2.out hbb HD2.out.size)
        refine hKQ.out _ _ (HS.out _ HD3.out) (fun hHeld => ?_)
        clear hKQ KQ hHeld ho hb hbb
        refine wpAnyH_ready (rs := [10]) (by kernel_rfl) (by simp) ?_
        refine AllReadyH.cons rfl (fun KQ hKQ => ?_) AllReadyH.nil
        rw [if_pos (by rfl)]
        refine wp_build_run 73 _ rfl _ (by simp only [List.map_toArray, List.map_cons, List.map_nil]; exact playQ_build rfl rfl rfl HSZ.out _) ?_
        refine hKQ.out _ _ (HS.out _ HD3.out) (fun hHeld => ?_)
        clear hKQ KQ hHeld
        refine wpAnyH_ready (rs := [11]) (by kernel_rfl) (by simp) ?_
        refine AllReadyH.cons rfl (fun KQ hKQ => ?_) AllReadyH.nil
        go_simp
        refine hKQ.out _ _ (HS.out _ (HD3.out.alloc HD3.out.size _)) (fun hHeld => ?_)
        clear hKQ KQ hHeld
        refine wpAnyH_ready (rs := [12]) (by kernel_rfl) (by simp) ?_
        refine AllReadyH.cons rfl (fun KQ hKQ => ?_) AllReadyH.nil
        go_simp
        refine hKQ.out _ _ (HS.out _ (HD3.out.alloc HD3.out.size _)) (fun hHeld => ?_)
        clear hKQ KQ hHeld
        refine wpAnyH_done (by kernel_rfl) ?_ _
        have HF := Lib.hid (whole_first (K := K) HB3.out HD3.out HVM.out HRB.out HFB.out HGR.out HGF.out HT.out HDN.out)
        go_wp2_with fail
        go_meet
        case rel => exact ⟨_, _, _, _, rfl, HF⟩
  case rest =>
    obtain ⟨g, gr, gf, p0, rfl, HP0⟩ := hcut
    obtain ⟨w4, rfl⟩ : ∃ w4 : World, w4 = wc := ⟨_, rfl⟩
    go_wp2_with fail
    go_loopw [10, 11] (fun iv xv wr => ∃ (i : Nat) (p : Plq) (c0 c1 : List Value) (m : List Int) (D : Nat) (wt : FT) (F0 F1 : Nat) (T1 T2 : FT), i ≤ l.length ∧ iv = .int .i64 (i : Int) ∧ Hid (QlyI w1.heap.size g gr gf w1 wr N K i p c0 c1 m D wt F0 F1 T1 T2)) (fun iv _ _ => l.length - (intOf iv).toNat)
    case atStart => exact ⟨0, p0, _, _, _, _, _, _, _, _, _, Nat.zero_le _, rfl, HP0⟩
    case round =>
      clear HP0
      obtain ⟨i, p, c0, c1, m, D, wt, F0, F1, T1, T2, hi, rfl, HP⟩ := hrel
      have c45 : wr.cell? ⟨g, 45, none⟩ = some (.bool true) := (HP.out.ply.high 3).trans (by simp [HP.out.ok_is])
      by_cases hlt : i < l.length
      · have hiI : (i : Int) < (l.length : Int) := by omega
        have hi1 : IntKind.i64.wrap ((i : Int) + 1) = (i : Int) + 1 := by rw [IntKind.wrap_i64]; omega
        obtain ⟨bt, ot, hA, _, pt⟩ := (HL.out.below HP.out.below).at_ rfl hlt
        subst hA
        have hi0 : (0 : Int) ≤ (i : Int) := by omega
        have hs : i < 500 := by omega
        obtain ⟨q, hq, hqe⟩ := and_mask (l.getD i 0) 3 (by omega)
        have e3 : ((3 : Nat) : Int) = 3 := rfl
        rw [e3] at hqe
        generalize l.getD i 0 = lx at *
        clear e3
        have hq4 : q = 0 ∨ q = 1 ∨ q = 2 ∨ q = 3 := by omega
        clear hq
        rcases hq4 with rfl | rfl | rfl | rfl
        · have hqe' : bits BinOp.and IntKind.i64 lx 3 = 0 := hqe
          clear hqe
          go_wp2_with fail
          refine (reader0_call HP.out hN1 hN hK1 hK hs).mono ?_
          rintro e w5 ⟨rfl, p', c0', c1', m', D', wt', F0', F1', T1', T2', hp'⟩
          have HQ := Lib.hid hp'
          clear hp'
          go_wp2_with fail
          go_roundw
          case rel => exact ⟨i + 1, p', c0', c1', m', D', wt', F0', F1', T1', T2', by omega, by go_num, HQ⟩
          case measure => simp [intOf]; omega
        · have hqe' : bits BinOp.and IntKind.i64 lx 3 = 1 := hqe
          clear hqe
          go_wp2_with fail
          refine (reader1_call HP.out hN1 hN hK1 hK hs).mono ?_
          rintro e w5 ⟨rfl, p', c0', c1', m', D', wt', F0', F1', T1', T2', hp'⟩
          have HQ := Lib.hid hp'
          clear hp'
          go_wp2_with fail
          go_roundw
          case rel => exact ⟨i + 1, p', c0', c1', m', D', wt', F0', F1', T1', T2', by omega, by go_num, HQ⟩
          case measure => simp [intOf]; omega
        · have hqe' : bits BinOp.and IntKind.i64 lx 3 = 2 := hqe
          clear hqe
          go_wp2_with fail
          refine (writer_call HP.out hN1 hN hs).mono ?_
          rintro e w5 ⟨rfl, p', c0', c1', m', D', wt', F0', F1', T1', T2', hp'⟩
          have HQ := Lib.hid hp'
          clear hp'
          go_wp2_with fail
          go_roundw
          case rel => exact ⟨i + 1, p', c0', c1', m', D', wt', F0', F1', T1', T2', by omega, by go_num, HQ⟩
          case measure => simp [intOf]; omega
        · have hqe' : bits BinOp.and IntKind.i64 lx 3 = 3 := hqe
          clear hqe
          go_wp2_with fail
          refine (writer_call HP.out hN1 hN hs).mono ?_
          rintro e w5 ⟨rfl, p', c0', c1', m', D', wt', F0', F1', T1', T2', hp'⟩
          have HQ := Lib.hid hp'
          clear hp'
          go_wp2_with fail
          go_roundw
          case rel => exact ⟨i + 1, p', c0', c1', m', D', wt', F0', F1', T1', T2', by omega, by go_num, HQ⟩
          case measure => simp [intOf]; omega
      · have hiI : ¬ (i : Int) < (l.length : Int) := by omega
        have HBV := Lib.hid (below_call HBW.out HP.out.below HBW.out.size)
        go_wp2
        go_ret
        exact ⟨rfl, HBV.out⟩
end Go.Proofs.Ytpkelneimjmmkaa

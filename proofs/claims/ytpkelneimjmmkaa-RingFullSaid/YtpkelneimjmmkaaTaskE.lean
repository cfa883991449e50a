/- The contract of task.rest. -/
import Derived.Test.YtpkelneimjmmkaaTaskD
namespace Go.Proofs.Ytpkelneimjmmkaa
open Go.RowKit Go.Shelf
attribute [local go_sem] Oper.semAt_some

/-! ### Whole rows inside a fence -/
section
variable {F : Fence} {n : Nat} {P : Program} {w : World} {ops : Array Oper} {rest : List Oper} {o : Oper} {a : Act} {Q : Exit → Act → World → Prop}
/-- Where the fenced walk stops: at a load, or a store, of a whole row. -/
def AtLoadIn (F : Fence) (n : Nat) (P : Program) (ops : Array Oper) (Q : Exit → Act → World → Prop) (rest : List Oper) (o : Oper) (ty : TypeId) (x : Operand) (a : Act) (w : World) : Prop :=
  ∃ (g : Nat) (t : TypeId) (cs : Array Value) (d : TypeDesc), a.eval x = .pointer (some ⟨g, 0, none⟩) ∧ Box w g t cs ∧ P.underlying ty = some d ∧ d.isRow = true ∧
    (P.info? ty).map (·.size) = some cs.size ∧ wpListIn F n P ops Q rest (a.put o.dst (.agg cs)) w
def AtStoreIn (F : Fence) (n : Nat) (P : Program) (ops : Array Oper) (Q : Exit → Act → World → Prop) (rest : List Oper) (o : Oper) (ty : TypeId) (x y : Operand) (a : Act) (w : World) : Prop :=
  ∃ (g : Nat) (t : TypeId) (old cs : Array Value), a.eval x = .pointer (some ⟨g, 0, none⟩) ∧ a.eval y = .agg cs ∧ Box w g t old ∧ (P.info? ty).map (·.size) = some cs.size ∧ old.size = cs.size ∧ cs.all (·.oneCell') = true ∧
    wpListIn F n P ops Q rest (a.put o.dst undef) (w.setRow g cs)
theorem load_stopIn (hgd : o.guard = none) (ty : TypeId) (x : Operand) (ho : o.op = .load ty x) (h : AtLoadIn F n P ops Q rest o ty x a w) : wpListIn F n P ops Q (o :: rest) a w := by
  obtain ⟨g, t, cs, d, hx, hB, hu, hd, hi, h⟩ := h
  refine wpListIn_plain hgd fun K hK => ?_
  unfold Oper.wpIn
  refine ⟨by simp [Oper.about, ho], ?_⟩
  rw [Oper.semAt_plain F _ _ (by rw [ho]; intro c hc; cases hc)]
  unfold execOp
  simp only [ho, hx, Instr.loadAt, Instr.sureAddr, Sem.run_bind, Sem.run_pure, Result.andThen_ok, run_loadVar_row w g t ty cs (0, 0) d hB hu (by cases d <;> simp_all [TypeDesc.isRow]) hi]
  exact hK _ _ h
theorem store_stopIn (hgd : o.guard = none) (ty : TypeId) (x y : Operand) (ho : o.op = .store ty x y) (h : AtStoreIn F n P ops Q rest o ty x y a w) : wpListIn F n P ops Q (o :: rest) a w := by
  obtain ⟨g, t, old, cs, hx, hy, hB, hi, hold, h1, h⟩ := h
  refine wpListIn_plain hgd fun K hK => ?_
  unfold Oper.wpIn
  refine ⟨by simp [Oper.about, ho], ?_⟩
  rw [Oper.semAt_plain F _ _ (by rw [ho]; intro c hc; cases hc)]
  unfold execOp
  simp only [ho, hx, hy, Instr.storeAt, Instr.sureAddr, Sem.run_bind, Sem.run_pure, Result.andThen_ok, run_storeVar_row w g t ty old cs hB hi hold h1]
  exact hK _ _ h
theorem AtLoadIn.go {ty : TypeId} {x : Operand} (g : Nat) {t : TypeId} {cs : Array Value} {d : TypeDesc} (hx : a.eval x = .pointer (some ⟨g, 0, none⟩)) (hB : Box w g t cs) (hu : P.underlying ty = some d)
    (hd : d.isRow = true) (hi : (P.info? ty).map (·.size) = some cs.size) (h : wpListIn F n P ops Q rest (a.put o.dst (.agg cs)) w) : AtLoadIn F n P ops Q rest o ty x a w :=
  ⟨g, t, cs, d, hx, hB, hu, hd, hi, h⟩
theorem AtStoreIn.go {ty : TypeId} {x y : Operand} (g : Nat) {t : TypeId} {old cs : Array Value} (hx : a.eval x = .pointer (some ⟨g, 0, none⟩)) (hy : a.eval y = .agg cs) (hB : Box w g t old) (hi : (P.info? ty).map (·.size) = some cs.size)
    (hold : old.size = cs.size) (h1 : cs.all (·.oneCell') = true) (h : wpListIn F n P ops Q rest (a.put o.dst undef) (w.setRow g cs)) : AtStoreIn F n P ops Q rest o ty x y a w :=
  ⟨g, t, old, cs, hx, hy, hB, hi, hold, h1, h⟩
end

/-- task.alone: the iterator's value. -/
theorem alone_made (g : Nat) (w : World) : Calls Try.prog 95 #[.pointer (some ⟨g, 0, none⟩)] w
    (fun e w' => e = .returned (.func (.func 99) #[] #[.pointer (some ⟨w.heap.size, 0, none⟩)]) ∧ w' = w.alloc (.cells #[.pointer (some ⟨g, 0, none⟩)] 112)) := by
  go_enter Try.func95, Try.ntmps95
  go_wp2
  go_ret
  exact ⟨rfl, rfl⟩

/-- The worlds between two rounds (and within one: st): the task at the call's first block, the result's cells behind it, what the iterator has captured, the block for deferred calls, the loop's record. -/
structure RJ (w : World) (cv : Value) (rec : LoopState → Option Code → Loop) (z : Array Value) (st : LoopState) (t : Tsk) (W : World) : Prop where
  box : Box W w.heap.size 42 (tcells cv t)
  ok : t.ok
  res : Box W (w.heap.size + 1) 42 z
  ptr : Box W (w.heap.size + 2) 112 #[.pointer (some ⟨w.heap.size, 0, none⟩)]
  defs : W.heap[w.heap.size + 3]? = some (.deferred (some []))
  loop : W.heap[w.heap.size + 4]? = some (.loop (rec st none))
  below : Below w.heap.size w W
section
variable {w : World} {cv : Value} {rec : LoopState → Option Code → Loop} {z : Array Value} {st st' : LoopState} {t t' : Tsk} {W W' : World}
theorem RJ.lt (h : RJ w cv rec z st t W) : w.heap.size + 4 < W.heap.size := (Array.getElem?_eq_some_iff.1 h.loop).1
theorem RJ.moved (h : RJ w cv rec z st t W) (hb : Below W.heap.size W W') : RJ w cv rec z st t W' := by
  have := h.lt
  exact ⟨h.box.kept hb, h.ok, h.res.kept hb, h.ptr.kept hb, (hb.block _ (by omega)).trans h.defs, (hb.block _ (by omega)).trans h.loop, below_call h.below hb h.below.size⟩
theorem RJ.set (h : RJ w cv rec z st t W) (ht : t'.ok) (hg : W.grownBy W' (some w.heap.size)) (hB : Box W' w.heap.size 42 (tcells cv t')) : RJ w cv rec z st t' W' := by
  have := h.lt
  have hk : ∀ k, k < W.heap.size → k ≠ w.heap.size → W'.heap[k]? = W.heap[k]? := fun k hk hne => hg.block k hk (fun e => hne (by injection e))
  exact ⟨hB, ht, (hk _ (by omega) (by omega)).trans h.res, (hk _ (by omega) (by omega)).trans h.ptr, (hk _ (by omega) (by omega)).trans h.defs, (hk _ (by omega) (by omega)).trans h.loop,
    h.below.grown hg h.below.size (fun k e => by cases e; exact Nat.le_refl _)⟩
theorem RJ.turn (h : RJ w cv rec z st t W) : RJ w cv rec z st' t (W.putObj (w.heap.size + 4) (.loop (rec st' none))) := by
  have := h.lt
  have hk : ∀ k, k ≠ w.heap.size + 4 → (W.putObj (w.heap.size + 4) (.loop (rec st' none))).heap[k]? = W.heap[k]? := fun k hk => World.putObj_heap_other hk
  exact ⟨(hk _ (by omega)).trans h.box, h.ok, (hk _ (by omega)).trans h.res, (hk _ (by omega)).trans h.ptr, (hk _ (by omega)).trans h.defs, World.putObj_heap_same (by omega),
    h.below.grown (grownBy_putObj' _ _ _) h.below.size (fun k e => by cases e; omega)⟩
theorem RJ.turns (code : List Insn) (hI : Inss w cv code) : Turns w.heap.size (w.heap.size + 2) cv code (RJ w cv rec z .ready) where
  box h := h.box
  ok h := h.ok
  ptr h := (h.ptr.cell 0).trans rfl
  plt h := h.ptr.lt
  code h := hI.below h.below
  moved h hb := h.moved hb
  set h ht hg hB := h.set ht hg hB
end

theorem wpIn_at {F : Fence} {n : Nat} {P : Program} {c : Code} {Q : Exit → Act → World → Prop} {a : Act} {W : World} (h : ∀ W0, W0 = W → c.wpIn F n P Q a W0) : c.wpIn F n P Q a W := h W rfl

/-- The statement 'for x := range f' whose rounds all run to their ends: the call of f, where each call of yield is a round. -/
theorem range_law {n m : Nat} {P : Program} {g : Operand} {p : Tmp} {assign body : Code} {Q : Exit → Act → World → Prop} {a : Act} {W0 : World} {gf : Nat} {lb : Array Value}
    (hg : a.eval g = .func (.func gf) #[] lb) (eg : ∀ args w, (callFunc gf args).run P w = .ok (.enter gf args) w)
    (hcall : ∀ rec : LoopState → Option Code → Loop,
      (∀ (x : Value) (W1 : World) (R : World → Prop), W1.heap[W0.heap.size + 1]? = some (.loop (rec .ready none)) →
        assign.wpIn (Fence.wide.inRound (W0.heap.size + 1)) m P (Exit.then (fun a1 w1 => w1.heap[W0.heap.size + 1]? = some (.loop (rec .ready none)) ∧
          body.wpIn (Fence.wide.inRound (W0.heap.size + 1)) m P (fun e _ w2 => e = .normal ∧ w2.heap[W0.heap.size + 1]? = some (.loop (rec .busy none)) ∧ R (w2.putObj (W0.heap.size + 1) (.loop (rec .ready none))))
            a1 (w1.putObj (W0.heap.size + 1) (.loop (rec .busy none)))) (fun _ _ _ => False)) { tmps := a.tmps.setIfInBounds p x, defers := [] } W1 →
        YieldAt Fence.wide m P (W0.heap.size + 1) #[x] W1 (fun e W' => e = .returned (.bool true) ∧ R W')) →
      Calls P gf (#[.func (.yield (W0.heap.size + 1)) #[] #[]] ++ lb) ((W0.alloc (.deferred (some []))).alloc (.loop (rec .ready none))) (fun e W' => (∃ v, e = .returned v) ∧
        W'.heap[W0.heap.size + 1]? = some (.loop (rec .ready none)) ∧
        ∀ o, Q .normal { a with defers := { target := .collected W0.heap.size, args := #[] } :: a.defers } (W'.putObj (W0.heap.size + 1) o))) :
    (Code.rangeFunc g #[p] assign body).wpIn Fence.wide n P Q a W0 := by
  refine wpIn_rangeFunc ?_
  intro fn hfn
  obtain ⟨rec, hrec⟩ : ∃ rec : LoopState → Option Code → Loop, rec = fun st pe => { state := st, pending := pe, fn, tmps := a.tmps, params := #[p], assign, body, defers := W0.heap.size } := ⟨_, rfl⟩
  refine ⟨W0.heap.size + 1, [{ target := .collected W0.heap.size, args := #[] }], (W0.alloc (.deferred (some []))).alloc (.loop (rec .ready none)), { target := .fn (.func gf) lb, args := #[.func (.yield (W0.heap.size + 1)) #[] #[]] },
    (W0.alloc (.deferred (some []))).alloc (.loop (rec .ready none)), gf, #[.func (.yield (W0.heap.size + 1)) #[] #[]] ++ lb, (W0.alloc (.deferred (some []))).alloc (.loop (rec .ready none)), ?_, ?_, ?_, ?_, fun h => absurd h (by simp [Fence.wide]), ?_⟩
  · rw [hrec]; exact run_enterLoop_outer _ _ _ _ _
  · simp only [resolve, hg]
    simp [go_sem]
  · intro f' _; trivial
  · simp [invoke, go_sem, eg]
  · refine callsIn_wide.2 ((hcall rec ?_).mono ?_)
    · intro x W1 R hl hr
      have hy := run_yield (P := P) (args := #[x]) hl (by rw [hrec]; rfl)
      have hy' : (Instr.yield (W0.heap.size + 1) #[x]).run P W1 = .ok (.round (W0.heap.size + 1) fn (a.tmps.setIfInBounds p x) assign body) W1 := by
        rw [hrec] at hy; simpa using hy
      refine ⟨fn, _, assign, body, hy', roundIn_of_wpIn hfn (wpIn_mono hr ?_)⟩
      intro e a1 w1 h1
      cases e with
      | normal =>
        obtain ⟨hl1, hb⟩ := h1
        have hbr := run_beginRound (P := P) hl1 (by rw [hrec])
        have hbr' : (Instr.beginRound (W0.heap.size + 1)).run P w1 = .ok () (w1.putObj (W0.heap.size + 1) (.loop (rec .busy none))) := by rw [hrec] at hbr ⊢; exact hbr
        refine ⟨_, hbr', wpIn_mono hb ?_⟩
        rintro e2 a2 w2 ⟨rfl, hl2, hR⟩
        have he := run_endRound (P := P) none (r := rec .busy none) hl2
        have he' : (Instr.endRound (W0.heap.size + 1) none).run P w2 = .ok (.bool true) (w2.putObj (W0.heap.size + 1) (.loop (rec .ready none))) := by rw [hrec] at he ⊢; exact he
        exact ⟨_, _, he', rfl, hR⟩
      | exit id => exact h1
      | goto l => exact h1
      | ret => exact h1
      | panic c => exact h1
      | outgrown => exact h1
    · rintro e W' ⟨⟨v, rfl⟩, hl, hq⟩
      have he := run_endLoop (P := P) hl (by rw [hrec]; simp)
      have he' : (Instr.endLoop (W0.heap.size + 1)).run P W' = .ok none (W'.putObj (W0.heap.size + 1) (.loop { rec .ready none with state := .exhausted })) := by
        rw [hrec] at he ⊢; exact he
      exact ⟨none, _, he', hq _⟩

set_option maxHeartbeats 4000000 in
set_option maxRecDepth 20000 in
/-- task.rest. -/
theorem rest_call {cv : Value} {code : List Insn} {t : Tsk} {w : World} (hs : Sane code) (hI : Inss w cv code) (ht : t.ok) (hone : cv.oneCell' = true) :
    Calls Try.prog 76 #[.agg (tcells cv t)] w (TskPost cv (rest code t) w) := by
  have HS := Lib.hid hs
  have HI := Lib.hid hI
  have HT := Lib.hid ht
  clear hs hI ht
  refine (callsIn_wide (n := 5)).1 ?_
  refine callsIn_of_wp_marks Try.func76 rfl trivial ?_ rfl
  simp only [Try.ntmps76, List.size_toArray, List.length_cons, List.length_nil, Nat.reduceAdd, Nat.reduceSub, Array.replicate_succ, Array.replicate_zero, List.push_toArray, List.append_toArray, List.nil_append, List.cons_append]
  gi_wp2
  refine ⟨trivial, ?_⟩
  refine (callsIn_wide.2 (alone_made _ _)).mono ?_
  rintro e w' ⟨rfl, rfl⟩
  gi_wp2
  refine wpIn_at fun W0 hW0 => ?_
  have hsz : W0.heap.size = w.heap.size + 3 := by rw [hW0]; simp
  have b1 : Box W0 w.heap.size 42 (tcells cv t) := by rw [hW0]; exact ((Box.new _ _ _).alloc _).alloc _
  have b2 : ∃ z, Box W0 (w.heap.size + 1) 42 z ∧ z.size = 36 := by rw [hW0]; exact ⟨_, (Box.at_ (by simp) _ _).alloc _, rfl⟩
  have b3 : Box W0 (w.heap.size + 2) 112 #[.pointer (some ⟨w.heap.size, 0, none⟩)] := by rw [hW0]; exact Box.at_ (by simp) _ _
  have hB : Below w.heap.size w W0 := by rw [hW0]; exact (((Below.refl _ w).alloc (Nat.le_refl _) _).alloc (by simp) _).alloc (by simp; omega) _
  obtain ⟨z, b2, hz⟩ := b2
  clear hW0
  refine range_law (m := 5) (gf := 99) (lb := #[.pointer (some ⟨w.heap.size + 2, 0, none⟩)]) rfl (enters_of Try.func99 (by kernel_rfl) rfl) ?_
  intro rec hyield
  rw [hsz] at hyield ⊢
  have h0 : RJ w cv rec z .ready t ((W0.alloc (.deferred (some []))).alloc (.loop (rec .ready none))) := by
    have h4 := World.alloc_heap_new (W0.alloc (.deferred (some []))) (.loop (rec .ready none))
    rw [World.size_alloc, hsz] at h4
    have h3 := (Below.heap_alloc (W0.alloc (.deferred (some []))) (.loop (rec .ready none)) W0.heap.size (by simp)).trans (World.alloc_heap_new W0 _)
    rw [hsz] at h3
    exact ⟨(b1.alloc _).alloc _, HT.out, (b2.alloc _).alloc _, (b3.alloc _).alloc _, h3, h4, (hB.alloc hB.size _).alloc (by simp; omega) _⟩
  refine (alone_call (n := 5) (RJ.turns code HI.out) HS.out hone (by omega) ?round h0).mono ?done
  case done =>
    rintro e W' ⟨hv, hJ⟩
    refine ⟨hv, hJ.loop, fun o => ?_⟩
    have hlt := hJ.lt
    have hk : ∀ k, k ≠ w.heap.size + 4 → (W'.putObj (w.heap.size + 4) o).heap[k]? = W'.heap[k]? := fun k hk => World.putObj_heap_other hk
    have c1 : Box (W'.putObj (w.heap.size + 4) o) w.heap.size 42 (tcells cv (rest code t)) := (hk _ (by omega)).trans hJ.box
    have c2 : Box (W'.putObj (w.heap.size + 4) o) (w.heap.size + 1) 42 z := (hk _ (by omega)).trans hJ.res
    have c3 : (W'.putObj (w.heap.size + 4) o).heap[w.heap.size + 3]? = some (.deferred (some [])) := (hk _ (by omega)).trans hJ.defs
    have c4 : Below w.heap.size w (W'.putObj (w.heap.size + 4) o) := hJ.below.grown (grownBy_putObj' _ _ _) hJ.below.size (fun k e => by cases e; omega)
    have hok := hJ.ok
    generalize W'.putObj (w.heap.size + 4) o = W2 at *
    have C1 := Lib.hid c1
    have C2 := Lib.hid c2
    have C3 := Lib.hid c3
    have C4 := Lib.hid c4
    have hsz2 : (tcells cv (rest code t)).size = 36 := tcells_size hok.1
    have HSZ := Lib.hid hsz2
    have h1 := Lib.hid (tcells_one (t := rest code t) hone)
    generalize hcs : tcells cv (rest code t) = cs at *
    have HCS := Lib.hid hcs
    clear hcs
    clear c1 c2 c3 c4 hk hJ hyield h0 hsz2 hok
    gi_wp2_with (first | with_reducible refine load_stopIn rfl 42 _ rfl ?_ | with_reducible refine store_stopIn rfl 42 _ _ rfl ?_)
    refine AtLoadIn.go w.heap.size rfl C1.out Try.underlying42 rfl (size_task' HSZ.out) ?_
    gi_wp2_with (first | with_reducible refine load_stopIn rfl 42 _ rfl ?_ | with_reducible refine store_stopIn rfl 42 _ _ rfl ?_)
    refine AtStoreIn.go (w.heap.size + 1) rfl rfl C2.out (size_task' HSZ.out) (by rw [hz, HSZ.out]) h1.out ?_
    gi_wp2
    have hD : (W2.setRow (w.heap.size + 1) cs).heap[w.heap.size + 3]? = some (.deferred (some [])) := (setRow_other _ _ _ _ (by omega)).trans C3.out
    refine ⟨by simp, .inl ⟨_, _, rfl, run_takeDeferred hD, ?_⟩⟩
    have hr : Box ((W2.setRow (w.heap.size + 1) cs).putObj (w.heap.size + 3) (.deferred none)) (w.heap.size + 1) 42 cs := (World.putObj_heap_other (by omega)).trans (C2.out.row cs)
    refine ⟨_, results_cell_row Try.results76 _ _ (w.heap.size + 1) 42 _ (0, 0) _ rfl hr Try.underlying42 rfl (size_task' HSZ.out), ?_, ?_⟩
    · rw [HCS.out]
    · exact (below_row C4.out (by omega) _).grown (grownBy_putObj' _ _ _) (by have := C4.out.size; simp; exact this) (fun k e => by cases e; omega)
  case round =>
    intro t1 x W hJ hd hp0 hp1 hx hk
    refine hyield x.val W _ hJ.loop ?_
    clear hyield h0
    have hlt := hJ.lt
    have hxx : x.ok ∧ saneAt code.length t1.pc.toNat x := by
      rw [← hx]
      exact ⟨insn_ok HI.out.2 _ (by omega), HS.out.1 _ (by omega)⟩
    have hcl : code.length ≤ 200 := HS.out.2.2
    obtain ⟨hxo, hxs⟩ := hxx
    have HXO := Lib.hid hxo
    have HXS := Lib.hid hxs
    have HB : Hid (∀ o, RJ w cv rec z .busy t1 ((W.alloc o).putObj (w.heap.size + 4) (.loop (rec .busy none)))) := Lib.hid fun o => (hJ.moved ((Below.refl _ W).alloc (Nat.le_refl _) o)).turn
    have HL : Hid (∀ o, (W.alloc o).heap[w.heap.size + 4]? = some (.loop (rec .ready none))) := Lib.hid fun o => (hJ.moved ((Below.refl _ W).alloc (Nat.le_refl _) o)).loop
    have HX := Lib.hid hx
    have HD := Lib.hid hd
    have h5 : ∀ o, Box (W.alloc (.cells #[.int .i64 x.k, .int .i64 x.i, .int .i64 x.r, .int .i64 x.to, .int .u64 x.a] 55) |>.putObj (w.heap.size + 4) o) W.heap.size 55 #[.int .i64 x.k, .int .i64 x.i, .int .i64 x.r, .int .i64 x.to, .int .u64 x.a] := fun o =>
      (World.putObj_heap_other (by omega)).trans (Box.new _ _ _)
    have H5 := Lib.hid h5
    clear h5 hx hd hxo hxs hJ b1 b2 b3 hB
    unfold Insn.val
    gi_wp2
    refine ⟨HL.out _, wpIn_at fun Wb hWb => ?_⟩
    have rj : RJ w cv rec z .busy t1 Wb := by rw [hWb]; exact HB.out _
    have bx : Box Wb W.heap.size 55 #[.int .i64 x.k, .int .i64 x.i, .int .i64 x.r, .int .i64 x.to, .int .u64 x.a] := by rw [hWb]; exact H5.out _
    clear hWb HL HB H5
    have hgl := rj.lt
    have i0 := (bx.cell 0)
    have i1 := (bx.cell 1)
    have i2 := (bx.cell 2)
    have i3 := (bx.cell 3)
    have i4 := (bx.cell 4)
    simp only [List.getElem?_toArray, List.getElem?_cons_zero, List.getElem?_cons_succ] at i0 i1 i2 i3 i4
    have h32 := rj.ok.1
    obtain ⟨s0, s1, s2, s3, s4, s5⟩ := HXS.out
    have HR := Lib.hid rj
    have BX := Lib.hid bx
    clear rj bx
    by_cases h6 : x.k = 6
    · have hb : byItself t1 x = { t1 with done := true, ans := s64 x.a } := by unfold byItself; rw [if_pos h6]
      have HBY := Lib.hid hb
      clear hb
      rw [h6] at i0
      have hsz2 : (tcells cv { t1 with done := true, ans := s64 x.a }).size = 36 := tcells_size h32
      have HSZ := Lib.hid hsz2
      have HS1 := Lib.hid (tcells_size (cv := cv) h32)
      have h1 := Lib.hid (tcells_one (t := { t1 with done := true, ans := s64 x.a }) hone)
      have hconv : IntKind.i64.wrap x.a = s64 x.a := by rw [IntKind.wrap_i64]; rfl
      clear h6 hsz2
      gi_wp2_with (first | with_reducible refine load_stopIn rfl 42 _ rfl ?_ | with_reducible refine store_stopIn rfl 42 _ _ rfl ?_)
      refine AtLoadIn.go w.heap.size rfl HR.out.box Try.underlying42 rfl (size_task' HS1.out) ?_
      gi_wp2_with (first | with_reducible refine load_stopIn rfl 42 _ rfl ?_ | with_reducible refine store_stopIn rfl 42 _ _ rfl ?_)
      refine ⟨trivial, ?_⟩
      refine (callsIn_wide.2 (ended_call _ _ _ _ h32 hone)).mono ?_
      rintro e w1 ⟨rfl, hb1⟩
      have rj1 := HR.out.moved hb1
      have RJ1 := Lib.hid rj1
      clear rj1
      gi_wp2_with (first | with_reducible refine load_stopIn rfl 42 _ rfl ?_ | with_reducible refine store_stopIn rfl 42 _ _ rfl ?_)
      refine AtStoreIn.go w.heap.size rfl rfl RJ1.out.box (size_task' HSZ.out) (by rw [HS1.out, HSZ.out]) h1.out ?_
      have hset : RJ w cv rec z .busy (byItself t1 x) (w1.setRow w.heap.size (tcells cv { t1 with done := true, ans := s64 x.a })) := by
        rw [HBY.out]
        exact RJ1.out.set ⟨RJ1.out.ok.1, RJ1.out.ok.2.1, RJ1.out.ok.2.2.1, s64_ok _⟩ ⟨rfl, rfl, rfl, by simp, fun k _ hk => setRow_other _ _ _ _ (fun e => hk (by rw [e]))⟩ (RJ1.out.box.row _)
      have HSET := Lib.hid hset
      clear hset
      gi_wp2
      exact ⟨HSET.out.loop, HSET.out.turn⟩
    · have hk5 : x.k ≤ 5 := by omega
      by_cases hj : jumpB t1.regs x = true
      · have hb : byItself t1 x = { t1 with pc := x.to } := by unfold byItself; rw [if_neg h6, if_pos hj]
        have HBY := Lib.hid hb
        have HJ := Lib.hid hj
        clear hb hj
        gi_wp2
        refine ⟨trivial, ?_⟩
        refine (callsIn_wide.2 (jumps_call (x := x) HR.out.box HR.out.ok HXO.out s2 s3 (by omega) hk5)).mono ?_
        rintro e w1 ⟨rfl, hb1⟩
        rw [HJ.out]
        have rj1 := HR.out.moved hb1
        have bx1 := BX.out.kept hb1
        have j3 := bx1.cell 3
        simp only [List.getElem?_toArray, List.getElem?_cons_zero, List.getElem?_cons_succ] at j3
        have e1 := (rj1.box.cell 1).trans tcells_1
        have e1f := rj1.box.frozen 1
        have hset : RJ w cv rec z .busy (byItself t1 x) (w1.setCell ⟨w.heap.size, 1, none⟩ (.int .i64 x.to)) := by
          rw [HBY.out]
          refine rj1.set ⟨rj1.ok.1, rj1.ok.2.1, ?_, rj1.ok.2.2.2⟩ ⟨rfl, rfl, rfl, by simp, fun k _ hk => Below.heap_setCell _ _ _ k (fun e => hk (by rw [e]))⟩ ?_
          · exact HXO.out.2.2.2.1
          · have := rj1.box.set_ 1 (.int .i64 x.to)
            rw [tcells_set_1] at this
            exact this
        have HSET := Lib.hid hset
        have RJ1 := Lib.hid rj1
        clear hset rj1 bx1
        gi_wp2
        exact ⟨HSET.out.loop, HSET.out.turn⟩
      · have hj' : jumpB t1.regs x = false := by simpa using hj
        have hb : byItself t1 x = { t1 with pc := t1.pc + 1 } := by unfold byItself; rw [if_neg h6, if_neg hj]
        have HBY := Lib.hid hb
        have HJ := Lib.hid hj'
        have hwr : IntKind.i64.wrap (t1.pc + 1) = t1.pc + 1 := by rw [IntKind.wrap_i64]; omega
        clear hb hj hj'
        gi_wp2
        refine ⟨trivial, ?_⟩
        refine (callsIn_wide.2 (jumps_call (x := x) HR.out.box HR.out.ok HXO.out s2 s3 (by omega) hk5)).mono ?_
        rintro e w1 ⟨rfl, hb1⟩
        rw [HJ.out]
        have rj1 := HR.out.moved hb1
        have bx1 := BX.out.kept hb1
        have j3 := bx1.cell 3
        simp only [List.getElem?_toArray, List.getElem?_cons_zero, List.getElem?_cons_succ] at j3
        have e1 := (rj1.box.cell 1).trans tcells_1
        have e1f := rj1.box.frozen 1
        have hset : RJ w cv rec z .busy (byItself t1 x) (w1.setCell ⟨w.heap.size, 1, none⟩ (.int .i64 (t1.pc + 1))) := by
          rw [HBY.out]
          refine rj1.set ⟨rj1.ok.1, rj1.ok.2.1, ?_, rj1.ok.2.2.2⟩ ⟨rfl, rfl, rfl, by simp, fun k _ hk => Below.heap_setCell _ _ _ k (fun e => hk (by rw [e]))⟩ ?_
          · unfold I64; constructor <;> (simp only; omega)
          · have := rj1.box.set_ 1 (.int .i64 (t1.pc + 1))
            rw [tcells_set_1] at this
            exact this
        have HSET := Lib.hid hset
        have RJ1 := Lib.hid rj1
        clear hset rj1 bx1
        gi_wp2
        exact ⟨HSET.out.loop, HSET.out.turn⟩
end Go.Proofs.Ytpkelneimjmmkaa

/- Tasks compared: the contract of the reference's Same. -/
import Derived.Test.YtpkelneimjmmkaaTaskI
import Derived.ChangeKeysEq
import Derived.Laws.StructEq
namespace Go.Proofs.Ytpkelneimjmmkaa
open Go.RowKit

theorem under_regs : Try.prog.underlying 40 = some (.array 32 30) := by kernel_rfl
theorem under_u64 : Try.prog.underlying 30 = some (.int .u64) := by kernel_rfl
theorem cells_u64 : Try.prog.cellsOf 30 = 1 := by kernel_rfl
theorem plain_u64 : Try.prog.plainKey 30 = true := by kernel_rfl

theorem eqItems_u64s {a b : List Int} (d : Nat) (ha : a.length = 32) (hb : b.length = 32) (is : List Nat) (w : World) (hi : ∀ i ∈ is, i < 32) :
    (Op.eqItems (d + 1) 30 1 (u64s a).toArray (u64s b).toArray is).run Try.prog w = .ok (decide (∀ i ∈ is, a.getD i 0 = b.getD i 0)) w := by
  induction is with
  | nil => simp [Op.eqItems]
  | cons i is ih =>
    have hlt : i < 32 := hi i (by simp)
    have h1 : (part 30 (u64s a).toArray i).run Try.prog w = .ok (.int .u64 (a.getD i 0)) w := run_part_plain w plain_u64 (by simpa using u64s_get (ms := a) (j := i) (by omega))
    have h2 : (part 30 (u64s b).toArray i).run Try.prog w = .ok (.int .u64 (b.getD i 0)) w := run_part_plain w plain_u64 (by simpa using u64s_get (ms := b) (j := i) (by omega))
    have h3 := run_equalIn_int w d 30 .u64 .u64 (a.getD i 0) (b.getD i 0) under_u64
    have ih' := ih (fun j hj => hi j (by simp [hj]))
    simp only [Op.eqItems, Nat.mul_one, Sem.run_bind, h1, h2, h3, Result.andThen_ok, List.mem_cons, forall_eq_or_imp]
    clear h1 h2 h3
    generalize a.getD i 0 = p at *
    generalize b.getD i 0 = q at *
    by_cases he : p = q
    · subst he
      rw [if_neg (by simp), ih']
      simp only [true_and]
    · rw [if_pos (by simpa using he)]
      simp only [Sem.run_pure, he, false_and, decide_false]

theorem run_eqIn_regs {a b : List Int} (ha : a.length = 32) (hb : b.length = 32) (w : World) :
    (Op.equalIn 10000 40 (.agg (u64s a).toArray) (.agg (u64s b).toArray)).run Try.prog w = .ok (decide (a = b)) w := by
  have hi : ∃ i, Try.prog.info? 30 = some i := by
    obtain ⟨i0, hi, _⟩ := info_parts info_u64; exact ⟨i0, hi⟩
  obtain ⟨i0, hi⟩ := hi
  have h1 := run_equalIn_array w 9999 (u64s a).toArray (u64s b).toArray under_regs hi
  have h2 := eqItems_u64s 9998 ha hb (List.range 32) w (fun i hi => by simpa using hi)
  rw [cells_u64] at h1
  have he : decide (∀ i ∈ List.range 32, a.getD i 0 = b.getD i 0) = decide (a = b) := by
    rw [decide_eq_decide]
    constructor
    · intro h
      exact eq_of_getD (by omega) (fun k hk => h k (List.mem_range.2 (by omega)))
    · intro h i _
      rw [h]
  rw [← he]
  exact h1.trans h2
theorem run_neq_regs {a b : List Int} (ha : a.length = 32) (hb : b.length = 32) (w : World) :
    (binOp .neq 40 (.agg (u64s a).toArray) (.agg (u64s b).toArray)).run Try.prog w = .ok (.bool (!decide (a = b))) w := by
  rw [run_neq_struct, run_eqIn_regs ha hb w, Result.andThen_ok]

/-- Are two tasks the same? -/
def sameT (a b : FT) : Prop := a.t.pc = b.t.pc ∧ a.t.regs = b.t.regs ∧ a.t.done = b.t.done ∧ a.t.ans = b.t.ans ∧ a.code.length = b.code.length ∧ ∀ i, i < a.code.length → (a.code.getD i insn0).val = (b.code.getD i insn0).val

theorem tcells_range {cv : Value} {t : Tsk} {w : World} {g : Nat} (h : Box w g 42 (tcells cv t)) : w.rangeAt g 2 (u64s t.regs) := fun j v hv => by
  have hj : j < t.regs.length := by have := (List.getElem?_eq_some_iff.1 hv).1; simpa [u64s] using this
  rw [h.cell]
  have e : 2 + j = (j + 1) + 1 := by omega
  simp only [tcells, List.getElem?_toArray, e, List.cons_append, List.getElem?_cons_succ]
  rw [List.getElem?_append_left (by simp [u64s]; omega)]
  exact hv
theorem size_regs : (Try.prog.info? 40).map (·.size) = some 32 := by kernel_rfl
theorem load_regs {cv : Value} {t : Tsk} {w : World} {g : Nat} (h : Box w g 42 (tcells cv t)) (h32 : t.regs.length = 32) :
    (Instr.loadAt 40 (.pointer (some ⟨g, 2, none⟩))).run Try.prog w = .ok (.agg (u64s t.regs).toArray) w :=
  run_loadAt_mid w g 2 _ _ _ (tcells_range h) under_regs rfl (by rw [u64s_len, h32]; exact size_regs)

/-- Where the walk stops: at a load of a row within a block, guarded or not. -/
def AtMid (P : Program) (ops : Array Oper) (Q : Exit → Act → World → Prop) (rest : List Oper) (o : Oper) (ty : TypeId) (x : Operand) (a : Act) (w : World) : Prop :=
  Region.wanted o (yielded ops a.tmps) = true ∧ ∃ (g off : Nat) (cs : List Value) (d : TypeDesc), a.eval x = .pointer (some ⟨g, off, none⟩) ∧ w.rangeAt g off cs ∧ P.underlying ty = some d ∧ d.isRow = true ∧
    (P.info? ty).map (·.size) = some cs.length ∧ wpList P ops Q rest (a.put o.dst (.agg cs.toArray)) w
theorem mid_stop {P : Program} {ops : Array Oper} {Q : Exit → Act → World → Prop} {rest : List Oper} {o : Oper} {a : Act} {w : World} (ty : TypeId) (x : Operand) (ho : o.op = .load ty x) (h : AtMid P ops Q rest o ty x a w) : wpList P ops Q (o :: rest) a w := by
  obtain ⟨hw, g, off, cs, d, hx, hB, hu, hd, hi, h⟩ := h
  refine wpList_step fun K hK => ?_
  rw [if_pos hw]
  exact wp_load_mid ty x ho g off hx cs d hB hu hd hi (hK _ _ h)
theorem AtMid.go {P : Program} {ops : Array Oper} {Q : Exit → Act → World → Prop} {rest : List Oper} {o : Oper} {ty : TypeId} {x : Operand} {a : Act} {w : World} (hw : Region.wanted o (yielded ops a.tmps) = true) (g off : Nat) {cs : List Value} {d : TypeDesc}
    (hx : a.eval x = .pointer (some ⟨g, off, none⟩)) (hB : w.rangeAt g off cs) (hu : P.underlying ty = some d) (hd : d.isRow = true) (hi : (P.info? ty).map (·.size) = some cs.length) (h : wpList P ops Q rest (a.put o.dst (.agg cs.toArray)) w) : AtMid P ops Q rest o ty x a w :=
  ⟨hw, g, off, cs, d, hx, hB, hu, hd, hi, h⟩

theorem insn_inj {x y : Insn} (h : x.val = y.val) : x = y := by
  cases x; cases y
  simp only [Insn.val, Value.agg.injEq, Array.mk.injEq, List.cons.injEq, Value.int.injEq, true_and, and_true] at h
  obtain ⟨h1, h2, h3, h4, h5⟩ := h
  subst h1 h2 h3 h4 h5
  rfl
theorem insn_ne {x y : Insn} (h : ¬ x.val = y.val) : (¬ x.k = y.k) ∨ (x.k = y.k ∧ ¬ x.i = y.i) ∨ (x.k = y.k ∧ x.i = y.i ∧ ¬ x.r = y.r) ∨ (x.k = y.k ∧ x.i = y.i ∧ x.r = y.r ∧ ¬ x.to = y.to) ∨ (x.k = y.k ∧ x.i = y.i ∧ x.r = y.r ∧ x.to = y.to ∧ ¬ x.a = y.a) := by
  by_cases h0 : x.k = y.k <;> by_cases h1 : x.i = y.i <;> by_cases h2 : x.r = y.r <;> by_cases h3 : x.to = y.to <;> by_cases h4 : x.a = y.a
  all_goals first
    | (exfalso; apply h; unfold Insn.val; rw [h0, h1, h2, h3, h4])
    | simp [h0, h1, h2, h3, h4]

set_option maxHeartbeats 4000000 in
set_option maxRecDepth 20000 in
theorem tsame_call {va vb : Value} {a b : FT} {w : World} {x : Bool} (hx : x = true ↔ sameT a b) (ha : IsTask w va a) (hb : IsTask w vb b) : Calls Try.prog 34 #[va, vb] w (BoolPost x w) := by
  obtain ⟨ca, rfl, hIa, hta, hca⟩ := ha
  obtain ⟨cb, rfl, hIb, htb, hcb⟩ := hb
  have a32 := hta.1
  have b32 := htb.1
  have a0 := tcells_0 (cv := ca) (t := a.t)
  have a1 := tcells_1 (cv := ca) (t := a.t)
  have a34 := tcells_34 (cv := ca) a32
  have a35 := tcells_35 (cv := ca) a32
  have b0 := tcells_0 (cv := cb) (t := b.t)
  have b1 := tcells_1 (cv := cb) (t := b.t)
  have b34 := tcells_34 (cv := cb) b32
  have b35 := tcells_35 (cv := cb) b32
  have ra : ((w.alloc (.cells (tcells ca a.t) 42)).alloc (.cells (tcells cb b.t) 42)).rangeAt w.heap.size 2 (u64s a.t.regs) := tcells_range ((Box.new _ _ _).alloc _)
  have rb : ((w.alloc (.cells (tcells ca a.t) 42)).alloc (.cells (tcells cb b.t) 42)).rangeAt (w.heap.size + 1) 2 (u64s b.t.regs) := tcells_range (Box.at_ (by simp) _ _)
  have RA := Lib.hid ra
  have RB := Lib.hid rb
  have L1 := Lib.hid (by rw [u64s_len, a32]; exact size_regs : (Try.prog.info? 40).map (·.size) = some (u64s a.t.regs).length)
  have L2 := Lib.hid (by rw [u64s_len, b32]; exact size_regs : (Try.prog.info? 40).map (·.size) = some (u64s b.t.regs).length)
  clear ra rb
  have hneq := fun w => run_neq_regs (w := w) a32 b32
  have heq : ∀ w, (Op.equalIn 10000 40 (.agg (u64s a.t.regs).toArray) (.agg (u64s b.t.regs).toArray)).run Try.prog w = .ok (decide (a.t.regs = b.t.regs)) w := fun w => run_eqIn_regs a32 b32 w
  have HA := Lib.hid hIa
  have HB := Lib.hid hIb
  have HX := Lib.hid hx
  have FO : Hid (∀ o o', Below w.heap.size w ((w.alloc o).alloc o')) := Lib.hid fun o o' => ((Below.refl _ w).alloc (Nat.le_refl _) _).alloc (by simp) _
  obtain ⟨Aa, cca, rfl, ha1, ha2, _⟩ := hIa.1.form
  obtain ⟨Ab, ccb, rfl, hb1, hb2, _⟩ := hIb.1.form
  unfold maxLen at ha2 hb2
  clear hIa hIb hta htb hca hcb a32 b32 hx
  by_cases h1 : a.t.pc = b.t.pc
  case neg =>
    have hxf : x = false := by have := HX.out; cases x with | false => rfl | true => exact absurd (this.1 rfl).1 h1
    subst hxf
    generalize tcells (.slice Aa a.code.length cca) a.t = CA at *
    generalize tcells (.slice Ab b.code.length ccb) b.t = CB at *
    go_enter Try.func34, Try.ntmps34
    go_wp2
    go_ret
    exact ⟨rfl, FO.out _ _⟩
  by_cases h2 : a.t.regs = b.t.regs
  case neg =>
    have hxf : x = false := by have := HX.out; cases x with | false => rfl | true => exact absurd (this.1 rfl).2.1 h2
    subst hxf
    rw [decide_eq_false h2] at hneq heq
    rw [h1] at a1
    clear h1 h2
    generalize tcells (.slice Aa a.code.length cca) a.t = CA at *
    generalize tcells (.slice Ab b.code.length ccb) b.t = CB at *
    go_enter Try.func34, Try.ntmps34
    go_wp2_with (first | with_reducible refine mid_stop 40 _ rfl ?_)
    refine AtMid.go rfl w.heap.size 2 rfl RA.out under_regs rfl L1.out ?_
    go_wp2_with (first | with_reducible refine mid_stop 40 _ rfl ?_)
    refine AtMid.go rfl (w.heap.size + 1) 2 rfl RB.out under_regs rfl L2.out ?_
    go_wp2
    go_ret
    exact ⟨rfl, FO.out _ _⟩
  rw [decide_eq_true h2] at hneq heq
  rw [h1] at a1
  by_cases h3 : a.t.done = b.t.done
  case neg =>
    have hxf : x = false := by have := HX.out; cases x with | false => rfl | true => exact absurd (this.1 rfl).2.2.1 h3
    subst hxf
    have h3' : (a.t.done == b.t.done) = false := by simpa using h3
    clear h1 h2 h3
    generalize tcells (.slice Aa a.code.length cca) a.t = CA at *
    generalize tcells (.slice Ab b.code.length ccb) b.t = CB at *
    go_enter Try.func34, Try.ntmps34
    go_wp2_with (first | with_reducible refine mid_stop 40 _ rfl ?_)
    refine AtMid.go rfl w.heap.size 2 rfl RA.out under_regs rfl L1.out ?_
    go_wp2_with (first | with_reducible refine mid_stop 40 _ rfl ?_)
    refine AtMid.go rfl (w.heap.size + 1) 2 rfl RB.out under_regs rfl L2.out ?_
    go_wp2
    go_ret
    exact ⟨rfl, FO.out _ _⟩
  rw [h3] at a34
  by_cases h4 : a.t.ans = b.t.ans
  case neg =>
    have hxf : x = false := by have := HX.out; cases x with | false => rfl | true => exact absurd (this.1 rfl).2.2.2.1 h4
    subst hxf
    clear h1 h2 h3
    generalize tcells (.slice Aa a.code.length cca) a.t = CA at *
    generalize tcells (.slice Ab b.code.length ccb) b.t = CB at *
    go_enter Try.func34, Try.ntmps34
    go_wp2_with (first | with_reducible refine mid_stop 40 _ rfl ?_)
    refine AtMid.go rfl w.heap.size 2 rfl RA.out under_regs rfl L1.out ?_
    go_wp2_with (first | with_reducible refine mid_stop 40 _ rfl ?_)
    refine AtMid.go rfl (w.heap.size + 1) 2 rfl RB.out under_regs rfl L2.out ?_
    go_wp2
    go_ret
    exact ⟨rfl, FO.out _ _⟩
  rw [h4] at a35
  by_cases h5 : a.code.length = b.code.length
  case neg =>
    have hxf : x = false := by have := HX.out; cases x with | false => rfl | true => exact absurd (this.1 rfl).2.2.2.2.1 h5
    subst hxf
    clear h1 h2 h3 h4 ha1 ha2 hb1 hb2
    generalize a.code.length = la at *
    generalize b.code.length = lb at *
    have h5' : ¬ (la : Int) = (lb : Int) := by omega
    clear h5
    generalize tcells (.slice Aa la cca) a.t = CA at *
    generalize tcells (.slice Ab lb ccb) b.t = CB at *
    go_enter Try.func34, Try.ntmps34
    go_wp2_with (first | with_reducible refine mid_stop 40 _ rfl ?_)
    refine AtMid.go rfl w.heap.size 2 rfl RA.out under_regs rfl L1.out ?_
    go_wp2_with (first | with_reducible refine mid_stop 40 _ rfl ?_)
    refine AtMid.go rfl (w.heap.size + 1) 2 rfl RB.out under_regs rfl L2.out ?_
    go_wp2
    go_ret
    exact ⟨rfl, FO.out _ _⟩
  have HX2 : Hid (x = true ↔ ∀ i, i < a.code.length → (a.code.getD i insn0).val = (b.code.getD i insn0).val) := Lib.hid (by
    rw [HX.out]
    exact ⟨fun h => h.2.2.2.2.2, fun h => ⟨h1, h2, h3, h4, h5, h⟩⟩)
  have h5' : (a.code.length : Int) = (b.code.length : Int) := by omega
  clear h1 h2 h3 h4 HX
  generalize tcells (.slice Aa a.code.length cca) a.t = CA at *
  generalize tcells (.slice Ab b.code.length ccb) b.t = CB at *
  go_enter Try.func34, Try.ntmps34
  go_wp2_with (first | with_reducible refine mid_stop 40 _ rfl ?_)
  refine AtMid.go rfl w.heap.size 2 rfl RA.out under_regs rfl L1.out ?_
  go_wp2_with (first | with_reducible refine mid_stop 40 _ rfl ?_)
  refine AtMid.go rfl (w.heap.size + 1) 2 rfl RB.out under_regs rfl L2.out ?_
  go_wp2_with fail
  refine wp_at fun W0 hW0 => ?_
  have bxa : Box W0 w.heap.size 42 CA := by rw [hW0]; exact (Box.new _ _ _).alloc _
  have bxb : Box W0 (w.heap.size + 1) 42 CB := by rw [hW0]; exact Box.at_ (by simp) _ _
  have hb0 : Below w.heap.size w W0 := by rw [hW0]; exact FO.out _ _
  have BXA := Lib.hid bxa
  have BXB := Lib.hid bxb
  have HB0 := Lib.hid hb0
  clear hW0 bxa bxb hb0 RA RB L1 L2 hneq heq FO a1 b1 a34 b34 a35 b35
  go_loopw [5] (fun i wr => ∃ k : Nat, k ≤ a.code.length ∧ i = .int .i64 (k : Int) ∧ Hid (Below W0.heap.size W0 wr) ∧ Hid (∀ j, j < k → (a.code.getD j insn0).val = (b.code.getD j insn0).val)) (fun i _ => a.code.length - (intOf i).toNat)
  case atStart => exact ⟨0, Nat.zero_le _, rfl, Lib.hid (Below.refl _ _), Lib.hid fun j hj => absurd hj (by omega)⟩
  case round =>
    obtain ⟨k, hk, rfl, HW, HJ⟩ := hrel
    have d0 := ((BXA.out.kept HW.out).cell 0).trans a0
    have f0 := ((BXB.out.kept HW.out).cell 0).trans b0
    have HBW := Lib.hid (below_call HB0.out HW.out HB0.out.size)
    by_cases hlt : k < a.code.length
    · have hlt' : k < b.code.length := by omega
      obtain ⟨ba, offa, rfl, _, p0, p1, p2, p3, p4⟩ := (HA.out.below HBW.out).at_ rfl hlt
      obtain ⟨bb, offb, rfl, _, q0, q1, q2, q3, q4⟩ := (HB.out.below HBW.out).at_ rfl hlt'
      have hki : (k : Int) < (a.code.length : Int) := by omega
      have hki' : (k : Int) < (b.code.length : Int) := by omega
      by_cases he : (a.code.getD k insn0).val = (b.code.getD k insn0).val
      · have he' : (a.code.getD k insn0) = (b.code.getD k insn0) := insn_inj he
        have HJ2 : Hid (∀ j, j < k + 1 → (a.code.getD j insn0).val = (b.code.getD j insn0).val) := Lib.hid fun j hj => by
          by_cases e : j = k
          · rw [e]; exact he
          · exact HJ.out j (by omega)
        rw [he'] at p0 p1 p2 p3 p4
        generalize b.code.getD k insn0 = y at *
        clear he he'
        go_wp2_with fail
        go_quiet (fail)
        go_wp2_with fail
        exact ⟨⟨k + 1, by omega, by go_num, Lib.hid (below_drewN HW.out _), HJ2⟩, by simp [intOf]; omega⟩
      · have hxf : x = false := by have := HX2.out; cases x with | false => rfl | true => exact absurd (this.1 rfl k hlt) he
        subst hxf
        have hn := insn_ne he
        have F : Hid (∀ n, Below w.heap.size w (wr.drewN n)) := Lib.hid fun n => below_drewN HBW.out n
        generalize b.code.getD k insn0 = y at *
        generalize a.code.getD k insn0 = u at *
        clear he
        rcases hn with n0 | ⟨n0, n1⟩ | ⟨n0, n1, n2⟩ | ⟨n0, n1, n2, n3⟩ | ⟨n0, n1, n2, n3, n4⟩
        all_goals
          go_wp2_with fail
          go_quiet (fail)
          go_wp2
          go_ret
          exact ⟨rfl, F.out _⟩
    · have hki : ¬ (k : Int) < (a.code.length : Int) := by omega
      have hxt : x = true := HX2.out.2 fun i hi => HJ.out i (by omega)
      subst hxt
      go_wp2
      go_ret
      exact ⟨rfl, HBW.out⟩
end Go.Proofs.Ytpkelneimjmmkaa

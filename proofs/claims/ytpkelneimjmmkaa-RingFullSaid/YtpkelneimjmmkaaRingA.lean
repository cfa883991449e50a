/- The contracts of slices.Grow, slices.Concat of programs, and of ring.code. -/
import Derived.Test.YtpkelneimjmmkaaRingO
import Derived.Lib.AppendZerosOnto
namespace Go.Proofs.Ytpkelneimjmmkaa
open Go.RowKit

theorem under_int : Try.prog.underlying 3 = some (.int .i64) := by kernel_rfl
theorem wpList_append_by {P : Program} {w w' : World} {v : Value} {ops : Array Oper} {rest : List Oper} {o : Oper} {a : Act} {Q : Exit → Act → World → Prop} (hgd : o.guard = none) (s y : Operand) (t tn : TypeId)
    (ho : o.op = .call { callee := .builtin .append, args := #[s, y], argTypes := #[t, tn] }) (vs vy : Value) (hs : a.eval s = vs) (hy : a.eval y = vy)
    (hrun : (Builtin.append_ #[t, tn] o.type #[vs, vy]).run P w = .ok v w') (h : wpList P ops Q rest (a.put o.dst v) w') : wpList P ops Q (o :: rest) a w :=
  wpList_plain hgd fun _ hK => by
    unfold Oper.wp execOp
    simp only [ho, resolve, invoke, builtin, Sem.run_bind, Sem.run_pure, Result.andThen_ok, List.map_toArray, List.map_cons, List.map_nil, hs, hy, hrun]
    exact hK _ _ h
set_option maxHeartbeats 1000000 in
set_option maxRecDepth 20000 in
/-- slices.Grow of nil. -/
theorem grow_call (n : Nat) (h0 : 0 < n) (hn : n ≤ 4096) (w : World) :
    Calls Try.prog 100 #[.slice none 0 0, .int .i64 (n : Int)] w (fun e w' => ∃ v, e = .returned v ∧ OwnI w' w.heap.size v [] ∧ Below w.heap.size w w') := by
  obtain ⟨i0, hi, hz0, hz1, hz2⟩ := info_parts info_ins
  have hrun := fun ty => Lib.run_append_grow_zeros (P := Try.prog) w 39 3 ty 55 i0 _ .i64 .i64 Try.underlying39 under_int hi hz0 none 0 0 [] (run_firstCells_none w.drew i0.size 0 0 0) n h0 (by omega) (by omega) (by omega) (by rw [hz2]; omega) (by rw [hz2, Nat.zero_add]; exact growslice_fits (by omega) (by omega))
  have hcap := grownCap_ge w (0 + n) 0 55
  have hcap2 := grownCap_le_maxLen w (0 + n) 0 55 (by simp only [maxLen]; omega)
  rw [Nat.zero_add] at hcap hcap2 hrun
  generalize grownCap w n 0 55 = cap at *
  have hz5 : (Value.agg #[Value.int .i64 0, .int .i64 0, .int .i64 0, .int .i64 0, .int .u64 0]).cells.size = 5 := by kernel_rfl
  obtain ⟨Z, hZ⟩ : ∃ Z, Z = (([] : List Value).toArray ++ Builtin.zeroCells (Value.agg #[Value.int .i64 0, .int .i64 0, .int .i64 0, .int .i64 0, .int .u64 0]).cells n ++ Builtin.zeroCells (Value.agg #[Value.int .i64 0, .int .i64 0, .int .i64 0, .int .i64 0, .int .u64 0]).cells (cap - n)) := ⟨_, rfl⟩
  have hsz : Z.size = cap * 5 := by
    rw [hZ, Array.size_append, Array.size_append, size_zeroCells, size_zeroCells, hz5]
    simp
    omega
  rw [← hZ] at hrun
  have F : Hid (∀ v, v = .slice (some ⟨w.heap.size, 0, none⟩) 0 cap → ∃ v', Ending.returned v = .returned v' ∧ OwnI (w.drew.alloc (.cells Z 55)) w.heap.size v' [] ∧ Below w.heap.size w (w.drew.alloc (.cells Z 55))) := Lib.hid fun v hv => by
    subst hv
    refine ⟨_, rfl, ⟨?_, by simp⟩, ?_⟩
    · have := World.ownsRow_made (e := 55) (base := w.heap.size) w.drew Z cap (Nat.le_refl _) hcap2 hsz
      simpa using this
    · have hd : Below w.heap.size w w.drew := ⟨rfl, rfl, rfl, Nat.le_refl _, fun _ _ => rfl⟩
      exact hd.alloc (Nat.le_refl _) _
  have h1 : ¬ (n : Int) < 0 := by omega
  have h2 : (0 : Int) < (n : Int) := by omega
  have hw : IntKind.i64.wrap (n : Int) = (n : Int) := by rw [IntKind.wrap_i64]; omega
  have hw2 : wrap64 (n : Int) = (n : Int) := by unfold wrap64; omega
  clear hZ hsz hz5 hcap2
  go_enter Try.func100, Try.ntmps100
  have HRUN := Lib.hid hrun
  clear hrun hi hz0 hz1 hz2
  go_wp2_with (at_builtin; refine wpList_append_by rfl _ _ 39 3 rfl (.slice none 0 0) (.int .i64 (n : Int)) rfl rfl (HRUN.out _) ?_)
  go_wp2
  go_ret
  exact F.out _ rfl

/-- A slice of programs. -/
def Insss (w : World) (v : Value) (l : List (Value × List Insn)) : Prop := Sl w v 1 l.length (l.flatMap fun a => [a.1]) ∧ ∀ a ∈ l, Inss w a.1 a.2
theorem Insss.below {w w' : World} {v : Value} {l : List (Value × List Insn)} (h : Insss w v l) (hb : Below w.heap.size w w') : Insss w' v l := ⟨h.1.below hb, fun a ha => (h.2 a ha).below hb⟩
theorem Insss.at_ {w : World} {A : Option Addr} {n c : Nat} {l : List (Value × List Insn)} {k : Nat} (h : Insss w (.slice A n c) l) (hn : n = l.length) (hk : k < l.length) :
    ∃ b off, A = some ⟨b, off, none⟩ ∧ b < w.heap.size ∧ w.cell? ⟨b, off + k, none⟩ = some l[k].1 ∧ Inss w l[k].1 l[k].2 := by
  subst hn
  obtain ⟨b, off, rfl, hb, hc⟩ := h.1.at_ (by omega) (by omega)
  have hg := flat_get (fun a : Value × List Insn => [a.1]) 1 l (fun _ _ => rfl) k 0 hk (by omega)
  refine ⟨b, off, rfl, hb, ?_, h.2 _ (List.getElem_mem hk)⟩
  have := hc (k * 1 + 0) _ (by rw [hg]; rfl)
  simpa using this
/-- The first k programs, one behind the other. -/
def allOf (l : List (Value × List Insn)) (k : Nat) : List Insn := (l.take k).flatMap (·.2)
theorem allOf_succ (l : List (Value × List Insn)) {k : Nat} (h : k < l.length) : allOf l (k + 1) = allOf l k ++ l[k].2 := by
  unfold allOf
  rw [take_snoc l k h, List.flatMap_append]
  simp
theorem allOf_le (l : List (Value × List Insn)) (k : Nat) : (allOf l k).length ≤ (l.flatMap (·.2)).length := by
  unfold allOf
  conv => rhs; rw [← List.take_append_drop k l]
  rw [List.flatMap_append, List.length_append]
  omega
theorem allOf_all (l : List (Value × List Insn)) : allOf l l.length = l.flatMap (·.2) := by unfold allOf; rw [List.take_length]
/-- Behind an append of instructions from wherever they lie. -/
theorem ins_onto {w wr w3 : World} {v v' : Value} {l xs : List Insn} (h : InsRel w l v wr) (hx : ∀ x ∈ xs, x.ok)
    (ho : w3.ownsRow w.heap.size 55 5 v' (l.length + xs.length) (l.flatMap Insn.cells ++ xs.flatMap Insn.cells)) (hg : wr.grownBy w3 v.ownBlock) : InsRel w (l ++ xs) v' w3 := by
  obtain ⟨h1, h2⟩ := h
  refine ⟨⟨?_, fun x hx' => ?_⟩, h2.grown hg h2.size (fun j hj => (h1.1.lt j hj).1)⟩
  · rw [List.length_append, List.flatMap_append]; exact ho
  · rcases List.mem_append.1 hx' with h | h
    · exact h1.2 x h
    · exact hx x h

set_option maxHeartbeats 4000000 in
set_option maxRecDepth 20000 in
theorem concat_call {v : Value} {l : List (Value × List Insn)} {w : World} (h : Insss w v l) (h0 : 0 < (l.flatMap (·.2)).length) (hn : (l.flatMap (·.2)).length ≤ 4096) :
    Calls Try.prog 98 #[v] w (fun e w' => ∃ v', e = .returned v' ∧ OwnI w' w.heap.size v' (l.flatMap (·.2)) ∧ Below w.heap.size w w') := by
  obtain ⟨i0, hi, hz0, hz1, hz2⟩ := info_parts info_ins
  obtain ⟨A, c, rfl, hc1, hc2, _⟩ := h.1.form
  unfold maxLen at hc2
  have H := Lib.hid h
  have HI0 := Lib.hid hi
  have HZ0 := Lib.hid hz0
  have HZ1 := Lib.hid hz1
  have HZ2 := Lib.hid hz2
  clear h hi hz0 hz1 hz2
  obtain ⟨T, hT⟩ : ∃ T, T = (l.flatMap (·.2)).length := ⟨_, rfl⟩
  rw [← hT] at h0 hn
  have HT := Lib.hid hT
  clear hT
  go_enter Try.func98, Try.ntmps98
  go_wp2_with fail
  go_loopw [3, 11] (fun sv qv wr => ∃ k t : Nat, k ≤ l.length ∧ qv = .int .i64 (k : Int) ∧ sv = .int .i64 (t : Int) ∧ Hid (t = (allOf l k).length) ∧ wr = w) (fun _ qv _ => l.length - (intOf qv).toNat)
  case atStart => exact ⟨0, 0, Nat.zero_le _, rfl, rfl, Lib.hid (by simp [allOf]), rfl⟩
  case round =>
    obtain ⟨k, t, hk, rfl, rfl, HK, rfl⟩ := hrel
    have htT : t ≤ T := by rw [HK.out, HT.out]; exact allOf_le l k
    by_cases hlt : k < l.length
    · have hki : (k : Int) < (l.length : Int) := by omega
      obtain ⟨b, o, rfl, _, p0, hi1⟩ := H.out.at_ rfl hlt
      obtain ⟨A1, n1, hf1, hf2, hf3, _⟩ := hi1.1.form
      unfold maxLen at hf3
      rw [hf1] at p0
      have hs := allOf_succ l hlt
      have hle := allOf_le l (k + 1)
      have hlen : (allOf l (k + 1)).length = t + (l[k]).2.length := by rw [hs, List.length_append, ← HK.out]
      rw [hlen, ← HT.out] at hle
      have HN := Lib.hid hlen
      generalize (l[k]).2.length = m at *
      have hw : IntKind.i64.wrap ((t : Int) + (m : Int)) = ((t + m : Nat) : Int) := by rw [IntKind.wrap_i64]; omega
      have hneg : ¬ ((t + m : Nat) : Int) < 0 := by omega
      obtain ⟨tm, htm⟩ : ∃ tm, tm = t + m := ⟨_, rfl⟩
      rw [← htm] at hw hneg HN
      clear hi1 hs hlen htm
      go_wp2
      go_roundw
      case rel => exact ⟨k + 1, tm, by omega, by go_num, rfl, Lib.hid HN.out.symm, trivial⟩
      case measure => simp [intOf]; omega
    · have hki : ¬ (k : Int) < (l.length : Int) := by omega
      have hke : k = l.length := by omega
      have htt : t = T := by rw [HK.out, HT.out, hke, allOf_all]
      subst htt
      obtain ⟨wz, hwz⟩ : ∃ wz, wz = wr := ⟨_, rfl⟩
      subst hwz
      go_wp2_with fail
      refine (grow_call t h0 hn wz).mono ?_
      rintro e w1 ⟨v1, rfl, ho1, hb1⟩
      have HR : Hid (InsRel wz (allOf l 0) v1 w1) := Lib.hid ⟨by simpa [allOf] using ho1, hb1⟩
      clear ho1 hb1
      go_wp2_with fail
      go_loopw [6, 27] (fun v6 qv w2 => ∃ j : Nat, j ≤ l.length ∧ qv = .int .i64 (j : Int) ∧ Hid (InsRel wz (allOf l j) v6 w2)) (fun _ qv _ => l.length - (intOf qv).toNat)
      case atStart => exact ⟨0, Nat.zero_le _, rfl, HR⟩
      case round =>
        clear HR
        obtain ⟨j, hj, rfl, HR⟩ := hrel
        by_cases hlt2 : j < l.length
        · have hji : (j : Int) < (l.length : Int) := by omega
          obtain ⟨b, o, rfl, _, p0, hi1⟩ := (H.out.below HR.out.2).at_ rfl hlt2
          have hs := allOf_succ l hlt2
          have hle := allOf_le l (j + 1)
          rw [hs, List.length_append, ← HT.out] at hle
          have HS := Lib.hid hs
          have HI1 := Lib.hid hi1
          obtain ⟨vj, hvj⟩ : ∃ vj, (l[j]).1 = vj := ⟨_, rfl⟩
          rw [hvj] at p0
          have HIv : Hid (Inss _ vj (l[j]).2) := Lib.hid (by rw [← hvj]; exact HI1.out)
          clear hs hi1 hvj HI1
          have hs2 := HR.out.2.size
          go_wp2_with (at_builtin; refine wpList_append_sl _ rfl _ _ 39 rfl wz.heap.size 55 i0 _ 5 40 Try.underlying39 HI0.out HZ0.out HZ1.out HZ2.out rfl (by decide) _ _ _ rfl HR.out.1.1 vj (l[j]).2.length ((l[j]).2.flatMap Insn.cells) rfl HIv.out.1 ?qc2 ?qc3 ?qc4 ?qc5 ?_)
          case qc2 =>
            intro u hu
            obtain ⟨x, _, hu⟩ := List.mem_flatMap.1 hu
            simp [Insn.cells] at hu
            rcases hu with rfl | rfl | rfl | rfl | rfl <;> rfl
          case qc3 => simp only [maxLen]; omega
          case qc4 => omega
          case qc5 => exact hs2
          intro v' w3 hown3 hgrow3 hat3
          have R3 : Hid (InsRel wz (allOf l (j + 1)) v' w3) := Lib.hid (by rw [HS.out]; exact ins_onto HR.out HIv.out.2 hown3 hgrow3)
          clear hown3 hgrow3 hat3
          go_wp2
          go_roundw
          case rel => exact ⟨j + 1, by omega, by go_num, R3⟩
          case measure => simp [intOf]; omega
        · have hji : ¬ (j : Int) < (l.length : Int) := by omega
          have hje : j = l.length := by omega
          have hR := HR.out
          rw [hje, allOf_all] at hR
          have HRR := Lib.hid hR
          clear hR
          go_wp2
          go_ret
          exact ⟨_, rfl, HRR.out.1, HRR.out.2⟩
end Go.Proofs.Ytpkelneimjmmkaa

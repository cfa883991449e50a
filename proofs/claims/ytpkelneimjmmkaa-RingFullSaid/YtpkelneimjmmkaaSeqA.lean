/- Appends of instructions, as the walk meets them; the reference's Same of programs. -/
import Derived.Test.YtpkelneimjmmkaaInsA
import Derived.Test.YtpkelneimjmmkaaTaskL
namespace Go.Proofs.Ytpkelneimjmmkaa
open Go.RowKit

theorem InsRel.len {w wr : World} {L : List Insn} {A : Option Addr} {n c : Nat} (h : InsRel w L (.slice A n c) wr) : n = L.length := by
  obtain ⟨A', c', e⟩ := h.1.form
  injection e
/-- An append of instructions that were laid in a block just made. -/
theorem ins_append {w wr : World} {L : List Insn} {v : Value} (HR : InsRel w L v wr) (xs : List Insn) (hx : ∀ x ∈ xs, x.ok) (n : Nat) (hn : L.length + xs.length = n) (hlen : n ≤ 4096)
    {ops : Array Oper} {rest : List Oper} {o : Oper} {a : Act} {Q : Exit → Act → World → Prop} (hgd : o.guard = none) (s y : Operand)
    (ho : o.op = .call { callee := .builtin .append, args := #[s, y], argTypes := #[39, 39] }) (hs : a.eval s = v) (hy : a.eval y = .slice (some ⟨wr.heap.size, 0, none⟩) xs.length xs.length)
    (h : ∀ A c w', InsRel w (L ++ xs) (.slice A n c) w' → wpList Try.prog ops Q rest (a.put o.dst (.slice A n c)) w') :
    wpList Try.prog ops Q (o :: rest) a (wr.alloc (.cells (xs.flatMap Insn.cells).toArray 55)) := by
  obtain ⟨i0, hi, hz0, hz1, hz2⟩ := info_parts info_ins
  have hxl : (xs.flatMap Insn.cells).length = xs.length * 5 := ins_flat_len xs
  refine wpList_append_sl (w := wr.alloc (.cells (xs.flatMap Insn.cells).toArray 55)) hgd s y 39 ho w.heap.size 55 i0 _ 5 40 Try.underlying39 hi hz0 hz1 hz2 rfl (by decide) v L.length _ hs (HR.1.1.alloc _) _ xs.length (xs.flatMap Insn.cells) hy ?_ ?_ ?_ ?_ ?_ ?_
  · have := Sl.of_own (own_new wr 55 5 (xs.flatMap Insn.cells).toArray xs.length (by simpa using hxl) (by simp only [maxLen]; omega))
    simpa using this
  · intro u hu
    obtain ⟨x, _, hu⟩ := List.mem_flatMap.1 hu
    simp [Insn.cells] at hu
    rcases hu with rfl | rfl | rfl | rfl | rfl <;> rfl
  · simp only [maxLen]; omega
  · omega
  · have := HR.2.size; simp; omega
  · intro v' w' ho' hg' _
    have hR := ins_more HR hx ho' hg'
    obtain ⟨A, c, hv⟩ := hR.1.form
    rw [List.length_append, hn] at hv
    subst hv
    exact h A c w' hR

set_option maxHeartbeats 1000000 in
/-- The reference's Same of programs, of two that read the same. -/
theorem isame_call {v1 v2 : Value} {l : List Insn} {w : World} (h1 : Inss w v1 l) (h2 : Inss w v2 l) : Calls Try.prog 49 #[v1, v2] w (BoolPost true w) := by
  obtain ⟨A, c, rfl, hc1, hc2, _⟩ := h1.1.form
  obtain ⟨B, d, rfl, hd1, hd2, _⟩ := h2.1.form
  unfold maxLen at hc2 hd2
  have HA := Lib.hid h1
  have HB := Lib.hid h2
  clear h1 h2
  go_enter Try.func49, Try.ntmps49
  go_wp2_with fail
  go_loopw [5] (fun i wr => ∃ k : Nat, k ≤ l.length ∧ i = .int .i64 (k : Int) ∧ Hid (Below w.heap.size w wr)) (fun i _ => l.length - (intOf i).toNat)
  case atStart => exact ⟨0, Nat.zero_le _, rfl, Lib.hid (Below.refl _ _)⟩
  case round =>
    obtain ⟨k, hk, rfl, HW⟩ := hrel
    by_cases hlt : k < l.length
    · obtain ⟨ba, offa, rfl, _, p0, p1, p2, p3, p4⟩ := (HA.out.below HW.out).at_ rfl hlt
      obtain ⟨bb, offb, rfl, _, q0, q1, q2, q3, q4⟩ := (HB.out.below HW.out).at_ rfl hlt
      have hki : (k : Int) < (l.length : Int) := by omega
      generalize l.getD k insn0 = y at *
      go_wp2_with fail
      go_quiet (fail)
      go_wp2_with fail
      exact ⟨⟨k + 1, by omega, by go_num, Lib.hid (below_drewN HW.out _)⟩, by simp [intOf]; omega⟩
    · have hki : ¬ (k : Int) < (l.length : Int) := by omega
      go_wp2
      go_ret
      exact ⟨rfl, HW.out⟩
end Go.Proofs.Ytpkelneimjmmkaa

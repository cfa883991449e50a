/- The contract of the reference's Taken of layer 15. -/
import Derived.Test.YtpkelneimjmmkaaSeqG
namespace Go.Proofs.Ytpkelneimjmmkaa
open Go.RowKit

set_option maxHeartbeats 4000000 in
set_option maxRecDepth 20000 in
theorem refTaken_call {v : Value} {T : FT} {n : Int} {w : World} (h : IsTask w v T) (hn : I64 n) : Calls Try.prog 48 #[v, .int .i64 n] w (TakenPost T n w) := by
  have hok := h.ok.1
  obtain ⟨cv, rfl, hI, ht, hc⟩ := h
  have h32 := ht.1
  have e34 := tcells_34 (cv := cv) h32
  have e35 := tcells_35 (cv := cv) h32
  have e2 := tcells_reg (cv := cv) h32 (show 0 < 32 by omega)
  have HR := Lib.hid (fun i (hi : i < 32) => tcells_reg (cv := cv) h32 hi)
  have HW := Lib.hid ht.2.1
  have HH := Lib.hid h32
  have HB0 : Hid (∀ o, Below w.heap.size w (w.alloc o)) := Lib.hid fun o => (Below.refl _ w).alloc (Nat.le_refl _) o
  generalize tcells cv T.t = C at *
  unfold I64 at hn
  clear hI ht hc h32 hok
  by_cases hd : ¬ T.t.done = true
  · have hd' : T.t.done = false := by simpa using hd
    rw [hd'] at e34
    have F := Lib.hid (fun w' hb => TakenPost.nope (n := n) (w := w) (w' := w') (fun h => hd h.1) hb)
    clear hd hd'
    go_enter Try.func48, Try.ntmps48
    go_wp2
    go_ret3
    exact F.out _ (HB0.out _)
  have hd' := Decidable.not_not.1 hd
  rw [hd'] at e34
  by_cases ha : ¬ T.t.ans = 1
  · have hne : (T.t.ans != 1) = true := by simpa using ha
    have F := Lib.hid (fun w' hb => TakenPost.nope (n := n) (w := w) (w' := w') (fun h => ha h.2.1) hb)
    clear hd hd'
    go_enter Try.func48, Try.ntmps48
    go_wp2
    go_ret3
    exact F.out _ (HB0.out _)
  have ha' := Decidable.not_not.1 ha
  rw [ha'] at e35
  by_cases hn1 : n < 1
  · have F := Lib.hid (fun w' hb => TakenPost.nope (n := n) (w := w) (w' := w') (fun h : T.t.done = true ∧ T.t.ans = 1 ∧ 1 ≤ n ∧ n ≤ 28 => by omega) hb)
    clear hd hd' ha ha'
    go_enter Try.func48, Try.ntmps48
    go_wp2
    go_ret3
    exact F.out _ (HB0.out _)
  by_cases hn28 : 28 < n
  · have F := Lib.hid (fun w' hb => TakenPost.nope (n := n) (w := w) (w' := w') (fun h : T.t.done = true ∧ T.t.ans = 1 ∧ 1 ≤ n ∧ n ≤ 28 => by omega) hb)
    clear hd hd' ha ha'
    go_enter Try.func48, Try.ntmps48
    go_wp2
    go_ret3
    exact F.out _ (HB0.out _)
  obtain ⟨N, rfl⟩ := Int.eq_ofNat_of_zero_le (show 0 ≤ n by omega)
  have hN : N ≤ 28 := by omega
  have hN1 : 1 ≤ N := by omega
  obtain ⟨hcl, hcg⟩ := regs_cut HH.out hN
  have F : Hid (∀ v w', Words w' v ((T.t.regs.drop 1).take N) → Below w.heap.size w w' → TakenPost T (N : Int) w (.returned (.tuple #[.int .i64 (T.t.regs.getD 0 0 / 2), v, .bool true])) w') := Lib.hid fun v w' hv hb =>
    TakenPost.yes ⟨hd', ha', by omega, by omega⟩ (by rw [Int.toNat_natCast]; exact hv) hb
  have hw0 : W64 (T.t.regs.getD 0 0) := HW.out _ (getD_mem (by rw [HH.out]; omega))
  unfold W64 at hw0
  have HCW : Hid (∀ x ∈ (T.t.regs.drop 1).take N, W64 x) := Lib.hid fun x hx => HW.out x (List.mem_of_mem_drop (List.mem_of_mem_take hx))
  have HCL := Lib.hid hcl
  have HCG := Lib.hid hcg
  have HR1 : Hid (∀ j, j < N → C[2 + (1 + j)]? = some (.int .u64 (((T.t.regs.drop 1).take N).getD j 0))) := Lib.hid fun j hj => by rw [HR.out (1 + j) (by omega), hcg j hj]
  generalize T.t.regs.getD 0 0 = r0 at *
  generalize (T.t.regs.drop 1).take N = ws at *
  have hq1 : r0.tdiv 2 = r0 / 2 := Int.tdiv_eq_ediv_of_nonneg hw0.1
  have hq2 : IntKind.u64.wrap (r0 / 2) = r0 / 2 := by rw [IntKind.wrap_u64]; omega
  have hq3 : IntKind.i64.wrap (r0 / 2) = r0 / 2 := by rw [IntKind.wrap_i64]; omega
  obtain ⟨i0, hi, hz0, hz1, hz2⟩ := info_parts info_u64
  clear hd hd' ha ha' hcl hcg
  go_enter Try.func48, Try.ntmps48
  go_wp2_with fail
  refine wp_at fun W0 hW0 => ?_
  have bx : Box W0 w.heap.size 42 C := by rw [hW0]; exact Box.new _ _ _
  have hb0 : Below w.heap.size w W0 := by rw [hW0]; exact HB0.out _
  have HBX := Lib.hid bx
  have HBB := Lib.hid hb0
  clear hW0 bx hb0 e34 e35 HB0
  have HA0 : Hid (AsRel ws W0 0 (.slice none 0 0) W0) := Lib.hid ⟨⟨by simpa [u64s] using World.ownsRow_nil _ _ _ _, by simp⟩, Below.refl _ _⟩
  go_loopw [7, 8] (fun vo i wr => ∃ k : Nat, k ≤ N ∧ i = .int .i64 (k : Int) ∧ Hid (AsRel ws W0 k vo wr)) (fun _ i _ => N - (intOf i).toNat)
  case atStart => exact ⟨0, Nat.zero_le _, rfl, HA0⟩
  case round =>
    clear HA0
    obtain ⟨k, hk, rfl, HRk⟩ := hrel
    by_cases hlt : k < N
    · have hki : (k : Int) < (N : Int) := by omega
      have hw1 : IntKind.i64.wrap (1 + (k : Int)) = ((1 + k : Nat) : Int) := by rw [IntKind.wrap_i64]; omega
      have hk32 : ((1 + k : Nat) : Int) < 32 := by omega
      have c0 := ((HBX.out.kept HRk.out.2).cell (2 + (1 + k))).trans (HR1.out k hlt)
      obtain ⟨r, hr⟩ : ∃ r, ws.getD k 0 = r := ⟨_, rfl⟩
      rw [hr] at c0
      have HR0 := Lib.hid hr
      clear hr
      obtain ⟨q, hq⟩ : ∃ q, q = 1 + k := ⟨_, rfl⟩
      rw [← hq] at hw1 hk32 c0
      clear hq
      go_wp2_with (at_builtin; refine wpList_append_sl _ rfl _ _ 22 rfl W0.heap.size 30 i0 _ 1 8 Try.underlying22 hi hz0 hz1 hz2 rfl (by decide) _ _ _ rfl (HRk.out.1.1.alloc _) _ 1 [.int .u64 r] rfl (Sl.of_own (own_new _ _ 1 #[.int .u64 r] 1 rfl (by decide))) ?qc2 ?qc3 ?qc4 ?qc5 ?_)
      case qc2 => first | (intro u hu; simp at hu; subst hu; rfl) | rfl | simp [Value.oneCell']
      case qc3 => simp only [maxLen, List.length_take]; have := HCL.out; omega
      case qc4 => simp only [List.length_take]; have := HCL.out; omega
      case qc5 => have := HRk.out.2.size; simp; omega
      intro v' w3 hown3 hgrow3 hat3
      have R3 := Lib.hid (as_round HRk.out HCW.out (by rw [HCL.out]; exact hlt) (by rw [HR0.out, List.length_take, Nat.min_eq_left (by rw [HCL.out]; exact hk)]; simpa [Nat.min_eq_left (show k ≤ ws.length by rw [HCL.out]; exact hk)] using hown3) hgrow3)
      clear hown3 hgrow3 hat3
      go_wp2
      go_roundw
      case rel => exact ⟨k + 1, by omega, by go_num, R3⟩
      case measure => simp [intOf]; omega
    · have hki : ¬ (k : Int) < (N : Int) := by omega
      have c0 := ((HBX.out.kept HRk.out.2).cell 2).trans e2
      have hR := HRk.out
      have hke : ws.take k = ws := List.take_of_length_le (by rw [HCL.out]; omega)
      unfold AsRel at hR
      rw [hke] at hR
      have HF := Lib.hid (F.out _ _ hR.1.words (below_call HBB.out hR.2 HBB.out.size))
      clear hR hke
      go_wp2
      go_ret3
      exact HF.out
end Go.Proofs.Ytpkelneimjmmkaa

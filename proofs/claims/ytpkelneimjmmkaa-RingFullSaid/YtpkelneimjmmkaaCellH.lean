/- The contracts of cell.New and of the reference's New, Do, Run. -/
import Derived.Test.YtpkelneimjmmkaaCellG
namespace Go.Proofs.Ytpkelneimjmmkaa
open Go.RowKit

theorem made_u64 (n : Nat) : (madeCells (Value.int .u64 0).cells (n * 1)).toList = u64s (zeros n) := by
  rw [Nat.mul_one]
  show (madeCells #[Value.int .u64 0] n).toList = _
  rw [toList_madeCells_one]
  simp [u64s, zeros, List.map_replicate]

/-- make([]uint64, n). -/
theorem make_u64 (n : Nat) (hn : n ≤ 65536) (w : World) :
    ∃ w', (Instr.makeSlice 22 (.int .i64 (n : Int)) (.int .i64 (n : Int))).run Try.prog w = .ok (.slice (some ⟨w.heap.size, 0, none⟩) n n) w' ∧
      Own w' w.heap.size (.slice (some ⟨w.heap.size, 0, none⟩) n n) (zeros n) ∧ Below w.heap.size w w' := by
  obtain ⟨i0, hi, hz0, hz1, hz2⟩ := info_parts info_u64
  obtain ⟨w', hr, ho, hg⟩ := run_make_full (P := Try.prog) w w.heap.size 22 30 i0 _ 1 Try.underlying22 hi hz0 hz1 .i64 .i64 n (by rw [hz2]; omega) (by simp only [maxLen]; omega) (Nat.le_refl _)
  refine ⟨w', hr, ⟨?_, zeros_ok n⟩, (Below.refl _ _).grown hg (Nat.le_refl _) (by simp)⟩
  rw [made_u64] at ho
  rw [zeros_len]
  exact ho

set_option maxHeartbeats 1000000 in
theorem new_call (n : Int) (hn : I64 n) (w : World) : Calls Try.prog 29 #[.int .i64 n] w (OwnPost (zeros (newLen n)) w) := by
  by_cases h0 : n ≤ 0
  · obtain ⟨w', hmk, ho, hb⟩ := make_u64 0 (by omega) w
    have F : Hid (OwnPost (zeros (newLen n)) w (.returned (.slice (some ⟨w.heap.size, 0, none⟩) 0 0)) w') := Lib.hid ⟨_, rfl, by unfold newLen; rw [if_pos h0]; exact ho, hb⟩
    clear ho hb
    simp only [Int.ofNat_zero] at hmk
    have h1 : ¬ (256 : Int) < n := by omega
    go_enter Try.func29, Try.ntmps29
    go_wp2
    go_ret
    exact F.out
  by_cases h2 : n ≤ 256
  · obtain ⟨k, rfl⟩ := Int.eq_ofNat_of_zero_le (show 0 ≤ n by omega)
    obtain ⟨w', hmk, ho, hb⟩ := make_u64 k (by omega) w
    have F : Hid (OwnPost (zeros (newLen (k : Int))) w (.returned (.slice (some ⟨w.heap.size, 0, none⟩) k k)) w') := Lib.hid ⟨_, rfl, by unfold newLen; rw [if_neg h0, if_pos h2]; exact ho, hb⟩
    clear ho hb
    go_enter Try.func29, Try.ntmps29
    go_wp2
    go_ret
    exact F.out
  · obtain ⟨w', hmk, ho, hb⟩ := make_u64 256 (by omega) w
    have F : Hid (OwnPost (zeros (newLen n)) w (.returned (.slice (some ⟨w.heap.size, 0, none⟩) 256 256)) w') := Lib.hid ⟨_, rfl, by unfold newLen; rw [if_neg h0, if_neg h2]; exact ho, hb⟩
    clear ho hb
    have h3 : (256 : Int) < n := by omega
    have e256 : ((256 : Nat) : Int) = 256 := rfl
    rw [e256] at hmk
    clear e256
    go_enter Try.func29, Try.ntmps29
    go_wp2
    go_ret
    exact F.out

/-- What holds between two rounds of the reference's New. -/
def NewRel (w : World) (k : Nat) (vo : Value) (wr : World) : Prop := Own wr w.heap.size vo (zeros k) ∧ Below w.heap.size w wr
theorem new_round {w wr w3 : World} {vo v' : Value} {k : Nat} {o : Obj} (h : NewRel w k vo wr) 
    (ho : w3.ownsRow w.heap.size 30 1 v' (k + 1) (u64s (zeros k) ++ [.int .u64 0])) (hg : (wr.alloc o).grownBy w3 vo.ownBlock) : NewRel w (k + 1) v' w3 := by
  obtain ⟨h1, h2⟩ := h
  refine ⟨⟨?_, zeros_ok _⟩, (h2.alloc h2.size _).grown hg (by have := h2.size; simp; omega) (fun j hj => (h1.1.lt j hj).1)⟩
  rw [zeros_succ, List.length_append, zeros_len]
  simpa [u64s] using ho

set_option maxHeartbeats 1000000 in
theorem refNew_call (n : Int) (w : World) : Calls Try.prog 30 #[.int .i64 n] w (OwnPost (zeros (newLen n)) w) := by
  obtain ⟨i0, hi, hz0, hz1, hz2⟩ := info_parts info_u64
  have R : NewRel w 0 (.slice none 0 0) w := ⟨⟨by simpa [u64s, zeros] using World.ownsRow_nil _ _ _ _, zeros_ok _⟩, Below.refl _ _⟩
  have HR := Lib.hid R
  clear R
  have hl : newLen n ≤ 256 := by unfold newLen; split <;> (try split) <;> omega
  obtain ⟨m, hm⟩ : ∃ m, newLen n = m := ⟨_, rfl⟩
  have hmin : ∀ k : Nat, (((k : Int) < n ∧ (k : Int) < 256) ↔ k < m) := by intro k; rw [← hm]; unfold newLen; split <;> (try split) <;> omega
  have HM := Lib.hid hmin
  rw [hm] at hl ⊢
  clear hm hmin
  by_cases h3 : (256 : Int) < n
  all_goals
    go_enter Try.func30, Try.ntmps30
    go_wp2_with fail
    go_loopw [3, 4] (fun vo i wr => ∃ k : Nat, k ≤ m ∧ i = .int .i64 (k : Int) ∧ NewRel w k vo wr) (fun _ i _ => m - (intOf i).toNat)
    case atStart => exact ⟨0, Nat.zero_le _, rfl, HR.out⟩
    case round =>
      obtain ⟨k, hk, rfl, hR⟩ := hrel
      have HRk := Lib.hid hR
      clear hR HR
      by_cases hlt : k < m
      · have hki : (k : Int) < n := ((HM.out k).2 hlt).1
        have hki2 : (k : Int) < 256 := ((HM.out k).2 hlt).2
        go_wp2_with (at_builtin; refine wpList_append_sl _ rfl _ _ 22 rfl w.heap.size 30 i0 _ 1 8 Try.underlying22 hi hz0 hz1 hz2 rfl (by decide) _ _ _ rfl (HRk.out.1.1.alloc _) _ 1 [.int .u64 0] rfl (Sl.of_own (own_new _ _ 1 #[.int .u64 0] 1 rfl (by decide))) ?qc2 ?qc3 ?qc4 ?qc5 ?_)
        case qc2 => intro u hu; simp at hu; subst hu; rfl
        case qc3 => simp only [maxLen, zeros_len]; omega
        case qc4 => simp only [zeros_len]; omega
        case qc5 => have := HRk.out.2.size; simp; omega
        intro v' w3 hown3 hgrow3 hat3
        have R3 := Lib.hid (new_round HRk.out (by rw [zeros_len] at hown3; exact hown3) hgrow3)
        clear hown3 hgrow3 hat3
        go_wp2
        go_roundw
        case rel => exact ⟨k + 1, by omega, by go_num, R3.out⟩
        case measure => simp [intOf]; omega
      · have he : k = m := by omega
        have HE := Lib.hid he
        clear he
        have hki : n ≤ (k : Int) ∨ (256 : Int) ≤ (k : Int) := by have := mt (HM.out k).1 hlt; omega
        first
          | (have hki2 : ¬ (k : Int) < n := by omega
             clear hki
             go_wp2
             go_ret
             exact ⟨_, rfl, HE.out ▸ HRk.out.1, HRk.out.2⟩)
          | (have hki2 : ¬ (k : Int) < 256 := by omega
             clear hki
             go_wp2
             go_ret
             exact ⟨_, rfl, HE.out ▸ HRk.out.1, HRk.out.2⟩)
end Go.Proofs.Ytpkelneimjmmkaa

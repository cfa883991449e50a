/- The contracts of seq.Taken and of the reference's. -/
import Derived.Test.YtpkelneimjmmkaaSeqF
namespace Go.Proofs.Ytpkelneimjmmkaa
open Go.RowKit

def takenB (T : FT) (n : Int) : Bool := decide (T.t.done = true ∧ T.t.ans = 1 ∧ 1 ≤ n ∧ n ≤ 28)
def takenV (T : FT) (n : Int) : Int := if takenB T n then T.t.regs.getD 0 0 / 2 else 0
def takenL (T : FT) (n : Int) : List Int := if takenB T n then (T.t.regs.drop 1).take n.toNat else []
def TakenPost (T : FT) (n : Int) (w : World) (e : Ending) (w' : World) : Prop :=
  ∃ v2, e = .returned (.tuple #[.int .i64 (takenV T n), v2, .bool (takenB T n)]) ∧ Words w' v2 (takenL T n) ∧ Below w.heap.size w w'
theorem TakenPost.nope {T : FT} {n : Int} {w w' : World} (h : ¬ (T.t.done = true ∧ T.t.ans = 1 ∧ 1 ≤ n ∧ n ≤ 28)) (hb : Below w.heap.size w w') : TakenPost T n w (.returned (.tuple #[.int .i64 0, .slice none 0 0, .bool false])) w' := by
  have hB : takenB T n = false := decide_eq_false h
  refine ⟨.slice none 0 0, ?_, ?_, hb⟩
  · unfold takenV; rw [hB]; rfl
  · unfold takenL; rw [hB]; exact Words.nil _
theorem TakenPost.yes {T : FT} {n : Int} {w w' : World} {v : Value} (h : T.t.done = true ∧ T.t.ans = 1 ∧ 1 ≤ n ∧ n ≤ 28) (hv : Words w' v ((T.t.regs.drop 1).take n.toNat)) (hb : Below w.heap.size w w') :
    TakenPost T n w (.returned (.tuple #[.int .i64 (T.t.regs.getD 0 0 / 2), v, .bool true])) w' := by
  have hB : takenB T n = true := decide_eq_true h
  refine ⟨v, ?_, ?_, hb⟩
  · unfold takenV; rw [hB]; rfl
  · unfold takenL; rw [hB]; exact hv
set_option maxHeartbeats 4000000 in
set_option maxRecDepth 20000 in
theorem taken_call {v : Value} {T : FT} {n : Int} {w : World} (h : IsTask w v T) (hn : I64 n) : Calls Try.prog 47 #[v, .int .i64 n] w (TakenPost T n w) := by
  have hok := h.ok.1
  obtain ⟨cv, rfl, hI, ht, hc⟩ := h
  have h32 := ht.1
  have e34 := tcells_34 (cv := cv) h32
  have e35 := tcells_35 (cv := cv) h32
  have e2 := tcells_reg (cv := cv) h32 (show 0 < 32 by omega)
  have HR := Lib.hid (fun i (hi : i < 32) => tcells_reg (cv := cv) h32 hi)
  have HW := Lib.hid ht.2.1
  have HH := Lib.hid h32
  have HB0 : Hid (∀ o, Below w.heap.size w (w.alloc o)) := Lib.hid fun o => (Below.refl _ w).alloc (Nat.le_refl _) o
  generalize tcells cv T.t = C at *
  unfold I64 at hn
  clear hI ht hc h32 hok
  by_cases hd : ¬ T.t.done = true
  · have hd' : T.t.done = false := by simpa using hd
    rw [hd'] at e34
    have F := Lib.hid (fun w' hb => TakenPost.nope (n := n) (w := w) (w' := w') (fun h => hd h.1) hb)
    clear hd hd'
    go_enter Try.func47, Try.ntmps47
    go_wp2
    go_ret3
    exact F.out _ (HB0.out _)
  have hd' := Decidable.not_not.1 hd
  rw [hd'] at e34
  by_cases ha : ¬ T.t.ans = 1
  · have hne : (T.t.ans != 1) = true := by simpa using ha
    have F := Lib.hid (fun w' hb => TakenPost.nope (n := n) (w := w) (w' := w') (fun h => ha h.2.1) hb)
    clear hd hd'
    go_enter Try.func47, Try.ntmps47
    go_wp2
    go_ret3
    exact F.out _ (HB0.out _)
  have ha' := Decidable.not_not.1 ha
  rw [ha'] at e35
  by_cases hn1 : n < 1
  · have F := Lib.hid (fun w' hb => TakenPost.nope (n := n) (w := w) (w' := w') (fun h : T.t.done = true ∧ T.t.ans = 1 ∧ 1 ≤ n ∧ n ≤ 28 => by omega) hb)
    clear hd hd' ha ha'
    go_enter Try.func47, Try.ntmps47
    go_wp2
    go_ret3
    exact F.out _ (HB0.out _)
  by_cases hn28 : 28 < n
  · have F := Lib.hid (fun w' hb => TakenPost.nope (n := n) (w := w) (w' := w') (fun h : T.t.done = true ∧ T.t.ans = 1 ∧ 1 ≤ n ∧ n ≤ 28 => by omega) hb)
    clear hd hd' ha ha'
    go_enter Try.func47, Try.ntmps47
    go_wp2
    go_ret3
    exact F.out _ (HB0.out _)
  obtain ⟨N, rfl⟩ := Int.eq_ofNat_of_zero_le (show 0 ≤ n by omega)
  have hN : N ≤ 28 := by omega
  have hN1 : 1 ≤ N := by omega
  obtain ⟨hcl, hcg⟩ := regs_cut HH.out hN
  have F : Hid (∀ v w', Words w' v ((T.t.regs.drop 1).take N) → Below w.heap.size w w' → TakenPost T (N : Int) w (.returned (.tuple #[.int .i64 (T.t.regs.getD 0 0 / 2), v, .bool true])) w') := Lib.hid fun v w' hv hb =>
    TakenPost.yes ⟨hd', ha', by omega, by omega⟩ (by rw [Int.toNat_natCast]; exact hv) hb
  have hw0 : W64 (T.t.regs.getD 0 0) := HW.out _ (getD_mem (by rw [HH.out]; omega))
  unfold W64 at hw0
  have HCW : Hid (∀ x ∈ (T.t.regs.drop 1).take N, W64 x) := Lib.hid fun x hx => HW.out x (List.mem_of_mem_drop (List.mem_of_mem_take hx))
  have HSL : Hid (∀ W, Box W w.heap.size 42 C → Sl W (.slice (some ⟨w.heap.size, 2 + 1, none⟩) N 31) 1 N (u64s ((T.t.regs.drop 1).take N))) := Lib.hid fun W hW => by
    refine ⟨by rw [u64s_len, hcl]; omega, some ⟨w.heap.size, 2 + 1, none⟩, 31, rfl, by omega, by simp [maxLen], (fun e => by cases e), fun _ => ⟨_, rfl, hW.lt, fun j u hu => ?_⟩⟩
    have hj : j < N := by have := (List.getElem?_eq_some_iff.1 hu).1; rw [u64s_len, hcl] at this; exact this
    rw [u64s_get (by rw [hcl]; exact hj), hcg j hj] at hu
    rw [add_lit, hW.cell, show 2 + 1 + j = 2 + (1 + j) by omega, HR.out (1 + j) (by omega)]
    exact hu
  have HCL := Lib.hid hcl
  generalize T.t.regs.getD 0 0 = r0 at *
  generalize (T.t.regs.drop 1).take N = ws at *
  have hq1 : r0.tdiv 2 = r0 / 2 := Int.tdiv_eq_ediv_of_nonneg hw0.1
  have hq2 : IntKind.u64.wrap (r0 / 2) = r0 / 2 := by rw [IntKind.wrap_u64]; omega
  have hq3 : IntKind.i64.wrap (r0 / 2) = r0 / 2 := by rw [IntKind.wrap_i64]; omega
  have hw1 : IntKind.i64.wrap ((N : Int) + 1) = (N : Int) + 1 := by rw [IntKind.wrap_i64]; omega
  have hN32 : (N : Int) + 1 ≤ 32 := by omega
  have hN0 : (1 : Int) ≤ (N : Int) + 1 := by omega
  clear hd hd' ha ha' hcl hcg
  go_enter Try.func47, Try.ntmps47
  go_wp2_with fail
  refine wp_at fun W0 hW0 => ?_
  have bx : Box W0 w.heap.size 42 C := by rw [hW0]; exact Box.new _ _ _
  have hb0 : Below w.heap.size w W0 := by rw [hW0]; exact HB0.out _
  have c2 : W0.drew.cell? ⟨w.heap.size, 2, none⟩ = some (.int .u64 r0) := (bx.cell 2).trans e2
  have HS0 := Lib.hid (HSL.out W0 bx)
  have HBX := Lib.hid bx
  have HBB := Lib.hid hb0
  clear hW0 bx hb0 e34 e35 e2 HB0
  go_region_held3 (fun w' => w'.cell? ⟨w.heap.size, 2, none⟩ = some (.int .u64 r0)) (first | exact c2 | exact c9)
    (first | (go_at_call 80; refine (clone_u64 _ N (u64s ws) W0.drew HS0.out (by omega) (one_u64s ws)).mono ?_; rintro e w5 ⟨v5, rfl, ho5, hb5'⟩; have hb5 := below_of_drew hb5'; have c9 := (hb5.cell (p := ⟨w.heap.size, 2, none⟩) HBX.out.lt).trans c2))
  have hwd : Words w5 v5 ws := ⟨by rw [HCL.out]; exact Sl.of_own ho5, HCW.out⟩
  have HF := Lib.hid (F.out v5 w5 hwd (below_call HBB.out hb5 HBB.out.size))
  go_wp2
  go_ret3
  exact HF.out
end Go.Proofs.Ytpkelneimjmmkaa

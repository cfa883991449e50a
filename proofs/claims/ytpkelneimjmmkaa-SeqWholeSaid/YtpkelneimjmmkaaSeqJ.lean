/- The contract of the words that layer 15's statements write. -/
import Derived.Test.YtpkelneimjmmkaaSeqI
namespace Go.Proofs.Ytpkelneimjmmkaa
open Go.RowKit

def wval (i : Int) (q : Nat) : Int := i * 1000 + (q : Int) * (q : Int)
def wordsTo (n : Nat) (i : Int) (k : Nat) : List Int := (List.range n).map fun q => if q < k then wval i q else 0
/-- What is written as number i. -/
def wordsQ (n : Nat) (i : Int) : List Int := if 0 < i then wordsTo n i n else zeros n
theorem wordsTo_len (n : Nat) (i : Int) (k : Nat) : (wordsTo n i k).length = n := by simp [wordsTo]
theorem wordsQ_len (n : Nat) (i : Int) : (wordsQ n i).length = n := by
  unfold wordsQ; split
  · exact wordsTo_len _ _ _
  · exact zeros_len n
theorem wordsTo_zero (n : Nat) (i : Int) : wordsTo n i 0 = zeros n := by
  unfold wordsTo zeros
  apply List.ext_getElem?
  intro j
  by_cases h : j < n
  · simp [h]
  · simp [h]
theorem wordsTo_succ (n : Nat) (i : Int) {k : Nat} (hk : k < n) : wordsTo n i (k + 1) = (wordsTo n i k).set k (wval i k) := by
  unfold wordsTo
  apply List.ext_getElem?
  intro j
  by_cases hj : j < n
  · by_cases he : k = j
    · subst he
      rw [List.getElem?_set_self (by simpa using hk)]
      simp [hk]
    · rw [List.getElem?_set_ne he]
      simp only [List.getElem?_map, List.getElem?_range hj, Option.map_some]
      by_cases h1 : j < k
      · rw [if_pos h1, if_pos (by omega)]
      · rw [if_neg h1, if_neg (by omega)]
  · rw [List.getElem?_eq_none (by simp; omega), List.getElem?_eq_none (by simp; omega)]
theorem wval_ok {i : Int} (h0 : 0 < i) (h1 : i ≤ 1000) {q : Nat} (hq : q ≤ 28) : 0 ≤ (q : Int) * (q : Int) ∧ (q : Int) * (q : Int) ≤ 784 ∧ W64 (wval i q) := by
  have hqq : q * q ≤ 784 := by have := Nat.mul_le_mul hq hq; omega
  have e : (q : Int) * (q : Int) = ((q * q : Nat) : Int) := by push_cast; rfl
  refine ⟨by omega, by omega, ?_⟩
  unfold wval W64
  omega
theorem wordsTo_ok {n : Nat} (hn : n ≤ 28) {i : Int} (h0 : 0 < i) (h1 : i ≤ 1000) (k : Nat) : ∀ x ∈ wordsTo n i k, W64 x := by
  intro x hx
  simp only [wordsTo, List.mem_map, List.mem_range] at hx
  obtain ⟨q, hq, rfl⟩ := hx
  split
  · exact (wval_ok h0 h1 (by omega)).2.2
  · simp [W64]
theorem Own.frozen {w : World} {B g n cap : Nat} {l : List Int} (h : Own w B (.slice (some ⟨g, 0, none⟩) n cap) l) (j : Nat) : w.frozen? ⟨g, j, none⟩ = false := by
  obtain ⟨⟨_, h2⟩, _⟩ := h
  rcases h2 with ⟨h2, _⟩ | ⟨g', cap', cur, e, hg, hh, _⟩
  · cases h2
  · injection e with e1 e2 e3
    injection e1 with e1
    injection e1 with e1
    subst e1
    simp [World.frozen?, hh]
structure WRel (w : World) (n : Nat) (i : Int) (v : Value) (k : Nat) (wr : World) : Prop where
  own : Own wr w.heap.size v (wordsTo n i k)
  below : Below w.heap.size w wr

set_option maxHeartbeats 2000000 in
set_option maxRecDepth 20000 in
theorem words15_call (n : Nat) (hn : n ≤ 28) (i : Int) (hi : i ≤ 1000) (w : World) : Calls Try.prog 56 #[.int .i64 (n : Int), .int .i64 i] w (OwnPost (wordsQ n i) w) := by
  obtain ⟨w', hmk, ho, hb⟩ := make_u64 n (by omega) w
  have HO := Lib.hid ho
  have HB := Lib.hid hb
  clear ho hb
  by_cases h0 : 0 < i
  · have HR : Hid (WRel w n i (.slice (some ⟨w.heap.size, 0, none⟩) n n) 0 w') := Lib.hid ⟨by rw [wordsTo_zero]; exact HO.out, HB.out⟩
    clear HO HB
    go_enter Try.func56, Try.ntmps56
    go_wp2_with fail
    go_loopw [6] (fun q wr => ∃ k : Nat, k ≤ n ∧ q = .int .i64 (k : Int) ∧ Hid (WRel w n i (.slice (some ⟨w.heap.size, 0, none⟩) n n) k wr)) (fun q _ => n - (intOf q).toNat)
    case atStart => exact ⟨0, Nat.zero_le _, rfl, HR⟩
    case round =>
      clear HR
      obtain ⟨k, hk, rfl, HR⟩ := hrel
      by_cases hlt : k < n
      · have hki : (k : Int) < (n : Int) := by omega
        obtain ⟨hq0, hq1, hq2⟩ := wval_ok h0 hi (show k ≤ 28 by omega)
        obtain ⟨b, o, hA, _, p0⟩ := HR.out.own.words.at_ (by rw [wordsTo_len]) (by rw [wordsTo_len]; exact hlt)
        injection hA with hA
        injection hA with hA1 hA2
        subst hA1 hA2
        rw [Nat.zero_add] at p0
        have hfz := HR.out.own.frozen k
        have hw1 : IntKind.i64.wrap ((k : Int) * (k : Int)) = (k : Int) * (k : Int) := by rw [IntKind.wrap_i64]; omega
        have hw1' : wrap64 ((k : Int) * (k : Int)) = (k : Int) * (k : Int) := by unfold wrap64; omega
        have hw2 : IntKind.u64.wrap ((k : Int) * (k : Int)) = (k : Int) * (k : Int) := by rw [IntKind.wrap_u64]; omega
        have hw3 : IntKind.u64.wrap i = i := by rw [IntKind.wrap_u64]; omega
        have hw4 : IntKind.u64.wrap (i * 1000) = i * 1000 := by rw [IntKind.wrap_u64]; omega
        have hw5 : IntKind.u64.wrap (i * 1000 + (k : Int) * (k : Int)) = wval i k := by rw [IntKind.wrap_u64]; unfold wval; unfold wval W64 at hq2; omega
        have R3 : Hid (WRel w n i (.slice (some ⟨w.heap.size, 0, none⟩) n n) (k + 1) (wr.setCell ⟨w.heap.size, k, none⟩ (.int .u64 (wval i k)))) := Lib.hid (by
          refine ⟨⟨?_, wordsTo_ok hn h0 hi _⟩, HR.out.below.setCell (p := ⟨w.heap.size, k, none⟩) (Nat.le_refl _) _⟩
          have := HR.out.own.1
          rw [wordsTo_len] at this ⊢
          rw [wordsTo_succ n i hlt]
          exact own_set this)
        clear hq0 hq1 hq2
        go_wp2
        go_roundw
        case rel => exact ⟨k + 1, by omega, by go_num, R3⟩
        case measure => simp [intOf]; omega
      · have hki : ¬ (k : Int) < (n : Int) := by omega
        have hke : k = n := by omega
        subst hke
        have F : Hid (OwnPost (wordsQ k i) w (.returned (.slice (some ⟨w.heap.size, 0, none⟩) k k)) wr) := Lib.hid ⟨_, rfl, by unfold wordsQ; rw [if_pos h0]; exact HR.out.own, HR.out.below⟩
        go_wp2
        go_ret
        exact F.out
  · have F : Hid (OwnPost (wordsQ n i) w (.returned (.slice (some ⟨w.heap.size, 0, none⟩) n n)) w') := Lib.hid ⟨_, rfl, by unfold wordsQ; rw [if_neg h0]; exact HO.out, HB.out⟩
    clear HO HB
    go_enter Try.func56, Try.ntmps56
    go_wp2_with fail
    go_loopw [6] (fun q wr => q = .int .i64 0 ∧ wr = w') (fun q _ => n - (intOf q).toNat)
    case atStart => exact ⟨rfl, rfl⟩
    case round =>
      obtain ⟨rfl, rfl⟩ := hrel
      by_cases hn0 : 0 < n
      · have hn0' : (0 : Int) < (n : Int) := by omega
        go_wp2
        go_ret
        exact F.out
      · have hn0' : ¬ (0 : Int) < (n : Int) := by omega
        go_wp2
        go_ret
        exact F.out
end Go.Proofs.Ytpkelneimjmmkaa

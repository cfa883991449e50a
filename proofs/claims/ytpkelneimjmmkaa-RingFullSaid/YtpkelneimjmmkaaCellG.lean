/- The contracts of cell.New and of the reference's As, Same, New. -/
import Derived.Test.YtpkelneimjmmkaaCellF
namespace Go.Proofs.Ytpkelneimjmmkaa
open Go.RowKit

/-- The word at a place of a list in memory. -/
theorem Words.at_ {w : World} {A : Option Addr} {n c : Nat} {ms : List Int} {k : Nat} (h : Words w (.slice A n c) ms) (hn : n = ms.length) (hk : k < ms.length) :
    ∃ b off, A = some ⟨b, off, none⟩ ∧ b < w.heap.size ∧ w.cell? ⟨b, off + k, none⟩ = some (.int .u64 (ms.getD k 0)) := by
  subst hn
  obtain ⟨b, off, rfl, hb, hc⟩ := h.1.at_ (by omega) (by omega)
  exact ⟨b, off, rfl, hb, hc k _ (u64s_get hk)⟩

/-- What holds between two rounds of As. -/
def AsRel (ms : List Int) (w : World) (k : Nat) (vo : Value) (wr : World) : Prop := Own wr w.heap.size vo (ms.take k) ∧ Below w.heap.size w wr

theorem as_round {ms : List Int} {w wr w3 : World} {vo v' : Value} {k : Nat} {o : Obj} (h : AsRel ms w k vo wr) (hm : ∀ x ∈ ms, W64 x) (hk : k < ms.length)
    (ho : w3.ownsRow w.heap.size 30 1 v' ((ms.take k).length + 1) (u64s (ms.take k) ++ [.int .u64 (ms.getD k 0)])) (hg : (wr.alloc o).grownBy w3 vo.ownBlock) : AsRel ms w (k + 1) v' w3 := by
  obtain ⟨h1, h2⟩ := h
  have hs : ms.take (k + 1) = ms.take k ++ [ms.getD k 0] := by rw [take_snoc ms k hk, List.getD_eq_getElem?_getD, List.getElem?_eq_getElem hk]; rfl
  refine ⟨⟨?_, fun x hx => hm x (List.mem_of_mem_take hx)⟩, (h2.alloc h2.size _).grown hg (by have := h2.size; simp; omega) (fun j hj => (h1.1.lt j hj).1)⟩
  rw [hs]
  simpa [u64s] using ho

set_option maxHeartbeats 1000000 in
theorem as_call {v : Value} {ms : List Int} {w : World} (h : Words w v ms) : Calls Try.prog 72 #[v] w (OwnPost (counts ms) w) := by
  obtain ⟨i0, hi, hz0, hz1, hz2⟩ := info_parts info_u64
  obtain ⟨A, c, rfl, hc1, hc2, hA⟩ := h.1.form
  unfold maxLen at hc2
  have H := Lib.hid h
  have hlen : (ms.length : Int) ≤ 9223372036854775807 := by omega
  have hm := Lib.hid h.2
  have R : AsRel ms w 0 (.slice none 0 0) w := ⟨⟨by simpa [u64s] using World.ownsRow_nil _ _ _ _, by simp⟩, Below.refl _ _⟩
  have HR := Lib.hid R
  clear h hA hc1 R
  go_enter Try.func72, Try.ntmps72
  go_wp2_with fail
  go_loopw [3, 4] (fun vo i wr => ∃ k : Nat, k ≤ ms.length ∧ k ≤ 256 ∧ i = .int .i64 (k : Int) ∧ AsRel ms w k vo wr) (fun _ i _ => ms.length - (intOf i).toNat)
  case atStart => exact ⟨0, Nat.zero_le _, Nat.zero_le _, rfl, HR.out⟩
  case round =>
    obtain ⟨k, hk, hk2, rfl, hR⟩ := hrel
    have HRk := Lib.hid hR
    clear hR HR
    by_cases hlt : k < ms.length
    · by_cases h256 : k < 256
      · obtain ⟨b, off, rfl, hbl, c0⟩ := (H.out.below HRk.out.2).at_ rfl hlt
        have hki : (k : Int) < (ms.length : Int) := by omega
        have hki2 : (k : Int) < 256 := by omega
        obtain ⟨r, hr⟩ : ∃ r, ms.getD k 0 = r := ⟨_, rfl⟩
        rw [hr] at c0
        have HR0 := Lib.hid hr
        clear hr
        go_wp2_with (at_builtin; refine wpList_append_sl _ rfl _ _ 22 rfl w.heap.size 30 i0 _ 1 8 Try.underlying22 hi hz0 hz1 hz2 rfl (by decide) _ _ _ rfl (HRk.out.1.1.alloc _) _ 1 [.int .u64 r] rfl (Sl.of_own (own_new _ _ 1 #[.int .u64 r] 1 rfl (by decide))) ?qc2 ?qc3 ?qc4 ?qc5 ?_)
        case qc2 => intro u hu; simp at hu; subst hu; rfl
        case qc3 => simp only [maxLen, List.length_take]; omega
        case qc4 => simp only [List.length_take]; omega
        case qc5 => have := HRk.out.2.size; simp; omega
        intro v' w3 hown3 hgrow3 hat3
        have R3 := Lib.hid (as_round HRk.out hm.out hlt (by rw [HR0.out, List.length_take, Nat.min_eq_left hk]; exact hown3) hgrow3)
        clear hown3 hgrow3 hat3
        go_wp2
        go_roundw
        case rel => exact ⟨k + 1, by omega, by omega, by go_num, R3.out⟩
        case measure => simp [intOf]; omega
      · have hki : (k : Int) < (ms.length : Int) := by omega
        have hki2 : ¬ (k : Int) < 256 := by omega
        have he : k = 256 := by omega
        have HE := Lib.hid he
        clear he
        go_wp2
        go_ret
        have hR := HRk.out
        rw [HE.out] at hR
        exact ⟨_, rfl, hR.1, hR.2⟩
    · have hki : ¬ (k : Int) < (ms.length : Int) := by omega
      have he : k = ms.length := by omega
      have HE := Lib.hid he
      clear he
      go_wp2
      go_ret
      have hR := HRk.out
      have hc : ms.take k = counts ms := by unfold counts; rw [HE.out, List.take_length, List.take_of_length_le (by rw [← HE.out]; exact hk2)]
      exact ⟨_, rfl, hc ▸ hR.1, hR.2⟩

/-- A call that answers a Bool and has turned nothing that was there. -/
def BoolPost (b : Bool) (w : World) (e : Ending) (w' : World) : Prop := e = .returned (.bool b) ∧ Below w.heap.size w w'

theorem below_drewN {B : Nat} {a w : World} (h : Below B a w) (n : Nat) : Below B a (w.drewN n) := ⟨h.os, h.tape, h.output, h.size, h.block⟩

/-- Two lists of one length are one if they are so at each place. -/
theorem eq_of_getD {a b : List Int} (hl : a.length = b.length) (h : ∀ k, k < a.length → a.getD k 0 = b.getD k 0) : a = b := by
  apply List.ext_getElem hl
  intro i h1 h2
  have := h i h1
  simpa [List.getD_eq_getElem?_getD, List.getElem?_eq_getElem h1, List.getElem?_eq_getElem h2] using this

set_option maxHeartbeats 1000000 in
theorem same_call {v1 v2 : Value} {a b : List Int} {w : World} (h1 : Words w v1 a) (h2 : Words w v2 b) : Calls Try.prog 28 #[v1, v2] w (BoolPost (decide (a = b)) w) := by
  obtain ⟨A, c, rfl, hc1, hc2, hA⟩ := h1.1.form
  obtain ⟨B, d, rfl, hd1, hd2, hB⟩ := h2.1.form
  unfold maxLen at hc2 hd2
  have H1 := Lib.hid h1
  have H2 := Lib.hid h2
  have hlen : (a.length : Int) ≤ 9223372036854775807 := by omega
  clear h1 h2 hA hB hc1 hd1
  by_cases hl : a.length = b.length
  · have hle : ((a.length : Int) != (b.length : Int)) = false := by simp [hl]
    have HL := Lib.hid hl
    clear hl
    go_enter Try.func28, Try.ntmps28
    go_wp2_with fail
    go_loopw [5] (fun i wr => ∃ k : Nat, k ≤ a.length ∧ i = .int .i64 (k : Int) ∧ Below w.heap.size w wr ∧ Hid (∀ j, j < k → a.getD j 0 = b.getD j 0)) (fun i _ => a.length - (intOf i).toNat)
    case atStart => exact ⟨0, Nat.zero_le _, rfl, Below.refl _ _, Lib.hid fun j hj => absurd hj (by omega)⟩
    case round =>
      obtain ⟨k, hk, rfl, hB, hJ⟩ := hrel
      have HB := Lib.hid hB
      clear hB
      by_cases hlt : k < a.length
      · obtain ⟨p, off, rfl, hbl, c0⟩ := (H1.out.below HB.out).at_ rfl hlt
        obtain ⟨q, off2, rfl, hbl2, c1⟩ := (H2.out.below HB.out).at_ rfl (by rw [← HL.out]; exact hlt)
        obtain ⟨r, hr⟩ : ∃ r, a.getD k 0 = r := ⟨_, rfl⟩
        obtain ⟨s, hs⟩ : ∃ s, b.getD k 0 = s := ⟨_, rfl⟩
        rw [hr] at c0
        rw [hs] at c1
        have HR := Lib.hid hr
        have HS := Lib.hid hs
        clear hr hs
        have hki : (k : Int) < (a.length : Int) := by omega
        have hki2 : (k : Int) < (b.length : Int) := by have := HL.out; omega
        by_cases he : r = s
        · have hne : (r != s) = false := by simp [he]
          have HE := Lib.hid he
          clear he
          go_wp2_with fail
          go_quiet (fail)
          go_wp2
          go_roundw
          case rel => exact ⟨k + 1, by omega, by go_num, below_drewN HB.out _, Lib.hid fun j hj => by
            by_cases e : j = k
            · subst e; rw [HR.out, HS.out]; exact HE.out
            · exact hJ.out j (by omega)⟩
          case measure => simp [intOf]; omega
        · have hne : (r != s) = true := by simpa using he
          have HE := Lib.hid he
          clear he
          go_wp2_with fail
          go_quiet (fail)
          go_wp2
          go_ret
          refine ⟨?_, below_drewN HB.out _⟩
          have : a ≠ b := by intro e; apply HE.out; rw [← HR.out, ← HS.out, e]
          simp [this]
      · have hki : ¬ (k : Int) < (a.length : Int) := by omega
        have he : k = a.length := by omega
        have HE := Lib.hid he
        clear he
        go_wp2
        go_ret
        refine ⟨?_, HB.out⟩
        have : a = b := eq_of_getD HL.out fun j hj => hJ.out j (by have := HE.out; omega)
        simp [this]
  · have hle : ((a.length : Int) != (b.length : Int)) = true := by simp; omega
    have HL := Lib.hid hl
    clear hl
    go_enter Try.func28, Try.ntmps28
    go_wp2
    go_ret
    refine ⟨?_, Below.refl _ _⟩
    have : a ≠ b := fun e => HL.out (by rw [e])
    simp [this]
end Go.Proofs.Ytpkelneimjmmkaa

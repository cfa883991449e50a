/- The contracts of ring.code, of ring.may and its reference's, and of Size. -/
import Derived.Test.YtpkelneimjmmkaaRingA
import Derived.Test.YtpkelneimjmmkaaSeqB
namespace Go.Proofs.Ytpkelneimjmmkaa
open Go.RowKit

set_option maxHeartbeats 2000000 in
theorem rcode_call {v : Value} {ps : List (Value × List Insn)} {w : World} (h : Insss w v ps) (h0 : 0 < (ps.flatMap (·.2)).length) (hn : (ps.flatMap (·.2)).length ≤ 4096) :
    Calls Try.prog 86 #[v] w (fun e w' => ∃ v', e = .returned v' ∧ OwnI w' w.heap.size v' (onL (ps.flatMap (·.2))) ∧ Below w.heap.size w w') := by
  have H := Lib.hid h
  clear h
  obtain ⟨l, hl0⟩ : ∃ l, l = ps.flatMap (·.2) := ⟨_, rfl⟩
  rw [← hl0] at h0 hn ⊢
  have HL0 := Lib.hid hl0
  clear hl0
  go_enter Try.func86, Try.ntmps86
  go_wp2_with fail
  refine (concat_call H.out (by rw [← HL0.out]; exact h0) (by rw [← HL0.out]; exact hn)).mono ?_
  rintro e w1 ⟨v1, rfl, ho1, hb1⟩
  rw [← HL0.out] at ho1
  obtain ⟨A, c, hv1⟩ := ho1.form
  subst hv1
  have HB1 := Lib.hid hb1
  have HO1 := Lib.hid ho1
  have hl := hn
  have HR : Hid (OnRel w1 w.heap.size (.slice A l.length c) l 0 w1) := Lib.hid ⟨by rw [onTo_zero]; exact ho1, World.grownBy.refl _ _⟩
  clear ho1 hb1
  go_wp2_with fail
  go_loopw [9] (fun i wr => ∃ k : Nat, k ≤ l.length ∧ i = .int .i64 (k : Int) ∧ Hid (OnRel w1 w.heap.size (.slice A l.length c) l k wr)) (fun i _ => l.length - (intOf i).toNat)
  case atStart => exact ⟨0, Nat.zero_le _, rfl, HR⟩
  case round =>
    clear HR
    obtain ⟨k, hk, rfl, HR⟩ := hrel
    by_cases hlt : k < l.length
    · have hki : (k : Int) < (l.length : Int) := by omega
      have hI := HR.out.row.inss
      obtain ⟨b, o, hA, _, p0, p1, p2, p3, p4⟩ := hI.at_ (by rw [onTo_len]) (by rw [onTo_len]; exact hlt)
      subst hA
      obtain ⟨ho, hB, hbw⟩ := HR.out.row.head rfl
      subst ho
      rw [onTo_at l hlt] at p3
      rw [Nat.zero_add] at p3
      have hfz := HR.out.row.frozen (k * 5 + 3)
      have hxo := onTo_at l hlt
      have hw1 : IntKind.i64.wrap ((k : Int) + 1) = (k : Int) + 1 := by rw [IntKind.wrap_i64]; omega
      have hsucc := onTo_succ l hlt
      generalize hx : l.getD k insn0 = x at *
      by_cases h0 : x.to = 0
      · have R2 : Hid (OnRel w1 w.heap.size (.slice (some ⟨b, 0, none⟩) l.length c) l (k + 1) (wr.setCell ⟨b, k * 5 + 3, none⟩ (.int .i64 ((k : Int) + 1)))) := Lib.hid (by
          refine ⟨?_, only_set HR.out.grown (k * 5 + 3) _⟩
          have := HR.out.row.setTo (by rw [onTo_len]) (k := k) (by rw [onTo_len]; exact hlt) (x := (k : Int) + 1) ⟨by omega, by omega⟩
          rw [hxo] at this
          rw [hsucc]
          unfold onI
          rw [if_pos h0]
          exact this)
        rw [h0] at p3
        clear hxo hsucc h0 p0 p1 p2 p4 hI hx
        go_wp2
        go_roundw
        case rel => exact ⟨k + 1, by omega, by go_num, R2⟩
        case measure => simp [intOf]; omega
      · have R2 : Hid (OnRel w1 w.heap.size (.slice (some ⟨b, 0, none⟩) l.length c) l (k + 1) wr) := Lib.hid (by
          refine ⟨?_, HR.out.grown⟩
          rw [hsucc]
          unfold onI
          rw [if_neg h0]
          have e : (onTo l k).set k x = onTo l k := by
            apply List.ext_getElem?
            intro i
            by_cases he : k = i
            · subst he
              have hkl : k < (onTo l k).length := by rw [onTo_len]; exact hlt
              rw [List.getElem?_set_self hkl]
              rw [List.getD_eq_getElem?_getD, List.getElem?_eq_getElem hkl] at hxo
              rw [List.getElem?_eq_getElem hkl]
              exact congrArg some hxo.symm
            · rw [List.getElem?_set_ne he]
          rw [e]
          exact HR.out.row)
        clear hxo hsucc p0 p1 p2 p4 hI hx
        go_wp2
        go_roundw
        case rel => exact ⟨k + 1, by omega, by go_num, R2⟩
        case measure => simp [intOf]; omega
    · have hki : ¬ (k : Int) < (l.length : Int) := by omega
      have he : k = l.length := by omega
      have hrow := HR.out.row
      rw [he, onTo_all] at hrow
      have HRW := Lib.hid hrow
      clear hrow he
      have HBF : Hid (Below w.heap.size w wr) := Lib.hid (HB1.out.grown HR.out.grown HB1.out.size (fun j hj => (HO1.out.1.lt j hj).1))
      go_wp2
      go_ret
      exact ⟨_, rfl, HRW.out, HBF.out⟩

def mayR (b n : Int) : Prop := 0 ≤ b ∧ b ≤ 255 ∧ 1 ≤ n ∧ n ≤ 8
instance (b n : Int) : Decidable (mayR b n) := by unfold mayR; exact inferInstance
theorem mayR_cases (b n : Int) : b < 0 ∨ (0 ≤ b ∧ 255 < b) ∨ (0 ≤ b ∧ b ≤ 255 ∧ n < 1) ∨ (0 ≤ b ∧ b ≤ 255 ∧ 1 ≤ n ∧ 8 < n) ∨ (0 ≤ b ∧ b ≤ 255 ∧ 1 ≤ n ∧ n ≤ 8) := by omega
theorem mayR_call (b n : Int) (w : World) : Calls Try.prog 84 #[.int .i64 b, .int .i64 n] w (BoolPost (decide (mayR b n)) w) := by
  rcases mayR_cases b n with h0 | ⟨h0, h1⟩ | ⟨h0, h1, h2⟩ | ⟨h0, h1, h2, h3⟩ | ⟨h0, h1, h2, h3⟩
  · have F : Hid (BoolPost (decide (mayR b n)) w (.returned (.bool false)) w) := Lib.hid ⟨by rw [decide_eq_false (fun h => by unfold mayR at h; omega)], Below.refl _ _⟩
    go_enter Try.func84, Try.ntmps84
    go_wp2
    go_ret
    exact F.out
  · have F : Hid (BoolPost (decide (mayR b n)) w (.returned (.bool false)) w) := Lib.hid ⟨by rw [decide_eq_false (fun h => by unfold mayR at h; omega)], Below.refl _ _⟩
    have h1' : ¬ b ≤ 255 := by omega
    go_enter Try.func84, Try.ntmps84
    go_wp2
    go_ret
    exact F.out
  · have F : Hid (BoolPost (decide (mayR b n)) w (.returned (.bool false)) w) := Lib.hid ⟨by rw [decide_eq_false (fun h => by unfold mayR at h; omega)], Below.refl _ _⟩
    have h2' : ¬ 0 < n := by omega
    go_enter Try.func84, Try.ntmps84
    go_wp2
    go_ret
    exact F.out
  · have F : Hid (BoolPost (decide (mayR b n)) w (.returned (.bool false)) w) := Lib.hid ⟨by rw [decide_eq_false (fun h => by unfold mayR at h; omega)], Below.refl _ _⟩
    have h2' : 0 < n := by omega
    have h3' : ¬ n ≤ 8 := by omega
    go_enter Try.func84, Try.ntmps84
    go_wp2
    go_ret
    exact F.out
  · have F : Hid (BoolPost (decide (mayR b n)) w (.returned (.bool true)) w) := Lib.hid ⟨by rw [decide_eq_true (p := mayR b n) ⟨h0, h1, h2, h3⟩], Below.refl _ _⟩
    have h2' : 0 < n := by omega
    go_enter Try.func84, Try.ntmps84
    go_wp2
    go_ret
    exact F.out
theorem refMayR_call (b n : Int) (w : World) : Calls Try.prog 85 #[.int .i64 b, .int .i64 n] w (BoolPost (decide (mayR b n)) w) := by
  rcases mayR_cases b n with h0 | ⟨h0, h1⟩ | ⟨h0, h1, h2⟩ | ⟨h0, h1, h2, h3⟩ | ⟨h0, h1, h2, h3⟩
  · have F : Hid (BoolPost (decide (mayR b n)) w (.returned (.bool false)) w) := Lib.hid ⟨by rw [decide_eq_false (fun h => by unfold mayR at h; omega)], Below.refl _ _⟩
    go_enter Try.func85, Try.ntmps85
    go_wp2
    go_ret
    exact F.out
  · have F : Hid (BoolPost (decide (mayR b n)) w (.returned (.bool false)) w) := Lib.hid ⟨by rw [decide_eq_false (fun h => by unfold mayR at h; omega)], Below.refl _ _⟩
    have h1' : ¬ b ≤ 255 := by omega
    go_enter Try.func85, Try.ntmps85
    go_wp2
    go_ret
    exact F.out
  · have F : Hid (BoolPost (decide (mayR b n)) w (.returned (.bool false)) w) := Lib.hid ⟨by rw [decide_eq_false (fun h => by unfold mayR at h; omega)], Below.refl _ _⟩
    have h2' : ¬ 1 ≤ n := by omega
    go_enter Try.func85, Try.ntmps85
    go_wp2
    go_ret
    exact F.out
  · have F : Hid (BoolPost (decide (mayR b n)) w (.returned (.bool false)) w) := Lib.hid ⟨by rw [decide_eq_false (fun h => by unfold mayR at h; omega)], Below.refl _ _⟩
    have h3' : ¬ n ≤ 8 := by omega
    go_enter Try.func85, Try.ntmps85
    go_wp2
    go_ret
    exact F.out
  · have F : Hid (BoolPost (decide (mayR b n)) w (.returned (.bool true)) w) := Lib.hid ⟨by rw [decide_eq_true (p := mayR b n) ⟨h0, h1, h2, h3⟩], Below.refl _ _⟩
    go_enter Try.func85, Try.ntmps85
    go_wp2
    go_ret
    exact F.out


/-- How many words a ring has. -/
def sizeR (c : Int) : Int := if mayR 0 c then 3 + 6 * c else 0
theorem size_call (c : Int) (w : World) : Calls Try.prog 60 #[.int .i64 c] w (fun e w' => e = .returned (.int .i64 (sizeR c)) ∧ Below w.heap.size w w') := by
  by_cases h : mayR 0 c
  · have hS : sizeR c = 3 + 6 * c := by unfold sizeR; rw [if_pos h]
    rw [hS]
    have hd := decide_eq_true h
    obtain ⟨h1, h2, h3, h4⟩ := h
    have hw1 : IntKind.i64.wrap (6 * c) = 6 * c := by rw [IntKind.wrap_i64]; omega
    have hw2 : IntKind.i64.wrap (3 + 6 * c) = 3 + 6 * c := by rw [IntKind.wrap_i64]; omega
    clear hS
    go_enter Try.func60, Try.ntmps60
    go_wp2_with fail
    refine (mayR_call 0 c w).mono ?_
    rintro e w1 ⟨rfl, hb1⟩
    have HB1 := Lib.hid hb1
    rw [hd]
    clear hb1 hd
    go_wp2
    go_ret
    exact ⟨rfl, HB1.out⟩
  · have hS : sizeR c = 0 := by unfold sizeR; rw [if_neg h]
    rw [hS]
    have hd := decide_eq_false h
    clear h hS
    go_enter Try.func60, Try.ntmps60
    go_wp2_with fail
    refine (mayR_call 0 c w).mono ?_
    rintro e w1 ⟨rfl, hb1⟩
    have HB1 := Lib.hid hb1
    rw [hd]
    clear hb1 hd
    go_wp2
    go_ret
    exact ⟨rfl, HB1.out⟩
theorem refSize_call (c : Int) (w : World) : Calls Try.prog 61 #[.int .i64 c] w (fun e w' => e = .returned (.int .i64 (sizeR c)) ∧ Below w.heap.size w w') := by
  by_cases h : mayR 0 c
  · have hS : sizeR c = 3 + 6 * c := by unfold sizeR; rw [if_pos h]
    rw [hS]
    have hd := decide_eq_true h
    obtain ⟨h1, h2, h3, h4⟩ := h
    have hw1 : IntKind.i64.wrap (6 * c) = 6 * c := by rw [IntKind.wrap_i64]; omega
    have hw2 : IntKind.i64.wrap (3 + 6 * c) = 3 + 6 * c := by rw [IntKind.wrap_i64]; omega
    clear hS
    go_enter Try.func61, Try.ntmps61
    go_wp2_with fail
    refine (refMayR_call 0 c w).mono ?_
    rintro e w1 ⟨rfl, hb1⟩
    have HB1 := Lib.hid hb1
    rw [hd]
    clear hb1 hd
    go_wp2
    go_ret
    exact ⟨rfl, HB1.out⟩
  · have hS : sizeR c = 0 := by unfold sizeR; rw [if_neg h]
    rw [hS]
    have hd := decide_eq_false h
    clear h hS
    go_enter Try.func61, Try.ntmps61
    go_wp2_with fail
    refine (refMayR_call 0 c w).mono ?_
    rintro e w1 ⟨rfl, hb1⟩
    have HB1 := Lib.hid hb1
    rw [hd]
    clear hb1 hd
    go_wp2
    go_ret
    exact ⟨rfl, HB1.out⟩
end Go.Proofs.Ytpkelneimjmmkaa

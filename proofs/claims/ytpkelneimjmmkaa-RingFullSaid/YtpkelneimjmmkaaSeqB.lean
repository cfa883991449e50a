/- The contracts of seq.may, of the reference's, and of seq.onward. -/
import Derived.Test.YtpkelneimjmmkaaSeqA
import Derived.Test.YtpkelneimjmmkaaPureM
namespace Go.Proofs.Ytpkelneimjmmkaa
open Go.RowKit

def mayB (b n : Int) : Prop := 0 ≤ b ∧ b ≤ 255 ∧ 1 ≤ n ∧ n ≤ 28
instance (b n : Int) : Decidable (mayB b n) := by unfold mayB; exact inferInstance
theorem may_cases (b n : Int) : b < 0 ∨ (0 ≤ b ∧ 255 < b) ∨ (0 ≤ b ∧ b ≤ 255 ∧ n < 1) ∨ (0 ≤ b ∧ b ≤ 255 ∧ 1 ≤ n ∧ 28 < n) ∨ (0 ≤ b ∧ b ≤ 255 ∧ 1 ≤ n ∧ n ≤ 28) := by omega
theorem may_call (b n : Int) (w : World) : Calls Try.prog 81 #[.int .i64 b, .int .i64 n] w (BoolPost (decide (mayB b n)) w) := by
  rcases may_cases b n with h0 | ⟨h0, h1⟩ | ⟨h0, h1, h2⟩ | ⟨h0, h1, h2, h3⟩ | ⟨h0, h1, h2, h3⟩
  · have F : Hid (BoolPost (decide (mayB b n)) w (.returned (.bool false)) w) := Lib.hid ⟨by rw [decide_eq_false (fun h => by unfold mayB at h; omega)], Below.refl _ _⟩
    go_enter Try.func81, Try.ntmps81
    go_wp2
    go_ret
    exact F.out
  · have F : Hid (BoolPost (decide (mayB b n)) w (.returned (.bool false)) w) := Lib.hid ⟨by rw [decide_eq_false (fun h => by unfold mayB at h; omega)], Below.refl _ _⟩
    have h1' : ¬ b ≤ 255 := by omega
    go_enter Try.func81, Try.ntmps81
    go_wp2
    go_ret
    exact F.out
  · have F : Hid (BoolPost (decide (mayB b n)) w (.returned (.bool false)) w) := Lib.hid ⟨by rw [decide_eq_false (fun h => by unfold mayB at h; omega)], Below.refl _ _⟩
    have h2' : ¬ 0 < n := by omega
    go_enter Try.func81, Try.ntmps81
    go_wp2
    go_ret
    exact F.out
  · have F : Hid (BoolPost (decide (mayB b n)) w (.returned (.bool false)) w) := Lib.hid ⟨by rw [decide_eq_false (fun h => by unfold mayB at h; omega)], Below.refl _ _⟩
    have h2' : 0 < n := by omega
    have h3' : ¬ n ≤ 28 := by omega
    go_enter Try.func81, Try.ntmps81
    go_wp2
    go_ret
    exact F.out
  · have F : Hid (BoolPost (decide (mayB b n)) w (.returned (.bool true)) w) := Lib.hid ⟨by rw [decide_eq_true (p := mayB b n) ⟨h0, h1, h2, h3⟩], Below.refl _ _⟩
    have h2' : 0 < n := by omega
    go_enter Try.func81, Try.ntmps81
    go_wp2
    go_ret
    exact F.out
theorem refMay_call (b n : Int) (w : World) : Calls Try.prog 83 #[.int .i64 b, .int .i64 n] w (BoolPost (decide (mayB b n)) w) := by
  rcases may_cases b n with h0 | ⟨h0, h1⟩ | ⟨h0, h1, h2⟩ | ⟨h0, h1, h2, h3⟩ | ⟨h0, h1, h2, h3⟩
  · have F : Hid (BoolPost (decide (mayB b n)) w (.returned (.bool false)) w) := Lib.hid ⟨by rw [decide_eq_false (fun h => by unfold mayB at h; omega)], Below.refl _ _⟩
    go_enter Try.func83, Try.ntmps83
    go_wp2
    go_ret
    exact F.out
  · have F : Hid (BoolPost (decide (mayB b n)) w (.returned (.bool false)) w) := Lib.hid ⟨by rw [decide_eq_false (fun h => by unfold mayB at h; omega)], Below.refl _ _⟩
    have h1' : ¬ b ≤ 255 := by omega
    go_enter Try.func83, Try.ntmps83
    go_wp2
    go_ret
    exact F.out
  · have F : Hid (BoolPost (decide (mayB b n)) w (.returned (.bool false)) w) := Lib.hid ⟨by rw [decide_eq_false (fun h => by unfold mayB at h; omega)], Below.refl _ _⟩
    have h2' : ¬ 1 ≤ n := by omega
    go_enter Try.func83, Try.ntmps83
    go_wp2
    go_ret
    exact F.out
  · have F : Hid (BoolPost (decide (mayB b n)) w (.returned (.bool false)) w) := Lib.hid ⟨by rw [decide_eq_false (fun h => by unfold mayB at h; omega)], Below.refl _ _⟩
    have h3' : ¬ n ≤ 28 := by omega
    go_enter Try.func83, Try.ntmps83
    go_wp2
    go_ret
    exact F.out
  · have F : Hid (BoolPost (decide (mayB b n)) w (.returned (.bool true)) w) := Lib.hid ⟨by rw [decide_eq_true (p := mayB b n) ⟨h0, h1, h2, h3⟩], Below.refl _ _⟩
    go_enter Try.func83, Try.ntmps83
    go_wp2
    go_ret
    exact F.out

/-- The instructions of which the first k have been sent onward. -/
def onTo (l : List Insn) (k : Nat) : List Insn := tab l.length fun i => if i < k then onI i (l.getD i insn0) else l.getD i insn0
theorem onTo_len (l : List Insn) (k : Nat) : (onTo l k).length = l.length := tab_len _ _
theorem onTo_zero (l : List Insn) : onTo l 0 = l := by
  unfold onTo tab
  apply List.ext_getElem?
  intro i
  by_cases h : i < l.length
  · simp [h, List.getD_eq_getElem?_getD]
  · simp [h]
theorem onTo_all (l : List Insn) : onTo l l.length = onL l := tab_eq fun q hq => by rw [if_pos hq]
theorem onTo_succ (l : List Insn) {k : Nat} (_ : k < l.length) : onTo l (k + 1) = (onTo l k).set k (onI k (l.getD k insn0)) := by
  unfold onTo tab
  apply List.ext_getElem?
  intro i
  by_cases hi : i < l.length
  · by_cases he : k = i
    · subst he
      simp [hi]
    · rw [List.getElem?_set_ne he]
      simp only [List.getElem?_map, List.getElem?_range hi, Option.map_some]
      by_cases h1 : i < k
      · rw [if_pos h1, if_pos (by omega)]
      · rw [if_neg h1, if_neg (by omega)]
  · rw [List.getElem?_eq_none (by simp; omega), List.getElem?_eq_none (by simp; omega)]
theorem onTo_at (l : List Insn) {k : Nat} (hk : k < l.length) : (onTo l k).getD k insn0 = l.getD k insn0 := by
  unfold onTo
  rw [tab_getD _ hk, if_neg (Nat.lt_irrefl _)]
theorem onI_ok {x : Insn} (h : x.ok) {i : Nat} (hi : i ≤ 4096) : (onI i x).ok := by
  unfold onI
  split
  · exact ⟨h.1, h.2.1, h.2.2.1, ⟨by simp only; omega, by simp only; omega⟩, h.2.2.2.2⟩
  · exact h
/-- An instruction's field To is written. -/
theorem ins_set_cells (l : List Insn) {k : Nat} (hk : k < l.length) (x : Int) :
    (l.set k { l.getD k insn0 with to := x }).flatMap Insn.cells = (l.flatMap Insn.cells).set (k * 5 + 3) (.int .i64 x) := by
  induction l generalizing k with
  | nil => simp at hk
  | cons y l ih =>
    cases k with
    | zero => simp [Insn.cells]
    | succ k =>
      have := ih (k := k) (by simpa using hk)
      simp only [List.set_cons_succ, List.flatMap_cons, List.getD_cons_succ]
      rw [this, List.set_append_right _ _ (by simp [Insn.cells]; omega)]
      congr 2
      simp [Insn.cells]; omega
theorem OwnI.setTo {w : World} {B g n cap : Nat} {l : List Insn} (h : OwnI w B (.slice (some ⟨g, 0, none⟩) n cap) l) (hn : n = l.length) {k : Nat} (hk : k < l.length) {x : Int} (hx : I64 x) :
    OwnI (w.setCell ⟨g, k * 5 + 3, none⟩ (.int .i64 x)) B (.slice (some ⟨g, 0, none⟩) n cap) (l.set k { l.getD k insn0 with to := x }) := by
  subst hn
  refine ⟨?_, fun y hy => ?_⟩
  · rw [List.length_set, ins_set_cells l hk]
    exact (h.1.stored (k * 5 + 3) _).1
  · rcases List.mem_or_eq_of_mem_set hy with hy | hy
    · exact h.2 y hy
    · rw [hy]
      have := insn_ok h.2 k hk
      exact ⟨this.1, this.2.1, this.2.2.1, hx, this.2.2.2.2⟩
theorem OwnI.frozen {w : World} {B g n cap : Nat} {l : List Insn} (h : OwnI w B (.slice (some ⟨g, 0, none⟩) n cap) l) (j : Nat) : w.frozen? ⟨g, j, none⟩ = false := by
  obtain ⟨⟨_, h2⟩, _⟩ := h
  rcases h2 with ⟨h2, _⟩ | ⟨g', cap', cur, e, hg, hh, _⟩
  · cases h2
  · injection e with e1 e2 e3
    injection e1 with e1
    injection e1 with e1
    subst e1
    simp [World.frozen?, hh]
theorem OwnI.head {w : World} {B n c : Nat} {A : Option Addr} {l : List Insn} (h : OwnI w B (.slice A n c) l) {b o : Nat} (hA : A = some ⟨b, o, none⟩) : o = 0 ∧ B ≤ b ∧ b < w.heap.size := by
  obtain ⟨⟨_, h2⟩, _⟩ := h
  rcases h2 with ⟨h2, _⟩ | ⟨g', cap', cur, e, hg, hh, _⟩
  · rw [hA] at h2; cases h2
  · rw [hA] at e
    injection e with e1 e2 e3
    injection e1 with e1
    injection e1 with e1 e4
    subst e1 e4
    exact ⟨rfl, hg, (Array.getElem?_eq_some_iff.1 hh).1⟩

structure OnRel (w : World) (B : Nat) (v : Value) (l : List Insn) (k : Nat) (wr : World) : Prop where
  row : OwnI wr B v (onTo l k)
  grown : w.grownBy wr v.ownBlock
set_option maxHeartbeats 1000000 in
theorem onward_call {B : Nat} {v : Value} {l : List Insn} {w : World} (h : OwnI w B v l) (hl : l.length ≤ 4096) :
    Calls Try.prog 82 #[v] w (fun e w' => e = .returned v ∧ OwnI w' B v (onL l) ∧ w.grownBy w' v.ownBlock) := by
  obtain ⟨A, c, rfl⟩ := h.form
  have HR : Hid (OnRel w B (.slice A l.length c) l 0 w) := Lib.hid ⟨by rw [onTo_zero]; exact h, World.grownBy.refl _ _⟩
  clear h
  go_enter Try.func82, Try.ntmps82
  go_wp2_with fail
  go_loopw [6] (fun i wr => ∃ k : Nat, k ≤ l.length ∧ i = .int .i64 (k : Int) ∧ Hid (OnRel w B (.slice A l.length c) l k wr)) (fun i _ => l.length - (intOf i).toNat)
  case atStart => exact ⟨0, Nat.zero_le _, rfl, HR⟩
  case round =>
    clear HR
    obtain ⟨k, hk, rfl, HR⟩ := hrel
    by_cases hlt : k < l.length
    · have hki : (k : Int) < (l.length : Int) := by omega
      have hI := HR.out.row.inss
      obtain ⟨b, o, hA, _, p0, p1, p2, p3, p4⟩ := hI.at_ (by rw [onTo_len]) (by rw [onTo_len]; exact hlt)
      subst hA
      obtain ⟨ho, hB, hbw⟩ := HR.out.row.head rfl
      subst ho
      rw [onTo_at l hlt] at p3
      rw [Nat.zero_add] at p3
      have hfz := HR.out.row.frozen (k * 5 + 3)
      have hxo := onTo_at l hlt
      have hw1 : IntKind.i64.wrap ((k : Int) + 1) = (k : Int) + 1 := by rw [IntKind.wrap_i64]; omega
      have hsucc := onTo_succ l hlt
      generalize hx : l.getD k insn0 = x at *
      by_cases h0 : x.to = 0
      · have R2 : Hid (OnRel w B (.slice (some ⟨b, 0, none⟩) l.length c) l (k + 1) (wr.setCell ⟨b, k * 5 + 3, none⟩ (.int .i64 ((k : Int) + 1)))) := Lib.hid (by
          refine ⟨?_, only_set HR.out.grown (k * 5 + 3) _⟩
          have := HR.out.row.setTo (by rw [onTo_len]) (k := k) (by rw [onTo_len]; exact hlt) (x := (k : Int) + 1) ⟨by omega, by omega⟩
          rw [hxo] at this
          rw [hsucc]
          unfold onI
          rw [if_pos h0]
          exact this)
        rw [h0] at p3
        clear hxo hsucc h0 p0 p1 p2 p4 hI hx
        go_wp2
        go_roundw
        case rel => exact ⟨k + 1, by omega, by go_num, R2⟩
        case measure => simp [intOf]; omega
      · have R2 : Hid (OnRel w B (.slice (some ⟨b, 0, none⟩) l.length c) l (k + 1) wr) := Lib.hid (by
          refine ⟨?_, HR.out.grown⟩
          rw [hsucc]
          unfold onI
          rw [if_neg h0]
          have e : (onTo l k).set k x = onTo l k := by
            apply List.ext_getElem?
            intro i
            by_cases he : k = i
            · subst he
              have hkl : k < (onTo l k).length := by rw [onTo_len]; exact hlt
              rw [List.getElem?_set_self hkl]
              rw [List.getD_eq_getElem?_getD, List.getElem?_eq_getElem hkl] at hxo
              rw [List.getElem?_eq_getElem hkl]
              exact congrArg some hxo.symm
            · rw [List.getElem?_set_ne he]
          rw [e]
          exact HR.out.row)
        clear hxo hsucc p0 p1 p2 p4 hI hx
        go_wp2
        go_roundw
        case rel => exact ⟨k + 1, by omega, by go_num, R2⟩
        case measure => simp [intOf]; omega
    · have hki : ¬ (k : Int) < (l.length : Int) := by omega
      have he : k = l.length := by omega
      have hrow := HR.out.row
      rw [he, onTo_all] at hrow
      have HRW := Lib.hid hrow
      clear hrow he
      go_wp2
      go_ret
      exact ⟨rfl, HRW.out, HR.out.grown⟩
end Go.Proofs.Ytpkelneimjmmkaa

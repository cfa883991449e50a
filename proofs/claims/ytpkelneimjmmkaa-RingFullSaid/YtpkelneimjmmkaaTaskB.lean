/- Instructions in memory; the contracts of task.Sane and of the reference's Sane. -/
import Derived.Test.YtpkelneimjmmkaaTaskA
namespace Go.Proofs.Ytpkelneimjmmkaa
open Go.RowKit

def Insn.cells (x : Insn) : List Value := [.int .i64 x.k, .int .i64 x.i, .int .i64 x.r, .int .i64 x.to, .int .u64 x.a]
def Insn.val (x : Insn) : Value := .agg #[.int .i64 x.k, .int .i64 x.i, .int .i64 x.r, .int .i64 x.to, .int .u64 x.a]
/-- A slice value that reads as these instructions. -/
def Inss (w : World) (v : Value) (l : List Insn) : Prop := Sl w v 5 l.length (l.flatMap Insn.cells) ∧ ∀ x ∈ l, x.ok
theorem Inss.below {w w' : World} {v : Value} {l : List Insn} (h : Inss w v l) (hb : Below w.heap.size w w') : Inss w' v l := ⟨h.1.below hb, h.2⟩
theorem Inss.alloc {w : World} {v : Value} {l : List Insn} (h : Inss w v l) (o : Obj) : Inss (w.alloc o) v l := ⟨h.1.alloc o, h.2⟩
theorem Inss.at_ {w : World} {A : Option Addr} {n c : Nat} {l : List Insn} {k : Nat} (h : Inss w (.slice A n c) l) (hn : n = l.length) (hk : k < l.length) :
    ∃ b off, A = some ⟨b, off, none⟩ ∧ b < w.heap.size ∧ w.cell? ⟨b, off + k * 5, none⟩ = some (.int .i64 (l.getD k insn0).k) ∧ w.cell? ⟨b, off + k * 5 + 1, none⟩ = some (.int .i64 (l.getD k insn0).i) ∧
      w.cell? ⟨b, off + k * 5 + 2, none⟩ = some (.int .i64 (l.getD k insn0).r) ∧ w.cell? ⟨b, off + k * 5 + 3, none⟩ = some (.int .i64 (l.getD k insn0).to) ∧ w.cell? ⟨b, off + k * 5 + 4, none⟩ = some (.int .u64 (l.getD k insn0).a) := by
  subst hn
  obtain ⟨b, off, rfl, hb, hc⟩ := h.1.at_ (by omega) (by omega)
  have hg := fun j hj => flat_get Insn.cells 5 l (fun _ _ => rfl) k j hk hj
  have he : l.getD k insn0 = l[k] := by rw [List.getD_eq_getElem?_getD, List.getElem?_eq_getElem hk]; rfl
  rw [he]
  refine ⟨b, off, rfl, hb, ?_, ?_, ?_, ?_, ?_⟩
  · have := hc (k * 5 + 0) _ (by rw [hg 0 (by omega)]; rfl); simpa using this
  · have := hc (k * 5 + 1) _ (by rw [hg 1 (by omega)]; rfl); rw [Nat.add_assoc]; exact this
  · have := hc (k * 5 + 2) _ (by rw [hg 2 (by omega)]; rfl); rw [Nat.add_assoc]; exact this
  · have := hc (k * 5 + 3) _ (by rw [hg 3 (by omega)]; rfl); rw [Nat.add_assoc]; exact this
  · have := hc (k * 5 + 4) _ (by rw [hg 4 (by omega)]; rfl); rw [Nat.add_assoc]; exact this
theorem insn_ok {l : List Insn} (h : ∀ x ∈ l, x.ok) (k : Nat) (hk : k < l.length) : (l.getD k insn0).ok := by
  rw [List.getD_eq_getElem?_getD, List.getElem?_eq_getElem hk]
  exact h _ (List.getElem_mem hk)

/-- The five tests of one instruction, as the walk makes them: the first that fails. -/
theorem not_sane {n i : Nat} {x : Insn} (h : ¬ saneAt n i x) :
    x.k < 0 ∨ (0 ≤ x.k ∧ 6 < x.k) ∨ (0 ≤ x.k ∧ x.k ≤ 6 ∧ x.r < 0) ∨ (0 ≤ x.k ∧ x.k ≤ 6 ∧ 0 ≤ x.r ∧ 32 ≤ x.r) ∨ (0 ≤ x.k ∧ x.k ≤ 6 ∧ 0 ≤ x.r ∧ x.r < 32 ∧ x.to ≤ (i : Int)) ∨
    (0 ≤ x.k ∧ x.k ≤ 6 ∧ 0 ≤ x.r ∧ x.r < 32 ∧ (i : Int) < x.to ∧ (n : Int) < x.to) := by
  unfold saneAt at h; omega

set_option maxHeartbeats 4000000 in
theorem sane_call {v : Value} {l : List Insn} {w : World} (h : Inss w v l) : Calls Try.prog 35 #[v] w (BoolPost (decide (Sane l)) w) := by
  obtain ⟨A, c, rfl, hc1, hc2, hA⟩ := h.1.form
  unfold maxLen at hc2
  have L := Lib.hid h
  have hlen : (l.length : Int) ≤ 9223372036854775807 := by omega
  clear h hA
  go_enter Try.func35, Try.ntmps35
  go_wp2_with fail
  go_loopw [7] (fun i wr => ∃ k : Nat, k ≤ l.length ∧ i = .int .i64 (k : Int) ∧ Below w.heap.size w wr ∧ Hid (∀ j, j < k → saneAt l.length j (l.getD j insn0))) (fun i _ => l.length - (intOf i).toNat)
  case atStart => exact ⟨0, Nat.zero_le _, rfl, Below.refl _ _, Lib.hid fun j hj => absurd hj (by omega)⟩
  case round =>
    obtain ⟨k, hk, rfl, hB, hJ⟩ := hrel
    have HB := Lib.hid hB
    have hs := hB.size
    clear hB
    by_cases hlt : k < l.length
    · obtain ⟨b, off, rfl, hbl, c0, c1, c2, c3, c4⟩ := (L.out.below HB.out).at_ rfl hlt
      have hki : (k : Int) < (l.length : Int) := by omega
      by_cases hx : saneAt l.length k (l.getD k insn0)
      · have hx' := hx
        obtain ⟨x0, x1, x2, x3, x4, x5⟩ := hx'
        generalize hxx : l.getD k insn0 = x at *
        have HX := Lib.hid hx
        have HXX := Lib.hid hxx
        clear hx hxx
        have y0 : ¬ x.k < 0 := by omega
        have y1 : ¬ 6 < x.k := by omega
        have y2 : ¬ x.r < 0 := by omega
        have y3 : ¬ 32 ≤ x.r := by omega
        have y4 : ¬ x.to ≤ (k : Int) := by omega
        have y5 : ¬ (l.length : Int) < x.to := by omega
        go_wp2
        go_roundw
        case rel => exact ⟨k + 1, by omega, by go_num, HB.out.alloc hs _, Lib.hid fun j hj => by
          by_cases e : j = k
          · subst e; rw [HXX.out]; exact HX.out
          · exact hJ.out j (by omega)⟩
        case measure => simp [intOf]; omega
      · have fin : ∀ o, BoolPost (decide (Sane l)) w (.returned (.bool false)) (wr.alloc o) := fun o => ⟨by rw [decide_eq_false (fun hS => hx (hS.1 k hlt))], HB.out.alloc hs _⟩
        have F := Lib.hid fin
        have hn := not_sane hx
        generalize l.getD k insn0 = x at *
        clear hx fin
        rcases hn with x0 | ⟨x0, x1⟩ | ⟨x0, x1, x2⟩ | ⟨x0, x1, x2, x3⟩ | ⟨x0, x1, x2, x3, x4⟩ | ⟨x0, x1, x2, x3, x4, x5⟩
        all_goals
          go_wp2
          go_ret
          exact F.out _
    · have hki : ¬ (k : Int) < (l.length : Int) := by omega
      have he : k = l.length := by omega
      have hall : ∀ j, j < l.length → saneAt l.length j (l.getD j insn0) := fun j hj => hJ.out j (by omega)
      have HE := Lib.hid hall
      clear he hall
      by_cases h0 : l.length = 0
      · have hz : ¬ (0 : Int) < (l.length : Int) := by omega
        have F : Hid (BoolPost (decide (Sane l)) w (.returned (.bool false)) wr) := Lib.hid ⟨by rw [decide_eq_false (fun hS => by have := hS.2.1; omega)], HB.out⟩
        clear h0
        go_wp2
        go_ret
        exact F.out
      by_cases h2 : l.length ≤ 200
      · have hz : (0 : Int) < (l.length : Int) := by omega
        have hz2 : (l.length : Int) ≤ 200 := by omega
        have F : Hid (BoolPost (decide (Sane l)) w (.returned (.bool true)) wr) := Lib.hid ⟨by rw [decide_eq_true (p := Sane l) (And.intro HE.out (And.intro (by omega) h2))], HB.out⟩
        go_wp2
        go_ret
        exact F.out
      · have hz : (0 : Int) < (l.length : Int) := by omega
        have hz2 : ¬ (l.length : Int) ≤ 200 := by omega
        have F : Hid (BoolPost (decide (Sane l)) w (.returned (.bool false)) wr) := Lib.hid ⟨by rw [decide_eq_false (fun hS => h2 hS.2.2)], HB.out⟩
        go_wp2
        go_ret
        exact F.out
theorem not_sane' {n i : Nat} {x : Insn} (h : x.k < 0 ∨ (0 ≤ x.k ∧ 6 < x.k) ∨ (0 ≤ x.k ∧ x.k ≤ 6 ∧ x.r < 0) ∨ (0 ≤ x.k ∧ x.k ≤ 6 ∧ 0 ≤ x.r ∧ 32 ≤ x.r) ∨ (0 ≤ x.k ∧ x.k ≤ 6 ∧ 0 ≤ x.r ∧ x.r < 32 ∧ x.to ≤ (i : Int)) ∨
    (0 ≤ x.k ∧ x.k ≤ 6 ∧ 0 ≤ x.r ∧ x.r < 32 ∧ (i : Int) < x.to ∧ (n : Int) < x.to)) :
    x.k < 0 ∨ (0 ≤ x.k ∧ 6 < x.k) ∨ (0 ≤ x.k ∧ x.k ≤ 6 ∧ x.r < 0) ∨ (0 ≤ x.k ∧ x.k ≤ 6 ∧ 0 ≤ x.r ∧ 31 < x.r) ∨ (0 ≤ x.k ∧ x.k ≤ 6 ∧ 0 ≤ x.r ∧ x.r ≤ 31 ∧ x.to ≤ (i : Int)) ∨
    (0 ≤ x.k ∧ x.k ≤ 6 ∧ 0 ≤ x.r ∧ x.r ≤ 31 ∧ (i : Int) < x.to ∧ (n : Int) < x.to) := by omega

set_option maxHeartbeats 4000000 in
theorem refSane_call {v : Value} {l : List Insn} {w : World} (h : Inss w v l) : Calls Try.prog 42 #[v] w (BoolPost (decide (Sane l)) w) := by
  obtain ⟨A, c, rfl, hc1, hc2, hA⟩ := h.1.form
  unfold maxLen at hc2
  have L := Lib.hid h
  have hlen : (l.length : Int) ≤ 9223372036854775807 := by omega
  clear h hA
  go_enter Try.func42, Try.ntmps42
  go_wp2_with fail
  go_loopw [3] (fun i wr => ∃ k : Nat, k ≤ l.length ∧ i = .int .i64 (k : Int) ∧ Below w.heap.size w wr ∧ Hid (∀ j, j < k → saneAt l.length j (l.getD j insn0))) (fun i _ => l.length - (intOf i).toNat)
  case atStart => exact ⟨0, Nat.zero_le _, rfl, Below.refl _ _, Lib.hid fun j hj => absurd hj (by omega)⟩
  case round =>
    obtain ⟨k, hk, rfl, hB, hJ⟩ := hrel
    have HB := Lib.hid hB
    have hs := hB.size
    clear hB
    by_cases hlt : k < l.length
    · obtain ⟨b, off, rfl, hbl, c0, c1, c2, c3, c4⟩ := (L.out.below HB.out).at_ rfl hlt
      have hki : (k : Int) < (l.length : Int) := by omega
      by_cases hx : saneAt l.length k (l.getD k insn0)
      · have hx' := hx
        obtain ⟨x0, x1, x2, x3, x4, x5⟩ := hx'
        generalize hxx : l.getD k insn0 = x at *
        have HX := Lib.hid hx
        have HXX := Lib.hid hxx
        clear hx hxx
        have y0 : ¬ x.k < 0 := by omega
        have y1 : ¬ 6 < x.k := by omega
        have y2 : ¬ x.r < 0 := by omega
        have y3 : ¬ 31 < x.r := by omega
        have y4 : ¬ x.to ≤ (k : Int) := by omega
        have y5 : ¬ (l.length : Int) < x.to := by omega
        go_wp2
        go_roundw
        case rel => exact ⟨k + 1, by omega, by go_num, HB.out.alloc hs _, Lib.hid fun j hj => by
          by_cases e : j = k
          · subst e; rw [HXX.out]; exact HX.out
          · exact hJ.out j (by omega)⟩
        case measure => simp [intOf]; omega
      · have fin : ∀ o, BoolPost (decide (Sane l)) w (.returned (.bool false)) (wr.alloc o) := fun o => ⟨by rw [decide_eq_false (fun hS => hx (hS.1 k hlt))], HB.out.alloc hs _⟩
        have F := Lib.hid fin
        have hn := not_sane hx
        generalize l.getD k insn0 = x at *
        clear hx fin
        rcases not_sane' hn with x0 | ⟨x0, x1⟩ | ⟨x0, x1, x2⟩ | ⟨x0, x1, x2, x3⟩ | ⟨x0, x1, x2, x3, x4⟩ | ⟨x0, x1, x2, x3, x4, x5⟩
        all_goals clear hn
        all_goals
          go_wp2
          go_ret
          exact F.out _
    · have hki : ¬ (k : Int) < (l.length : Int) := by omega
      have he : k = l.length := by omega
      have hall : ∀ j, j < l.length → saneAt l.length j (l.getD j insn0) := fun j hj => hJ.out j (by omega)
      have HE := Lib.hid hall
      clear he hall
      by_cases h0 : l.length = 0
      · have hz : ¬ (1 : Int) ≤ (l.length : Int) := by omega
        have F : Hid (BoolPost (decide (Sane l)) w (.returned (.bool false)) wr) := Lib.hid ⟨by rw [decide_eq_false (fun hS => by have := hS.2.1; omega)], HB.out⟩
        clear h0
        go_wp2
        go_ret
        exact F.out
      by_cases h2 : l.length ≤ 200
      · have hz : (1 : Int) ≤ (l.length : Int) := by omega
        have hz2 : (l.length : Int) ≤ 200 := by omega
        have F : Hid (BoolPost (decide (Sane l)) w (.returned (.bool true)) wr) := Lib.hid ⟨by rw [decide_eq_true (p := Sane l) (And.intro HE.out (And.intro (by omega) h2))], HB.out⟩
        go_wp2
        go_ret
        exact F.out
      · have hz : (1 : Int) ≤ (l.length : Int) := by omega
        have hz2 : ¬ (l.length : Int) ≤ 200 := by omega
        have F : Hid (BoolPost (decide (Sane l)) w (.returned (.bool false)) wr) := Lib.hid ⟨by rw [decide_eq_false (fun hS => h2 hS.2.2)], HB.out⟩
        go_wp2
        go_ret
        exact F.out
end Go.Proofs.Ytpkelneimjmmkaa

/- The walk of (words).do at a place that there is, kind by kind. -/
import Derived.Test.YtpkelneimjmmkaaCellB
namespace Go.Proofs.Ytpkelneimjmmkaa
open Go.RowKit

section
variable {g n cap base : Nat} {ms : List Int} {k a b : Int} {j : Nat} {w : World}

theorem own_set {r : Int} (hown : w.ownsRow base 30 1 (.slice (some ⟨g, 0, none⟩) n cap) n (u64s ms)) :
    (w.setCell ⟨g, j, none⟩ (.int .u64 r)).ownsRow base 30 1 (.slice (some ⟨g, 0, none⟩) n cap) n (u64s (ms.set j r)) := by
  rw [u64s_set]; exact (hown.stored j _).1

theorem own_drew {e : TypeId} {sz : Nat} {v : Value} {xs : List Value} (h : w.ownsRow base e sz v n xs) : w.drew.ownsRow base e sz v n xs := h
theorem own_drewN {e : TypeId} {sz : Nat} {v : Value} {xs : List Value} (h : w.ownsRow base e sz v n xs) (q : Nat) : (w.drewN q).ownsRow base e sz v n xs := h
theorem only_drewN {a w : World} {row : Option Nat} (h : a.grownBy w row) (q : Nat) : a.grownBy (w.drewN q) row := ⟨h.os, h.tape, h.output, h.size, h.block⟩

/-- What the walk is told of the row. -/
theorem do_facts (hj : j < n) (hown : w.ownsRow base 30 1 (.slice (some ⟨g, 0, none⟩) n cap) n (u64s ms)) :
    w.cell? ⟨g, j, none⟩ = some (.int .u64 (ms.getD j 0)) ∧ w.frozen? ⟨g, j, none⟩ = false ∧ (j : Int) < (n : Int) ∧ g < w.heap.size ∧ g < w.heap.size + 1 ∧ g < w.heap.size + 1 + 1 ∧
    Hid (w.ownsRow base 30 1 (.slice (some ⟨g, 0, none⟩) n cap) n (u64s ms)) ∧ Hid (w.grownBy w (some g)) := by
  have hl : ms.length = n := by have := hown.1; rw [u64s_len] at this; omega
  have hc : w.cell? ⟨g, j, none⟩ = some (.int .u64 (ms.getD j 0)) := by rw [hown.cellAt j (by omega), u64s_get (by omega)]
  have hg : g < w.heap.size := (hown.lt g rfl).2
  exact ⟨hc, hown.frozenAt j, by omega, hg, by omega, by omega, Lib.hid hown, Lib.hid (World.grownBy.refl w _)⟩

set_option maxHeartbeats 1000000 in
theorem do_load (hj : j < n) (hown : w.ownsRow base 30 1 (.slice (some ⟨g, 0, none⟩) n cap) n (u64s ms)) :
    Calls Try.prog 71 #[.slice (some ⟨g, 0, none⟩) n cap, .agg #[.int .i64 0, .int .i64 (j : Int), .int .u64 a, .int .u64 b]] w (DoPost (some ⟨g, 0, none⟩) n cap base ms (ms.getD j 0) w) := by
  obtain ⟨hc, hf, hj', hg, hg1, hg2, H, F⟩ := do_facts hj hown
  clear hown
  generalize ms.getD j 0 = r at *
  go_enter Try.func71, Try.ntmps71
  go_wp2
  go_region
  all_goals go_wp2
  all_goals (go_ret; refine ⟨rfl, ?_, ?_⟩)
  all_goals (repeat (first | exact H.out | exact F.out | apply own_drew | apply own_drewN | apply own_set | apply World.ownsRow.alloc | apply only_drew | apply only_drewN | apply only_alloc | apply only_set))

set_option maxHeartbeats 1000000 in
theorem do_store (hj : j < n) (hown : w.ownsRow base 30 1 (.slice (some ⟨g, 0, none⟩) n cap) n (u64s ms)) :
    Calls Try.prog 71 #[.slice (some ⟨g, 0, none⟩) n cap, .agg #[.int .i64 1, .int .i64 (j : Int), .int .u64 a, .int .u64 b]] w (DoPost (some ⟨g, 0, none⟩) n cap base (ms.set j a) 0 w) := by
  obtain ⟨hc, hf, hj', hg, hg1, hg2, H, F⟩ := do_facts hj hown
  clear hown
  generalize ms.getD j 0 = r at *
  go_enter Try.func71, Try.ntmps71
  go_wp2
  go_region
  all_goals go_wp2
  all_goals (go_ret; refine ⟨rfl, ?_, ?_⟩)
  all_goals (repeat (first | exact H.out | exact F.out | apply own_drew | apply own_drewN | apply own_set | apply World.ownsRow.alloc | apply only_drew | apply only_drewN | apply only_alloc | apply only_set))

set_option maxHeartbeats 1000000 in
theorem do_swap (hj : j < n) (he : ms.getD j 0 = a) (hown : w.ownsRow base 30 1 (.slice (some ⟨g, 0, none⟩) n cap) n (u64s ms)) :
    Calls Try.prog 71 #[.slice (some ⟨g, 0, none⟩) n cap, .agg #[.int .i64 2, .int .i64 (j : Int), .int .u64 a, .int .u64 b]] w (DoPost (some ⟨g, 0, none⟩) n cap base (ms.set j b) 1 w) := by
  obtain ⟨hc, hf, hj', hg, hg1, hg2, H, F⟩ := do_facts hj hown
  clear hown
  rw [he] at hc
  clear he
  have hne : (a != a) = false := by simp
  go_enter Try.func71, Try.ntmps71
  go_wp2
  go_region
  all_goals go_wp2
  all_goals go_quiet (fail)
  all_goals go_wp2
  all_goals (go_ret; refine ⟨rfl, ?_, ?_⟩)
  all_goals (repeat (first | exact H.out | exact F.out | apply own_drew | apply own_drewN | apply own_set | apply World.ownsRow.alloc | apply only_drew | apply only_drewN | apply only_alloc | apply only_set))

set_option maxHeartbeats 1000000 in
theorem do_swapNot (hj : j < n) (he : ms.getD j 0 ≠ a) (hown : w.ownsRow base 30 1 (.slice (some ⟨g, 0, none⟩) n cap) n (u64s ms)) :
    Calls Try.prog 71 #[.slice (some ⟨g, 0, none⟩) n cap, .agg #[.int .i64 2, .int .i64 (j : Int), .int .u64 a, .int .u64 b]] w (DoPost (some ⟨g, 0, none⟩) n cap base ms 0 w) := by
  obtain ⟨hc, hf, hj', hg, hg1, hg2, H, F⟩ := do_facts hj hown
  clear hown
  generalize ms.getD j 0 = r at *
  have hne : (r != a) = true := by simpa using he
  go_enter Try.func71, Try.ntmps71
  go_wp2
  go_region
  all_goals go_wp2
  all_goals go_quiet (fail)
  all_goals go_wp2
  all_goals (go_ret; refine ⟨rfl, ?_, ?_⟩)
  all_goals (repeat (first | exact H.out | exact F.out | apply own_drew | apply own_drewN | apply own_set | apply World.ownsRow.alloc | apply only_drew | apply only_drewN | apply only_alloc | apply only_set))

set_option maxHeartbeats 1000000 in
theorem do_more (hj : j < n) (ha : W64 a) (hr : W64 (ms.getD j 0)) (hown : w.ownsRow base 30 1 (.slice (some ⟨g, 0, none⟩) n cap) n (u64s ms)) :
    Calls Try.prog 71 #[.slice (some ⟨g, 0, none⟩) n cap, .agg #[.int .i64 3, .int .i64 (j : Int), .int .u64 a, .int .u64 b]] w (DoPost (some ⟨g, 0, none⟩) n cap base (ms.set j ((ms.getD j 0 + a) % 18446744073709551616)) ((ms.getD j 0 + a) % 18446744073709551616) w) := by
  obtain ⟨hc, hf, hj', hg, hg1, hg2, H, F⟩ := do_facts hj hown
  clear hown
  obtain ⟨ha0, ha1⟩ := ha
  obtain ⟨hr0, hr1⟩ := hr
  have hw : IntKind.u64.wrap (ms.getD j 0 + a) = (ms.getD j 0 + a) % 18446744073709551616 := by rw [IntKind.wrap_u64]
  generalize ms.getD j 0 = r at *
  go_enter Try.func71, Try.ntmps71
  go_wp2
  go_region
  all_goals go_wp2
  all_goals go_region
  all_goals go_wp2
  all_goals (go_ret; refine ⟨rfl, ?_, ?_⟩)
  all_goals (repeat (first | exact H.out | exact F.out | apply own_drew | apply own_drewN | apply own_set | apply World.ownsRow.alloc | apply only_drew | apply only_drewN | apply only_alloc | apply only_set))

set_option maxHeartbeats 1000000 in
theorem do_other {i : Int} {A : Option Addr} (h0 : k ≠ 0) (h1 : k ≠ 1) (h2 : k ≠ 2) (h3 : k ≠ 3) (hown : w.ownsRow base 30 1 (.slice A n cap) n (u64s ms)) :
    Calls Try.prog 71 #[.slice A n cap, .agg #[.int .i64 k, .int .i64 i, .int .u64 a, .int .u64 b]] w (DoPost A n cap base ms 0 w) := by
  have H := Lib.hid hown
  have F := Lib.hid (World.grownBy.refl w (Value.slice A n cap).ownBlock)
  clear hown
  go_enter Try.func71, Try.ntmps71
  go_wp2
  go_region
  all_goals go_wp2
  all_goals (go_ret; refine ⟨rfl, ?_, ?_⟩)
  all_goals (repeat (first | exact H.out | exact F.out | apply own_drew | apply own_drewN | apply own_set | apply World.ownsRow.alloc | apply only_drew | apply only_drewN | apply only_alloc | apply only_set))
end
end Go.Proofs.Ytpkelneimjmmkaa

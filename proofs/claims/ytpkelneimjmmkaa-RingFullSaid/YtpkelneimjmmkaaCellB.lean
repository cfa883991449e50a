/- The walk of (words).do: an access done in a row of the call's own. -/
import Derived.Test.YtpkelneimjmmkaaCellA
import Derived.Test.YtpkelneimjmmkaaPureM
namespace Go.Proofs.Ytpkelneimjmmkaa
open Go.RowKit

def u64s (ms : List Int) : List Value := ms.map (Value.int .u64)
theorem u64s_get {ms : List Int} {j : Nat} (h : j < ms.length) : (u64s ms)[j]? = some (.int .u64 (ms.getD j 0)) := by
  simp [u64s, List.getD_eq_getElem?_getD, List.getElem?_eq_getElem h]
theorem u64s_set (ms : List Int) (j : Nat) (x : Int) : u64s (ms.set j x) = (u64s ms).set j (.int .u64 x) := by simp [u64s, List.map_set]
theorem u64s_len (ms : List Int) : (u64s ms).length = ms.length := by simp [u64s]

/-- Where the walk of an access ends: what is told, and that only the row, and what is new, has turned. -/
def DoPost (A : Option Addr) (n cap base : Nat) (ms : List Int) (r : Int) (w : World) (e : Ending) (w' : World) : Prop :=
  e = .returned (.int .u64 r) ∧ w'.ownsRow base 30 1 (.slice A n cap) n (u64s ms) ∧ w.grownBy w' (Value.slice A n cap).ownBlock

theorem only_drew {a w : World} {row : Option Nat} (h : a.grownBy w row) : a.grownBy w.drew row := ⟨h.os, h.tape, h.output, h.size, h.block⟩
theorem only_alloc {a w : World} {row : Option Nat} (h : a.grownBy w row) (o : Obj) : a.grownBy (w.alloc o) row :=
  ⟨h.os, h.tape, h.output, Nat.le_trans h.size (by simp), fun i hi hne => (Below.heap_alloc w o i (Nat.lt_of_lt_of_le hi h.size)).trans (h.block i hi hne)⟩
theorem only_set {a w : World} {g : Nat} (h : a.grownBy w (some g)) (off : Nat) (u : Value) : a.grownBy (w.setCell ⟨g, off, none⟩ u) (some g) :=
  ⟨h.os, h.tape, h.output, by simpa [World.setCell] using h.size, fun i hi hne => (Below.heap_setCell w ⟨g, off, none⟩ u i (by rintro rfl; exact hne rfl)).trans (h.block i hi hne)⟩
theorem only_set_new {a w : World} {row : Option Nat} (h : a.grownBy w row) {p : Addr} (hp : a.heap.size ≤ p.block) (u : Value) : a.grownBy (w.setCell p u) row :=
  ⟨h.os, h.tape, h.output, by simpa [World.setCell] using h.size, fun i hi hne => (Below.heap_setCell w p u i (by omega)).trans (h.block i hi hne)⟩

section
variable {A : Option Addr} {n cap base : Nat} {ms : List Int} {k i a b : Int} {w : World}

set_option maxHeartbeats 1000000 in
/-- No such place. -/
theorem do_out (hout : i < 0 ∨ (n : Int) ≤ i) (hown : w.ownsRow base 30 1 (.slice A n cap) n (u64s ms)) :
    Calls Try.prog 71 #[.slice A n cap, .agg #[.int .i64 k, .int .i64 i, .int .u64 a, .int .u64 b]] w (DoPost A n cap base ms 0 w) := by
  have H := Lib.hid hown
  clear hown
  have fin : ∀ o1 o2 o3, DoPost A n cap base ms 0 w (.returned (.int .u64 0)) (((w.alloc o1).alloc o2).alloc o3).drew := fun o1 o2 o3 =>
    ⟨rfl, ((H.out.alloc _).alloc _).alloc _, only_drew (only_alloc (only_alloc (only_alloc (World.grownBy.refl w _) _) _) _)⟩
  have F := Lib.hid fin
  clear fin
  rcases hout with hout | hout
  all_goals
    by_cases h0 : k = 0
    · subst h0
      go_enter Try.func71, Try.ntmps71
      go_wp2
      go_region
      all_goals go_wp2
      all_goals (go_ret; exact F.out _ _ _)
    by_cases h1 : k = 1
    · subst h1
      go_enter Try.func71, Try.ntmps71
      go_wp2
      go_region
      all_goals go_wp2
      all_goals (go_ret; exact F.out _ _ _)
    by_cases h2 : k = 2
    · subst h2
      go_enter Try.func71, Try.ntmps71
      go_wp2
      go_region
      all_goals go_wp2
      all_goals (go_ret; exact F.out _ _ _)
    by_cases h3 : k = 3
    · subst h3
      go_enter Try.func71, Try.ntmps71
      go_wp2
      go_region
      all_goals go_wp2
      all_goals (go_ret; exact F.out _ _ _)
    go_enter Try.func71, Try.ntmps71
    go_wp2
    go_region
    all_goals go_wp2
    all_goals (go_ret; exact F.out _ _ _)
end
end Go.Proofs.Ytpkelneimjmmkaa

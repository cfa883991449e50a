/- The document's example of layer 12: its code. -/
import Derived.Test.YtpkelneimjmmkaaTaskJ
namespace Go.Proofs.Ytpkelneimjmmkaa
open Go.RowKit

theorem inss_at {w : World} {g : Nat} (hg : g = w.heap.size) (l : List Insn) (h : ∀ x ∈ l, x.ok) (hl : l.length ≤ 65536) (e : TypeId) :
    Inss (w.alloc (.cells (l.flatMap Insn.cells).toArray e)) (.slice (some ⟨g, 0, none⟩) l.length l.length) l := by
  subst hg
  have hlen : (l.flatMap Insn.cells).length = l.length * 5 := by
    clear h hl
    induction l with
    | nil => rfl
    | cons x l ih => rw [List.flatMap_cons, List.length_append, ih]; simp [Insn.cells]; omega
  exact ⟨by have := Sl.of_own (own_new w e 5 (l.flatMap Insn.cells).toArray l.length (by simpa using hlen) (by simp only [maxLen]; omega)); simpa using this, h⟩

def exCode : List Insn := [⟨0, 0, 1, 1, 0⟩, ⟨3, 0, 1, 4, 0⟩, ⟨2, 0, 0, 3, 1⟩, ⟨6, 0, 0, 4, 5⟩]
theorem exCode_ok : ∀ x ∈ exCode, x.ok := by
  intro x hx
  simp [exCode] at hx
  rcases hx with rfl | rfl | rfl | rfl <;> simp [Insn.ok, I64, W64]

def CodePost (w : World) (e : Ending) (w' : World) : Prop := ∃ v, e = .returned v ∧ Inss w' v exCode ∧ Below w.heap.size w w'
theorem code_call (w : World) : Calls Try.prog 74 #[] w (CodePost w) := by
  have F : Hid (CodePost w (.returned (.slice (some ⟨w.heap.size, 0, none⟩) 4 4)) (w.alloc (.cells (exCode.flatMap Insn.cells).toArray 55))) :=
    Lib.hid ⟨_, rfl, inss_at rfl exCode exCode_ok (by simp [exCode]) _, (Below.refl _ w).alloc (Nat.le_refl _) _⟩
  go_enter Try.func74, Try.ntmps74
  go_wp2
  go_ret
  exact F.out
end Go.Proofs.Ytpkelneimjmmkaa

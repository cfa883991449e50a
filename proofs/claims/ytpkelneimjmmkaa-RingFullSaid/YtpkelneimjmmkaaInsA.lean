/- Slices of instructions of the call's own: what an append leaves. -/
import Derived.Test.YtpkelneimjmmkaaTaskM
namespace Go.Proofs.Ytpkelneimjmmkaa
open Go.RowKit

theorem IsTask.reg {w : World} {cs : Array Value} {T : FT} (h : IsTask w (.agg cs) T) {i : Nat} (hi : i < 32) : cs[2 + i]? = some (.int .u64 (T.t.regs.getD i 0)) := by
  obtain ⟨cv, e, _, ht, _⟩ := h
  injection e with e
  subst e
  exact tcells_reg ht.1 hi
theorem info_ins : (Try.prog.info? 55).map (fun i => (i.zero, i.size, i.bytes)) = some (some (.agg #[.int .i64 0, .int .i64 0, .int .i64 0, .int .i64 0, .int .u64 0]), 5, 40) := by kernel_rfl
theorem ins_flat_len (l : List Insn) : (l.flatMap Insn.cells).length = l.length * 5 := by
  induction l with
  | nil => rfl
  | cons x l ih => rw [List.flatMap_cons, List.length_append, ih]; simp [Insn.cells]; omega
/-- A slice of instructions of the call's own. -/
def OwnI (w : World) (base : Nat) (v : Value) (l : List Insn) : Prop := w.ownsRow base 55 5 v l.length (l.flatMap Insn.cells) ∧ ∀ x ∈ l, x.ok
theorem OwnI.inss {w : World} {base : Nat} {v : Value} {l : List Insn} (h : OwnI w base v l) : Inss w v l := ⟨Sl.of_own h.1, h.2⟩
theorem OwnI.nil (w : World) (base : Nat) : OwnI w base (.slice none 0 0) [] := ⟨by simpa using World.ownsRow_nil _ _ _ _, by simp⟩
theorem OwnI.form {w : World} {base : Nat} {v : Value} {l : List Insn} (h : OwnI w base v l) : ∃ A c, v = .slice A l.length c := by
  obtain ⟨A, c, e, _⟩ := h.inss.1.form
  exact ⟨A, c, e⟩
def InsRel (w : World) (l : List Insn) (v : Value) (wr : World) : Prop := OwnI wr w.heap.size v l ∧ Below w.heap.size w wr
/-- Behind an append of some instructions that were laid in a block just made. -/
theorem ins_more {w wr w3 : World} {v v' : Value} {l xs : List Insn} {o : Obj} (h : InsRel w l v wr) (hx : ∀ x ∈ xs, x.ok)
    (ho : w3.ownsRow w.heap.size 55 5 v' (l.length + xs.length) (l.flatMap Insn.cells ++ xs.flatMap Insn.cells)) (hg : (wr.alloc o).grownBy w3 v.ownBlock) : InsRel w (l ++ xs) v' w3 := by
  obtain ⟨h1, h2⟩ := h
  refine ⟨⟨?_, fun x hx' => ?_⟩, (h2.alloc h2.size _).grown hg (by have := h2.size; simp; omega) (fun j hj => (h1.1.lt j hj).1)⟩
  · rw [List.length_append, List.flatMap_append]; exact ho
  · rcases List.mem_append.1 hx' with h | h
    · exact h1.2 x h
    · exact hx x h
end Go.Proofs.Ytpkelneimjmmkaa

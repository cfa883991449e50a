/- Small facts on instructions and tasks that layer 14's texts share. -/
import Derived.Test.YtpkelneimjmmkaaSeqA
import Derived.Test.YtpkelneimjmmkaaPureM
import Derived.Test.YtpkelneimjmmkaaTaskN
namespace Go.Proofs.Ytpkelneimjmmkaa
open Go.RowKit

theorem one_ok {x : Insn} (hx : x.ok) : ∀ z ∈ [x], z.ok := fun z hz => by
  simp at hz; rw [hz]; exact hx
theorem two_ok {x y : Insn} (hx : x.ok) (hy : y.ok) : ∀ z ∈ [x, y], z.ok := fun z hz => by
  simp at hz
  rcases hz with h | h
  · rw [h]; exact hx
  · rw [h]; exact hy
/-- A program made by the call. -/
def InsPost (l : List Insn) (w : World) (e : Ending) (w' : World) : Prop := ∃ v, e = .returned v ∧ Inss w' v l ∧ Below w.heap.size w w'
/-- The same, and that it is the call's own. -/
def InsOwn (l : List Insn) (w : World) (e : Ending) (w' : World) : Prop := ∃ v, e = .returned v ∧ OwnI w' w.heap.size v l ∧ Below w.heap.size w w'
theorem InsOwn.post {l : List Insn} {w w' : World} {e : Ending} (h : InsOwn l w e w') : InsPost l w e w' := by
  obtain ⟨v, h1, h2, h3⟩ := h
  exact ⟨v, h1, h2.inss, h3⟩
theorem OwnI.base {w : World} {B B' : Nat} {v : Value} {l : List Insn} (h : OwnI w B v l) (hb : B' ≤ B) : OwnI w B' v l := by
  obtain ⟨⟨h1, h2⟩, h3⟩ := h
  refine ⟨⟨h1, ?_⟩, h3⟩
  rcases h2 with h2 | ⟨g', cap, cur, e, hg', r⟩
  · exact .inl h2
  · exact .inr ⟨g', cap, cur, e, by omega, r⟩
theorem regs_cut {l : List Int} (h32 : l.length = 32) {N : Nat} (hN : N ≤ 28) : ((l.drop 1).take N).length = N ∧ ∀ j, j < N → ((l.drop 1).take N).getD j 0 = l.getD (1 + j) 0 := by
  refine ⟨by rw [List.length_take, List.length_drop, h32]; omega, fun j hj => ?_⟩
  simp [List.getD_eq_getElem?_getD, hj, Nat.add_comm]
theorem IsTask.list {w : World} {v : Value} {T : FT} (h : IsTask w v T) : ∃ cl : List Value, v = .agg cl.toArray ∧ cl.length = 36 ∧ cl.toArray.all (·.oneCell') = true ∧ cl[34]? = some (.bool T.t.done) ∧ cl[35]? = some (.int .i64 T.t.ans) ∧ cl[1]? = some (.int .i64 T.t.pc) := by
  obtain ⟨C, rfl, h1, h2, h3, h4⟩ := h.parts
  have h5 := h.pc
  obtain ⟨cl, rfl⟩ : ∃ cl : List Value, C = cl.toArray := ⟨C.toList, by simp⟩
  exact ⟨cl, rfl, by simpa using h1, h2, by simpa using h3, by simpa using h4, by simpa using h5⟩
theorem newRow {w : World} {t : TypeId} {Z : Array Value} {cl : List Value} (hz : Z.size = cl.length) :
    Below w.heap.size w ((w.alloc (.cells Z t)).setCells w.heap.size 0 cl) ∧ Box ((w.alloc (.cells Z t)).setCells w.heap.size 0 cl) w.heap.size t cl.toArray ∧ (w.alloc (.cells Z t)).there w.heap.size 0 cl.length :=
  ⟨Below.setCells ((Below.refl _ w).alloc (Nat.le_refl _) _) (by simp) (Nat.le_refl _) _ _, (Box.new w _ _).setCells_all hz.symm, (Box.new w _ _).thereAll hz⟩
end Go.Proofs.Ytpkelneimjmmkaa

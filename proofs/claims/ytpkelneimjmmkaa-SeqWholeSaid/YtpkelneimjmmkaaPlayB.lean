/- What 'build' and 'buildSlice' of structs lay, said of an operation. -/
import Derived.Test.YtpkelneimjmmkaaPlayA
namespace Go.Proofs.Ytpkelneimjmmkaa
open Go.RowKit

theorem run_buildSlice {P : Program} {t e : TypeId} {len size : Nat} {zv : Value} {X : Array Value} {parts : Array (Nat × Value)} {w : World} (ht : P.underlying t = some (.slice e)) (hs : (sizeOf e).run P w = .ok size w) (hz : (zeroValue e).run P w = .ok zv w)
    (h0 : len * size ≠ 0) (h1 : len * size ≤ 2 ^ 24) (h : Instr.fill (fun i => some (i * size, size)) ((Array.range (len * size)).map (zv.cells[· % zv.cells.size]!)) parts.toList = some X) :
    (Instr.buildSlice t len parts).run P w = .ok (.slice (some ⟨w.heap.size, 0, none⟩) len len) (w.alloc (.cells X e)) := by
  unfold Instr.buildSlice
  simp only [Sem.run_bind, run_underlying ht, Result.andThen_ok, hs]
  rw [if_neg (by omega), if_neg h0]
  simp only [Sem.run_bind, hz, Sem.run_pure, Result.andThen_ok]
  rw [h]
  rfl
theorem wp_build_run {P : Program} {o : Oper} {a : Act} {w w' : World} {K : Act → World → Prop} {Q : Exit → Act → World → Prop} (t : TypeId) (parts : Array (Nat × Operand)) (ho : o.op = .build t parts) (v : Value)
    (hr : (Instr.build t (parts.map fun (i, x) => (i, a.eval x))).run P w = .ok v w') (h : K (a.put o.dst v) w') : o.wp P a w K Q := by
  unfold Oper.wp execOp
  simp only [ho, Sem.run_bind, hr, Result.andThen_ok, Sem.run_pure]
  exact h
theorem wp_buildSlice_run {P : Program} {o : Oper} {a : Act} {w w' : World} {K : Act → World → Prop} {Q : Exit → Act → World → Prop} (t : TypeId) (len : Nat) (parts : Array (Nat × Operand)) (ho : o.op = .buildSlice t len parts) (v : Value)
    (hr : (Instr.buildSlice t len (parts.map fun (i, x) => (i, a.eval x))).run P w = .ok v w') (h : K (a.put o.dst v) w') : o.wp P a w K Q := by
  unfold Oper.wp execOp
  simp only [ho, Sem.run_bind, hr, Result.andThen_ok, Sem.run_pure]
  exact h
end Go.Proofs.Ytpkelneimjmmkaa

/- How slices of tasks and of ints that came in are opened. -/
import Derived.Test.YtpkelneimjmmkaaOpenU
import Derived.Test.YtpkelneimjmmkaaTaskO
namespace Go.Proofs.Ytpkelneimjmmkaa
open Go.RowKit Go.ChangeShapes Go.WideShapes Go.Deep
section
variable {H : Type} {enc : TypeId × Value → H} {w : World} {base : Nat} {held : Bool}

/-- A slice of ints that came in. -/
theorem open_intsl {fuel : Nat} {v : Value} {x : DataW H × List MemPlace} (h : DataW.trod enc Try.prog w base (fun _ => true) held fuel 58 [v] = some x) : ∃ l, Ints w v l := by
  obtain ⟨l, h1, h2⟩ := open_ints_ h
  exact ⟨l, h1, h2⟩
/-- A slice of tasks that came in. -/
theorem open_tasks {fuel : Nat} {v : Value} {x : DataW H × List MemPlace} (h : DataW.trod enc Try.prog w base (fun _ => true) held fuel 57 [v] = some x) : ∃ l, Tasks w v l := by
  obtain ⟨l, h1, h2⟩ := open_sl (α := { p : TV // p.1.length = 36 }) (fun p => p.1.1) (fun p => IsTask w (.agg p.1.1.toArray) p.1.2) 36 Try.underlying57 (by kernel_rfl) (by omega) (fun p => p.2)
    (fun n cs y hy => by
      obtain ⟨T, hT⟩ := open_task_cells hy
      have hs := hT.size.1
      exact ⟨⟨(cs, T), by simpa using hs⟩, rfl, hT⟩) h
  refine ⟨l.map (·.1), ?_, fun p hp => ?_⟩
  · unfold SlT
    rw [List.length_map, List.flatMap_map]
    exact h1
  · obtain ⟨q, hq, rfl⟩ := List.mem_map.1 hp
    exact h2 q hq
end
end Go.Proofs.Ytpkelneimjmmkaa

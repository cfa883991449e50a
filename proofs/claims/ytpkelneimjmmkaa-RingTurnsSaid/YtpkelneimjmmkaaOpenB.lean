/- How a slice of bools that came in is opened. -/
import Derived.Test.YtpkelneimjmmkaaOpenT
namespace Go.Proofs.Ytpkelneimjmmkaa
open Go.RowKit Go.ChangeShapes Go.WideShapes Go.Deep

/-- A slice of bools that reads. -/
def Bools (w : World) (v : Value) (l : List Bool) : Prop := Sl w v 1 l.length (l.map Value.bool)
theorem Bools.below {w w' : World} {v : Value} {l : List Bool} (h : Bools w v l) (hb : Below w.heap.size w w') : Bools w' v l := Sl.below h hb
theorem Bools.at_ {w : World} {A : Option Addr} {n c : Nat} {l : List Bool} {k : Nat} (h : Bools w (.slice A n c) l) (hn : n = l.length) (hk : k < l.length) :
    ∃ b off, A = some ⟨b, off, none⟩ ∧ b < w.heap.size ∧ w.cell? ⟨b, off + k, none⟩ = some (.bool (l.getD k false)) := by
  subst hn
  obtain ⟨b, off, rfl, hb, hc⟩ := Sl.at_ h (by omega) (by omega)
  exact ⟨b, off, rfl, hb, hc k _ (by simp [List.getD_eq_getElem?_getD, hk])⟩
section
variable {H : Type} {enc : TypeId × Value → H} {w : World} {base : Nat} {held : Bool}
theorem open_bools {fuel : Nat} {v : Value} {x : DataW H × List MemPlace} (h : DataW.trod enc Try.prog w base (fun _ => true) held fuel 84 [v] = some x) : ∃ l, Bools w v l := by
  obtain ⟨l, h1, _⟩ := open_sl (fun x : Bool => [.bool x]) (fun _ => True) 1 Try.underlying84 (by kernel_rfl) (by omega) (fun _ => rfl)
    (fun n cs y hy => by obtain ⟨n, rfl, _⟩ := DataW.trod_bool Try.underlying4 hy; exact ⟨n, rfl, trivial⟩) h
  have e : l.flatMap (fun x : Bool => [Value.bool x]) = l.map Value.bool := flat_one _ _
  rw [e] at h1
  exact ⟨l, h1⟩
end
end Go.Proofs.Ytpkelneimjmmkaa

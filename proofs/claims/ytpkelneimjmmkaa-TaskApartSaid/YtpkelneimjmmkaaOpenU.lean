/- How more arguments that came in are opened: slices of slices of words, slices of tasks. -/
import Derived.Test.YtpkelneimjmmkaaOpenT
import Derived.Test.YtpkelneimjmmkaaTaskM
namespace Go.Proofs.Ytpkelneimjmmkaa
open Go.RowKit Go.ChangeShapes Go.WideShapes Go.Deep
section
variable {H : Type} {enc : TypeId × Value → H} {w : World} {base : Nat} {held : Bool}

/-- A slice of slices of words that came in. -/
theorem open_wordss {fuel : Nat} {v : Value} {x : DataW H × List MemPlace} (h : DataW.trod enc Try.prog w base (fun _ => true) held fuel 48 [v] = some x) : ∃ l, Wordss w v l := by
  obtain ⟨l, h1, h2⟩ := open_sl (fun a : Value × List Int => [a.1]) (fun a => Words w a.1 a.2) 1 Try.underlying48 (by kernel_rfl) (by omega) (fun _ => rfl) (fun n cs y hy => by
    rcases open_slice Try.underlying22 hy with ⟨h0, _⟩ | ⟨a, len, cap, m, n, D, Pl, hcs, _⟩
    · subst h0
      obtain ⟨ms, hm⟩ := open_words hy
      exact ⟨(_, ms), rfl, hm⟩
    · subst hcs
      obtain ⟨ms, hm⟩ := open_words hy
      exact ⟨(_, ms), rfl, hm⟩) h
  exact ⟨l, h1, h2⟩
end
end Go.Proofs.Ytpkelneimjmmkaa

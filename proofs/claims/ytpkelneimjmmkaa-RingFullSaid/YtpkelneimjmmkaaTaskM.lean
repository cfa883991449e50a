/- Lists of slices of words; a task's cell 1. -/
import Derived.Test.YtpkelneimjmmkaaTaskOneW
namespace Go.Proofs.Ytpkelneimjmmkaa
open Go.RowKit

theorem IsTask.pc {w : World} {cs : Array Value} {T : FT} (h : IsTask w (.agg cs) T) : cs[1]? = some (.int .i64 T.t.pc) := by
  obtain ⟨cv, e, _, _, _⟩ := h
  injection e with e
  subst e
  exact tcells_1
/-- A slice of slices of words: each element's value, and what it reads as. -/
def Wordss (w : World) (v : Value) (l : List (Value × List Int)) : Prop := Sl w v 1 l.length (l.flatMap fun a => [a.1]) ∧ ∀ a ∈ l, Words w a.1 a.2
theorem Wordss.below {w w' : World} {v : Value} {l : List (Value × List Int)} (h : Wordss w v l) (hb : Below w.heap.size w w') : Wordss w' v l := ⟨h.1.below hb, fun a ha => (h.2 a ha).below hb⟩
theorem Wordss.at_ {w : World} {A : Option Addr} {n c : Nat} {l : List (Value × List Int)} {k : Nat} (h : Wordss w (.slice A n c) l) (hn : n = l.length) (hk : k < l.length) :
    ∃ b off, A = some ⟨b, off, none⟩ ∧ b < w.heap.size ∧ w.cell? ⟨b, off + k, none⟩ = some l[k].1 ∧ Words w l[k].1 l[k].2 := by
  subst hn
  obtain ⟨b, off, rfl, hb, hc⟩ := h.1.at_ (by omega) (by omega)
  have hg := flat_get (fun a : Value × List Int => [a.1]) 1 l (fun _ _ => rfl) k 0 hk (by omega)
  refine ⟨b, off, rfl, hb, ?_, h.2 _ (List.getElem_mem hk)⟩
  have := hc (k * 1 + 0) _ (by rw [hg]; rfl)
  simpa using this
theorem Words.nil (w : World) : Words w (.slice none 0 0) [] := ⟨Sl.nil w 1, fun x hx => by simp at hx⟩
end Go.Proofs.Ytpkelneimjmmkaa

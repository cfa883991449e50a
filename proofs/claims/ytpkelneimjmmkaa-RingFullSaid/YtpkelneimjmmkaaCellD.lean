/- The contracts of package cell as a whole: an access, Do, Run, New. -/
import Derived.Test.YtpkelneimjmmkaaCellC
namespace Go.Proofs.Ytpkelneimjmmkaa
open Go.RowKit

/-- A slice value that reads as these words. -/
def Words (w : World) (v : Value) (ms : List Int) : Prop := Sl w v 1 ms.length (u64s ms) ∧ ∀ x ∈ ms, W64 x
theorem Words.below {w w' : World} {v : Value} {ms : List Int} (h : Words w v ms) (hb : Below w.heap.size w w') : Words w' v ms := ⟨h.1.below hb, h.2⟩
theorem Words.alloc {w : World} {v : Value} {ms : List Int} (h : Words w v ms) (o : Obj) : Words (w.alloc o) v ms := ⟨h.1.alloc o, h.2⟩
theorem Words.drew {w : World} {v : Value} {ms : List Int} (h : Words w v ms) : Words w.drew v ms := h
/-- A row of the call's own that holds these words. -/
def Own (w : World) (base : Nat) (v : Value) (ms : List Int) : Prop := w.ownsRow base 30 1 v ms.length (u64s ms) ∧ ∀ x ∈ ms, W64 x
theorem Own.words {w : World} {base : Nat} {v : Value} {ms : List Int} (h : Own w base v ms) : Words w v ms := ⟨Sl.of_own h.1, h.2⟩

def Acc.val (x : Acc) : Value := .agg #[.int .i64 x.k, .int .i64 x.i, .int .u64 x.a, .int .u64 x.b]

/-- An access in a row of the call's own. -/
theorem do_any {base : Nat} {v : Value} {ms : List Int} {x : Acc} {w : World} (hx : x.ok) (hown : Own w base v ms) :
    Calls Try.prog 71 #[v, x.val] w fun e w' => e = .returned (.int .u64 (access ms x).2) ∧ Own w' base v (access ms x).1 ∧ w.grownBy w' v.ownBlock := by
  obtain ⟨h, hm⟩ := hown
  obtain ⟨k, i, a, b⟩ := x
  have hpost : ∀ (A : Option Addr) (cap : Nat) (ms' : List Int) (r : Int), v = .slice A ms.length cap → ms'.length = ms.length → (access ms ⟨k, i, a, b⟩) = (ms', r) →
      Calls Try.prog 71 #[.slice A ms.length cap, .agg #[.int .i64 k, .int .i64 i, .int .u64 a, .int .u64 b]] w (DoPost A ms.length cap base ms' r w) →
      Calls Try.prog 71 #[v, Acc.val ⟨k, i, a, b⟩] w fun e w' => e = .returned (.int .u64 (access ms ⟨k, i, a, b⟩).2) ∧ Own w' base v (access ms ⟨k, i, a, b⟩).1 ∧ w.grownBy w' v.ownBlock := by
    intro A cap ms' r hv hl he hc
    subst hv
    refine hc.mono ?_
    rintro e w' ⟨rfl, ho, hg⟩
    have hok := (access_ok (x := ⟨k, i, a, b⟩) hm hx).1
    rw [he] at hok ⊢
    exact ⟨rfl, ⟨by rw [hl]; exact ho, hok⟩, hg⟩
  obtain ⟨_, _, ha, hb⟩ := hx
  by_cases hout : i < 0 ∨ (ms.length : Int) ≤ i
  · have he : access ms ⟨k, i, a, b⟩ = (ms, 0) := by unfold access; rw [if_pos (by simpa using hout)]
    rcases h.2 with ⟨rfl, h0⟩ | ⟨g, cap, cur, rfl, _⟩
    · have h' : w.ownsRow base 30 1 (.slice none ms.length 0) ms.length (u64s ms) := by rw [h0]; rw [h0] at h; exact h
      exact hpost none 0 ms 0 (by rw [h0]) rfl he (do_out hout h')
    · exact hpost _ cap ms 0 rfl rfl he (do_out hout h)
  · rcases h.2 with ⟨rfl, h0⟩ | ⟨g, cap, cur, rfl, _⟩
    · omega
    · obtain ⟨j, rfl⟩ := Int.eq_ofNat_of_zero_le (show 0 ≤ i by omega)
      have hj : j < ms.length := by omega
      have hw := hm _ (getD_mem hj)
      have hn : ¬ ((j : Int) < 0 ∨ (j : Int) ≥ (ms.length : Int)) := by omega
      by_cases h0 : k = 0
      · subst h0
        exact hpost _ cap ms (ms.getD j 0) rfl rfl (by simp only [access]; rw [if_neg hn]; simp) (do_load hj h)
      by_cases h1 : k = 1
      · subst h1
        exact hpost _ cap (ms.set j a) 0 rfl (by simp) (by simp only [access]; rw [if_neg hn]; simp) (do_store hj h)
      by_cases h2 : k = 2
      · subst h2
        by_cases hs : ms.getD j 0 = a
        · exact hpost _ cap (ms.set j b) 1 rfl (by simp) (by simp only [access]; rw [if_neg hn]; simp only [Int.toNat_natCast, hs]; simp) (do_swap hj hs h)
        · exact hpost _ cap ms 0 rfl rfl (by simp only [access]; rw [if_neg hn]; simp only [Int.toNat_natCast, hs]; simp) (do_swapNot hj hs h)
      by_cases h3 : k = 3
      · subst h3
        exact hpost _ cap _ _ rfl (by simp) (by simp only [access]; rw [if_neg hn]; simp) (do_more hj ha hw h)
      exact hpost _ cap ms 0 rfl rfl (by simp only [access]; rw [if_neg hn]; simp only [if_neg h0, if_neg h1, if_neg h2, if_neg h3]) (do_other h0 h1 h2 h3 h)
end Go.Proofs.Ytpkelneimjmmkaa

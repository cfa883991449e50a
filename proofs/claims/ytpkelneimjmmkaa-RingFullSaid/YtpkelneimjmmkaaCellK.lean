/- The document's example of layer 11: the walk of awake. -/
import Derived.Test.YtpkelneimjmmkaaCellJ
namespace Go.Proofs.Ytpkelneimjmmkaa
open Go.RowKit

theorem words_new (w : World) (ms : List Int) (h : ∀ x ∈ ms, W64 x) (hl : ms.length ≤ 65536) (e : TypeId) :
    Words (w.alloc (.cells (u64s ms).toArray e)) (.slice (some ⟨w.heap.size, 0, none⟩) ms.length ms.length) ms :=
  ⟨by have := Sl.of_own (own_new w e 1 (u64s ms).toArray ms.length (by simp [u64s]) (by simp only [maxLen]; omega)); simpa using this, h⟩
theorem accs_new (w : World) (l : List Acc) (h : ∀ x ∈ l, x.ok) (hl : l.length ≤ 65536) (e : TypeId) :
    Accs (w.alloc (.cells (l.flatMap Acc.cells).toArray e)) (.slice (some ⟨w.heap.size, 0, none⟩) l.length l.length) l := by
  have hlen : (l.flatMap Acc.cells).length = l.length * 4 := by
    induction l with
    | nil => rfl
    | cons x l ih => rw [List.flatMap_cons, List.length_append, ih (fun y hy => h y (by simp [hy])) (by simp at hl; omega)]; simp [Acc.cells]; omega
  exact ⟨by have := Sl.of_own (own_new w e 4 (l.flatMap Acc.cells).toArray l.length (by simpa using hlen) (by simp only [maxLen]; omega)); simpa using this, h⟩

/-- The same at a block whose number is spelled otherwise. -/
theorem words_at {w : World} {g : Nat} (hg : g = w.heap.size) (ms : List Int) (h : ∀ x ∈ ms, W64 x) (hl : ms.length ≤ 65536) (e : TypeId) :
    Words (w.alloc (.cells (u64s ms).toArray e)) (.slice (some ⟨g, 0, none⟩) ms.length ms.length) ms := by subst hg; exact words_new w ms h hl e
theorem accs_at {w : World} {g : Nat} (hg : g = w.heap.size) (l : List Acc) (h : ∀ x ∈ l, x.ok) (hl : l.length ≤ 65536) (e : TypeId) :
    Accs (w.alloc (.cells (l.flatMap Acc.cells).toArray e)) (.slice (some ⟨g, 0, none⟩) l.length l.length) l := by subst hg; exact accs_new w l h hl e

def exAccs : List Acc := [⟨3, 1, 5, 0⟩, ⟨2, 1, 5, 7⟩, ⟨0, 1, 0, 0⟩]
theorem exAccs_ok : ∀ x ∈ exAccs, x.ok := by
  intro x hx
  simp [exAccs] at hx
  rcases hx with rfl | rfl | rfl <;> simp [Acc.ok, I64, W64]

set_option maxHeartbeats 1000000 in
theorem awake11 (w : World) : Calls Try.prog 25 #[] w (BoolPost true w) := by
  go_enter Try.func25, Try.ntmps25
  go_wp2_with fail
  refine (new_call 2 ⟨by omega, by omega⟩ w).mono ?_
  rintro e w1 ⟨v1, rfl, ho1, hb1⟩
  have H1 := Lib.hid ho1
  have B1 := Lib.hid hb1
  clear ho1 hb1
  go_wp2_with fail
  refine (run_call (ms := [0, 0]) (l := exAccs) (H1.out.words.alloc _) (accs_new w1 exAccs exAccs_ok (by simp [exAccs]) _) (by simp [exAccs])).mono ?_
  rintro e w2 ⟨v2, v3, rfl, ho2, ho3, hb2⟩
  have H2 : Hid (Own w2 w1.heap.size v2 [0, 7]) := Lib.hid (own_base ho2 (by simp))
  have H3 : Hid (Own w2 w1.heap.size v3 [5, 1, 7]) := Lib.hid (own_base ho3 (by simp))
  have B2 : Hid (Below w.heap.size w w2) := Lib.hid ((B1.out.alloc B1.out.size _).trans (hb2.mono (by have := B1.out.size; simp; omega)))
  clear ho2 ho3 hb2
  go_wp2_with fail
  refine (do_call (x := ⟨1, 0, 9, 0⟩) ⟨by simp [I64], by simp [I64], by simp [W64], by simp [W64]⟩ H2.out.words).mono ?_
  rintro e w3 ⟨v4, rfl, ho4, hb4⟩
  have H4 : Hid (Own w3 w2.heap.size v4 [9, 7]) := Lib.hid ho4
  have B4 := Lib.hid hb4
  clear ho4 hb4
  have W2 := Lib.hid (H2.out.words.below B4.out)
  have W3 := Lib.hid (H3.out.words.below B4.out)
  have B5 := Lib.hid (B2.out.trans (B4.out.mono B2.out.size))
  have W4 := Lib.hid H4.out.words
  clear H1 B1 H2 H3 B2 H4 B4
  go_wp2_with fail
  refine (same_call (W2.out.alloc _) (words_new w3 [0, 7] (by simp [W64]) (by simp) _)).mono ?_
  rintro e w4 ⟨rfl, hb⟩
  have W3' := Lib.hid ((W3.out.alloc _).below hb)
  have W4' := Lib.hid ((W4.out.alloc _).below hb)
  have B6 := Lib.hid ((B5.out.alloc B5.out.size _).trans (hb.mono (by have := B5.out.size; simp; omega)))
  clear hb W2 W3 W4 B5
  go_wp2_with fail
  refine (same_call (W3'.out.alloc _) (words_new w4 [5, 1, 7] (by simp [W64]) (by simp) _)).mono ?_
  rintro e w5 ⟨rfl, hb⟩
  have W4 := Lib.hid ((W4'.out.alloc _).below hb)
  have B7 := Lib.hid ((B6.out.alloc B6.out.size _).trans (hb.mono (by have := B6.out.size; simp; omega)))
  clear hb W3' W4' B6
  go_wp2_with fail
  refine (same_call (W4.out.alloc _) (words_new w5 [9, 7] (by simp [W64]) (by simp) _)).mono ?_
  rintro e w6 ⟨rfl, hb⟩
  have B8 := Lib.hid ((B7.out.alloc B7.out.size _).trans (hb.mono (by have := B7.out.size; simp; omega)))
  clear hb W4 B7
  go_wp2
  go_ret
  exact ⟨rfl, B8.out⟩
end Go.Proofs.Ytpkelneimjmmkaa

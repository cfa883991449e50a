/- The contracts of package cell: known, Do, New. -/
import Derived.Test.YtpkelneimjmmkaaCellD
namespace Go.Proofs.Ytpkelneimjmmkaa
open Go.RowKit

theorem one_u64s (ms : List Int) : ∀ u ∈ u64s ms, u.oneCell' = true := by
  intro u hu
  simp only [u64s, List.mem_map] at hu
  obtain ⟨x, _, rfl⟩ := hu
  rfl
theorem u64s_take (ms : List Int) (k : Nat) : u64s (ms.take k) = (u64s ms).take k := by simp [u64s, List.map_take]

/-- A slice of what reads, from its head on. -/
theorem Sl.take_ {w : World} {A : Option Addr} {c size n k : Nat} {xs : List Value} (h : Sl w (.slice A n c) size n xs) (hk : k ≤ n) : Sl w (.slice A k c) size k (xs.take (k * size)) := by
  obtain ⟨hl, A', c', e, h1, h2, h0, h3⟩ := h
  injection e with e1 e2 e3
  subst e1 e3
  refine ⟨?_, A, c, rfl, by omega, h2, fun e => ⟨by have := h0 e; omega, (h0 e).2⟩, fun hn => ?_⟩
  · rw [List.length_take, hl]; exact Nat.min_eq_left (Nat.mul_le_mul_right _ hk)
  · obtain ⟨ad, rfl, hb, hc⟩ := h3 (by omega)
    refine ⟨ad, rfl, hb, fun j u hu => hc j u ?_⟩
    rw [List.getElem?_take] at hu
    split at hu
    · exact hu
    · cases hu

/-- A call that hands back words in memory of its own, and has turned nothing that was there. -/
def OwnPost (ms : List Int) (w : World) (e : Ending) (w' : World) : Prop := ∃ v', e = .returned v' ∧ Own w' w.heap.size v' ms ∧ Below w.heap.size w w'

theorem counts_len (ms : List Int) : (counts ms).length = min ms.length 256 := by unfold counts; rw [List.length_take]; omega

set_option maxHeartbeats 1000000 in
theorem known_any {v : Value} {ms : List Int} {w : World} (h : Words w v ms) :
    Calls Try.prog 70 #[v] w (OwnPost (counts ms) w) := by
  obtain ⟨A, c, rfl, hc1, hc2, hA⟩ := h.1.form
  have fin : ∀ k, k = min ms.length 256 → Calls Try.prog 80 #[.slice A k c] w (OwnPost (counts ms) w) := by
    intro k hk
    have hs := Sl.take_ h.1 (k := k) (by omega)
    rw [Nat.mul_one, ← u64s_take] at hs
    refine (clone_u64 _ k _ w hs (by omega) (one_u64s _)).mono ?_
    rintro e w' ⟨v', rfl, ho, hb⟩
    have hcount : counts ms = ms.take k := by
      unfold counts
      by_cases h256 : ms.length ≤ 256
      · rw [List.take_of_length_le (by omega), List.take_of_length_le (by omega)]
      · rw [show k = 256 by omega]
    refine ⟨v', rfl, ⟨?_, fun x hx => h.2 x (List.mem_of_mem_take hx)⟩, hb⟩
    rw [hcount, List.length_take, show min k ms.length = k by omega]
    exact ho
  have F := Lib.hid fin
  clear fin
  unfold maxLen at hc2
  by_cases h256 : ms.length ≤ 256
  · have h0 : (ms.length : Int) ≤ 256 := by omega
    have h1 : (ms.length : Int) ≤ (c : Int) := by omega
    go_enter Try.func70, Try.ntmps70
    go_wp2_with fail
    refine (F.out ms.length (by omega)).mono ?_
    rintro e w' ⟨v', rfl, hb⟩
    have HB := Lib.hid hb
    clear hb
    go_wp2
    go_ret
    exact ⟨v', rfl, HB.out⟩
  · have h0 : (256 : Int) < (ms.length : Int) := by omega
    have h1 : (256 : Int) ≤ (c : Int) := by omega
    go_enter Try.func70, Try.ntmps70
    go_wp2_with fail
    refine (F.out 256 (by omega)).mono ?_
    rintro e w' ⟨v', rfl, hb⟩
    have HB := Lib.hid hb
    clear hb
    go_wp2
    go_ret
    exact ⟨v', rfl, HB.out⟩

/-- What Do answers. -/
def DoAns (ms : List Int) (r : Int) (w : World) (e : Ending) (w' : World) : Prop := ∃ v', e = .returned (.tuple #[v', .int .u64 r]) ∧ Own w' w.heap.size v' ms ∧ Below w.heap.size w w'

theorem own_base {w : World} {base base' : Nat} {v : Value} {ms : List Int} (h : Own w base v ms) (hb : base' ≤ base) : Own w base' v ms := by
  obtain ⟨⟨h1, h2⟩, h3⟩ := h
  refine ⟨⟨h1, ?_⟩, h3⟩
  rcases h2 with h2 | ⟨g, cap, cur, e, hg, r⟩
  · exact .inl h2
  · exact .inr ⟨g, cap, cur, e, by omega, r⟩

set_option maxHeartbeats 1000000 in
theorem do_call {v : Value} {ms : List Int} {x : Acc} {w : World} (hx : x.ok) (h : Words w v ms) :
    Calls Try.prog 31 #[v, x.val] w (DoAns (access (counts ms) x).1 (access (counts ms) x).2 w) := by
  have h' := h.alloc (.cells #[.int .i64 x.k, .int .i64 x.i, .int .u64 x.a, .int .u64 x.b] 32)
  have H := Lib.hid h'
  have X := Lib.hid hx
  clear h h' hx
  unfold Acc.val
  go_enter Try.func31, Try.ntmps31
  go_wp2_with fail
  refine (known_any H.out).mono ?_
  rintro e w' ⟨v', rfl, ho, hb⟩
  have e0 := fun j => hb.cell (p := ⟨w.heap.size, j, none⟩) (by simp)
  have HO := Lib.hid ho
  have HB := Lib.hid hb
  clear ho hb
  go_wp2_with fail
  refine (do_any (x := x) X.out HO.out).mono ?_
  rintro e w2 ⟨rfl, ho2, hg2⟩
  have hlt := fun k hk => (HO.out.1.lt k hk).1
  have hb2 : Below w.heap.size w w2 := ((Below.refl _ w).alloc (Nat.le_refl _) _).trans ((HB.out.mono (by simp)).grown hg2 (by have := HB.out.size; simp at this; omega) (fun k hk => by have := hlt k hk; simp at this; omega))
  have HO2 := Lib.hid (own_base (base' := w.heap.size) ho2 (by simp))
  have HB2 := Lib.hid hb2
  clear ho2 hb2 hg2 hlt
  go_wp2
  go_ret2
  exact ⟨v', rfl, HO2.out, HB2.out⟩
end Go.Proofs.Ytpkelneimjmmkaa

/- The contract of the reference's Do. -/
import Derived.Test.YtpkelneimjmmkaaCellH
namespace Go.Proofs.Ytpkelneimjmmkaa
open Go.RowKit

/-- The end of a walk that has stored into its row. -/
theorem DoAns.stored {w w1 : World} {v : Value} {ms : List Int} {j : Nat} {r : Int} {g n cap : Nat} {r0 : Int} (hv : v = .slice (some ⟨g, 0, none⟩) n cap) (h : Own w1 w.heap.size v ms) (hb : Below w.heap.size w w1) (hr : W64 r) :
    DoAns (ms.set j r) r0 w (.returned (.tuple #[v, .int .u64 r0])) (w1.setCell ⟨g, j, none⟩ (.int .u64 r)) := by
  subst hv
  refine ⟨_, rfl, ⟨?_, ?_⟩, hb.setCell ((h.1.lt g rfl).1) _⟩
  · rw [List.length_set, u64s_set]
    have he : n = ms.length := by
      rcases h.1.2 with ⟨e, _⟩ | ⟨_, _, _, e, _⟩
      · cases e
      · injection e
    subst he
    exact (h.1.stored j _).1
  · intro y hy
    rcases mem_set hy with h' | h'
    · exact h.2 y h'
    · rw [h']; exact hr

theorem DoAns.drewN {w w1 : World} {ms : List Int} {r : Int} {e : Ending} (h : DoAns ms r w e w1) (q : Nat) : DoAns ms r w e (w1.drewN q) := by
  obtain ⟨v, he, ho, hb⟩ := h
  exact ⟨v, he, ho, below_drewN hb q⟩

set_option maxHeartbeats 4000000 in
theorem refDo_call {v : Value} {ms : List Int} {x : Acc} {w : World} (hx : x.ok) (h : Words w v ms) :
    Calls Try.prog 73 #[v, x.val] w (DoAns (access (counts ms) x).1 (access (counts ms) x).2 w) := by
  have h' := h.alloc (.cells #[.int .i64 x.k, .int .i64 x.i, .int .u64 x.a, .int .u64 x.b] 32)
  have hal : Below w.heap.size w (w.alloc (.cells #[.int .i64 x.k, .int .i64 x.i, .int .u64 x.a, .int .u64 x.b] 32)) := (Below.refl _ w).alloc (Nat.le_refl _) _
  have H := Lib.hid h'
  have X := Lib.hid hx
  have AL := Lib.hid hal
  clear h h' hx hal
  unfold Acc.val
  go_enter Try.func73, Try.ntmps73
  go_wp2_with fail
  refine (as_call H.out).mono ?_
  rintro e w1 ⟨v', rfl, ho, hb⟩
  have hb1 : Below w.heap.size w w1 := AL.out.trans (hb.mono (by simp))
  have e0 := fun j => hb.cell (p := ⟨w.heap.size, j, none⟩) (by simp)
  have hne : ∀ g, v'.ownBlock = some g → w.heap.size < g := fun g hg => by have := (ho.1.lt g hg).1; simp at this; omega
  have HN := Lib.hid hne
  have HO := Lib.hid (own_base (base' := w.heap.size) ho (by simp))
  have HB := Lib.hid hb1
  clear ho hb hb1 AL hne
  obtain ⟨k, i, a, b⟩ := x
  obtain ⟨_, _, ha, hb⟩ := X.out
  clear X
  generalize counts ms = cs at *
  simp only at e0 ha hb
  have hlen := cs.length
  by_cases hout : i < 0 ∨ (cs.length : Int) ≤ i
  · have he : access cs ⟨k, i, a, b⟩ = (cs, 0) := by unfold access; rw [if_pos (by simpa using hout)]
    have F : Hid (DoAns (access cs ⟨k, i, a, b⟩).1 (access cs ⟨k, i, a, b⟩).2 w (.returned (.tuple #[v', .int .u64 0])) w1) := Lib.hid (by rw [he]; exact ⟨v', rfl, HO.out, HB.out⟩)
    clear he
    obtain ⟨B, c, hv, _⟩ := HO.out.words.1.form
    subst hv
    rcases hout with hout | hout
    · go_wp2
      go_ret2
      exact F.out
    · have hi0 : 0 ≤ i := by omega
      go_wp2
      go_ret2
      exact F.out
  · obtain ⟨j, rfl⟩ := Int.eq_ofNat_of_zero_le (show 0 ≤ i by omega)
    have hj : j < cs.length := by omega
    have hjl : (j : Int) < (cs.length : Int) := by omega
    have hn : ¬ ((j : Int) < 0 ∨ (j : Int) ≥ (cs.length : Int)) := by omega
    have hown := HO.out.1
    rcases hown.2 with ⟨_, h0⟩ | ⟨g, cap, cur, hv, _⟩
    · omega
    subst hv
    have hw := HO.out.2 _ (getD_mem hj)
    obtain ⟨hc, hf, _, _⟩ := do_facts hj hown
    clear hown
    obtain ⟨r, hr⟩ : ∃ r, cs.getD j 0 = r := ⟨_, rfl⟩
    rw [hr] at hc hw
    have hacc : access cs ⟨k, (j : Int), a, b⟩ = (if k = 0 then (cs, r) else if k = 1 then (cs.set j a, 0) else if k = 2 then (if r = a then (cs.set j b, 1) else (cs, 0)) else if k = 3 then (cs.set j ((r + a) % 18446744073709551616), (r + a) % 18446744073709551616) else (cs, 0)) := by
      unfold access
      rw [if_neg hn]
      simp only [Int.toNat_natCast, hr]
    clear hr hn hout
    have HA := Lib.hid hacc
    clear hacc
    by_cases h0 : k = 0
    · subst h0
      have F : Hid (DoAns (access cs ⟨0, (j : Int), a, b⟩).1 (access cs ⟨0, (j : Int), a, b⟩).2 w (.returned (.tuple #[.slice (some ⟨g, 0, none⟩) cs.length cap, .int .u64 r])) w1) := Lib.hid (by rw [HA.out]; exact ⟨_, rfl, HO.out, HB.out⟩)
      clear HA
      go_wp2
      go_ret2
      exact F.out
    by_cases h1 : k = 1
    · subst h1
      have F : Hid (DoAns (access cs ⟨1, (j : Int), a, b⟩).1 (access cs ⟨1, (j : Int), a, b⟩).2 w (.returned (.tuple #[.slice (some ⟨g, 0, none⟩) cs.length cap, .int .u64 0])) (w1.setCell ⟨g, j, none⟩ (.int .u64 a))) := Lib.hid (by rw [HA.out]; exact DoAns.stored rfl HO.out HB.out ha)
      clear HA
      go_wp2
      go_ret2
      exact F.out
    by_cases h2 : k = 2
    · subst h2
      by_cases hs : r = a
      · have F : Hid (DoAns (access cs ⟨2, (j : Int), a, b⟩).1 (access cs ⟨2, (j : Int), a, b⟩).2 w (.returned (.tuple #[.slice (some ⟨g, 0, none⟩) cs.length cap, .int .u64 1])) (w1.setCell ⟨g, j, none⟩ (.int .u64 b))) := Lib.hid (by rw [HA.out]; simp only [hs]; exact DoAns.stored rfl HO.out HB.out hb)
        clear HA
        subst hs
        go_wp2
        go_ret2
        exact F.out
      · have F : Hid (DoAns (access cs ⟨2, (j : Int), a, b⟩).1 (access cs ⟨2, (j : Int), a, b⟩).2 w (.returned (.tuple #[.slice (some ⟨g, 0, none⟩) cs.length cap, .int .u64 0])) w1) := Lib.hid (by rw [HA.out]; simp only [hs]; exact ⟨_, rfl, HO.out, HB.out⟩)
        clear HA
        have hne : (r == a) = false := by simpa using hs
        go_wp2
        go_ret2
        exact F.out
    by_cases h3 : k = 3
    · subst h3
      have hmod : W64 ((r + a) % 18446744073709551616) := ⟨by omega, by omega⟩
      have F : Hid (∀ q, DoAns (access cs ⟨3, (j : Int), a, b⟩).1 (access cs ⟨3, (j : Int), a, b⟩).2 w (.returned (.tuple #[.slice (some ⟨g, 0, none⟩) cs.length cap, .int .u64 ((r + a) % 18446744073709551616)])) ((w1.setCell ⟨g, j, none⟩ (.int .u64 ((r + a) % 18446744073709551616))).drewN q)) := Lib.hid (by intro q; rw [HA.out]; exact (DoAns.stored rfl HO.out HB.out hmod).drewN q)
      obtain ⟨ha0, ha1⟩ := ha
      obtain ⟨hr0, hr1⟩ := hw
      clear HA hmod
      have hgne := HN.out g rfl
      have e2 := e0 2
      have hx2 : ∀ u, (w1.setCell ⟨g, j, none⟩ u).cell? ⟨w.heap.size, 2, none⟩ = some (.int .u64 a) := by
        intro u
        rw [World.cell?_setCell_other _ _ _ _ (by intro e; injection e; omega), e2]
        simp
      have hwr : IntKind.u64.wrap (r + a) = (r + a) % 18446744073709551616 := IntKind.wrap_u64 _
      clear e2 hgne
      go_wp2_with fail
      go_quiet (fail)
      go_wp2
      go_ret2
      exact F.out _
    · have F : Hid (DoAns (access cs ⟨k, (j : Int), a, b⟩).1 (access cs ⟨k, (j : Int), a, b⟩).2 w (.returned (.tuple #[.slice (some ⟨g, 0, none⟩) cs.length cap, .int .u64 0])) w1) := Lib.hid (by rw [HA.out]; rw [if_neg h0, if_neg h1, if_neg h2, if_neg h3]; exact ⟨_, rfl, HO.out, HB.out⟩)
      clear HA
      go_wp2
      go_ret2
      exact F.out
end Go.Proofs.Ytpkelneimjmmkaa

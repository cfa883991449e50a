/- The walk of the statement CellMore. -/
import Derived.Test.YtpkelneimjmmkaaCellK
import Derived.Test.YtpkelneimjmmkaaPureC
namespace Go.Proofs.Ytpkelneimjmmkaa
open Go.RowKit

set_option maxHeartbeats 1000000 in
theorem cellMore_walk {v : Value} {ms : List Int} {i a b : Int} {w : World} (hv : Words w v ms) (hi : I64 i) (ha : W64 a) (hb : W64 b) :
    Calls Try.prog 6 #[v, .int .i64 i, .int .u64 a, .int .u64 b] w (BoolPost true w) := by
  obtain ⟨A, c, rfl, hc1, hc2, hA⟩ := hv.1.form
  have V := Lib.hid hv
  unfold maxLen at hc2
  clear hv hA
  by_cases h1 : ms.length > 256
  · have g1 : (256 : Int) < (ms.length : Int) := by omega
    go_enter Try.func6, Try.ntmps6
    go_wp2_with fail
    refine (awake11 w).mono ?_
    rintro e w1 ⟨rfl, hb⟩
    have HB := Lib.hid hb
    clear hb
    go_wp2
    go_ret
    exact ⟨rfl, HB.out⟩
  · have g1 : ¬ (256 : Int) < (ms.length : Int) := by omega
    have z0 : W64 0 := ⟨by omega, by omega⟩
    have k3 : I64 3 := ⟨by omega, by omega⟩
    have okx : Acc.ok ⟨3, i, a, 0⟩ := ⟨k3, hi, ha, z0⟩
    have oky : Acc.ok ⟨3, i, b, 0⟩ := ⟨k3, hi, hb, z0⟩
    have okz : Acc.ok ⟨3, i, (a + b) % 18446744073709551616, 0⟩ := ⟨k3, hi, ⟨Int.emod_nonneg _ (by omega), Int.emod_lt_of_pos _ (by omega)⟩, z0⟩
    have hwr : IntKind.u64.wrap (a + b) = (a + b) % 18446744073709551616 := IntKind.wrap_u64 _
    have OX := Lib.hid okx
    have OY := Lib.hid oky
    have OZ := Lib.hid okz
    clear okx oky okz hi ha hb k3 z0
    go_enter Try.func6, Try.ntmps6
    go_wp2_with fail
    refine (awake11 w).mono ?_
    rintro e w1 ⟨rfl, hb⟩
    have V1 := Lib.hid (V.out.below hb)
    have HB := Lib.hid hb
    clear hb V
    go_wp2_with fail
    have AX := fun (W : World) (g : Nat) (hg : g = W.heap.size) => accs_at hg [⟨3, i, a, 0⟩, ⟨3, i, b, 0⟩] (by intro x hx; simp at hx; rcases hx with rfl | rfl; exact OX.out; exact OY.out) (by simp) 32
    have AY := fun (W : World) (g : Nat) (hg : g = W.heap.size) => accs_at hg [⟨3, i, b, 0⟩, ⟨3, i, a, 0⟩] (by intro x hx; simp at hx; rcases hx with rfl | rfl; exact OY.out; exact OX.out) (by simp) 32
    have HX := Lib.hid AX
    have HY := Lib.hid AY
    clear AX AY
    refine (run_call (ms := ms) (l := [⟨3, i, a, 0⟩, ⟨3, i, b, 0⟩]) (((V1.out.alloc _).alloc _).alloc _) (HX.out _ _ (by simp)) (by simp)).mono ?_
    rintro e w2 ⟨p, p', rfl, ho, _, hb⟩
    have bx := (((Box.new w1 _ _).alloc _).alloc _).kept hb
    have by_ := ((Box.at_ (g := w1.heap.size + 1) (by simp) _ _).alloc _).kept hb
    have hs1 := HB.out.size
    have HB2 := Lib.hid (below_call (((HB.out.alloc hs1 _).alloc (by simp; omega) _).alloc (by simp; omega) _) hb (by simp; omega))
    have V2 := Lib.hid ((((V1.out.alloc _).alloc _).alloc _).below hb)
    have P2 := Lib.hid ho.words
    have e0 := bx.cell
    have e1 := by_.cell
    have BX := Lib.hid bx
    have BY := Lib.hid by_
    have hs2 := HB2.out.size
    clear hb ho V1 HB bx by_
    go_wp2_with fail
    refine (run_call (ms := ms) (l := [⟨3, i, b, 0⟩, ⟨3, i, a, 0⟩]) (V2.out.alloc _) (HY.out _ _ rfl) (by simp)).mono ?_
    rintro e w3 ⟨q, q', rfl, ho, _, hb⟩
    have V3 := Lib.hid ((V2.out.alloc _).below hb)
    have P3 := Lib.hid ((P2.out.alloc _).below hb)
    have Q3 := Lib.hid ho.words
    have HB3 := Lib.hid (below_call (HB2.out.alloc hs2 _) hb (by simp; omega))
    have hs3 := HB3.out.size
    clear hb ho V2 P2 HB2 e0 e1 BX BY
    go_wp2_with fail
    refine (do_call (x := ⟨3, i, (a + b) % 18446744073709551616, 0⟩) OZ.out V3.out).mono ?_
    rintro e w4 ⟨s, rfl, ho, hb⟩
    have P4 := Lib.hid (P3.out.below hb)
    have Q4 := Lib.hid (Q3.out.below hb)
    have S4 := Lib.hid ho.words
    have HB4 := Lib.hid (below_call HB3.out hb hs3)
    have hs4 := HB4.out.size
    clear hb ho V3 P3 Q3 HB3
    go_wp2_with fail
    refine (same_call P4.out Q4.out).mono ?_
    rw [decide_eq_true (more_comm (counts ms) i a b)]
    rintro e w5 ⟨rfl, hb⟩
    have P5 := Lib.hid (P4.out.below hb)
    have S5 := Lib.hid (S4.out.below hb)
    have HB5 := Lib.hid (below_call HB4.out hb hs4)
    have hs5 := HB5.out.size
    clear hb P4 Q4 S4 HB4
    go_wp2_with fail
    refine (same_call P5.out S5.out).mono ?_
    rw [decide_eq_true (more_two (counts ms) i a b 0 0 0)]
    rintro e w6 ⟨rfl, hb⟩
    have HB6 := Lib.hid (below_call HB5.out hb hs5)
    clear hb P5 S5 HB5
    go_wp2
    go_ret
    exact ⟨rfl, HB6.out⟩
end Go.Proofs.Ytpkelneimjmmkaa

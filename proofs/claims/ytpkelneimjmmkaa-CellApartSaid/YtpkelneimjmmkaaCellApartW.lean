/- The walk of the statement CellApart. -/
import Derived.Test.YtpkelneimjmmkaaCellK
import Derived.Test.YtpkelneimjmmkaaPureC
namespace Go.Proofs.Ytpkelneimjmmkaa
open Go.RowKit

set_option maxHeartbeats 2000000 in
theorem cellApart_walk {v : Value} {ms : List Int} {x y : Acc} {w : World} (hv : Words w v ms) (hx : x.ok) (hy : y.ok) :
    Calls Try.prog 7 #[v, x.val, y.val] w (BoolPost true w) := by
  obtain ⟨A, c, rfl, hc1, hc2, hA⟩ := hv.1.form
  have bx := (Box.new w 32 #[.int .i64 x.k, .int .i64 x.i, .int .u64 x.a, .int .u64 x.b]).alloc (.cells #[.int .i64 y.k, .int .i64 y.i, .int .u64 y.a, .int .u64 y.b] 32)
  have by_ := Box.at_ (w := w.alloc (.cells #[.int .i64 x.k, .int .i64 x.i, .int .u64 x.a, .int .u64 x.b] 32)) (g := w.heap.size + 1) (by simp) 32 #[.int .i64 y.k, .int .i64 y.i, .int .u64 y.a, .int .u64 y.b]
  have h0 := ((Below.refl w.heap.size w).alloc (Nat.le_refl _) (.cells #[.int .i64 x.k, .int .i64 x.i, .int .u64 x.a, .int .u64 x.b] 32)).alloc (by simp) (.cells #[.int .i64 y.k, .int .i64 y.i, .int .u64 y.a, .int .u64 y.b] 32)
  have hv2 := (hv.alloc (.cells #[.int .i64 x.k, .int .i64 x.i, .int .u64 x.a, .int .u64 x.b] 32)).alloc (.cells #[.int .i64 y.k, .int .i64 y.i, .int .u64 y.a, .int .u64 y.b] 32)
  have V := Lib.hid hv2
  have BX := Lib.hid bx
  have BY := Lib.hid by_
  have H0 := Lib.hid h0
  have OX := Lib.hid hx
  have OY := Lib.hid hy
  unfold maxLen at hc2
  clear hv hv2 bx by_ h0 hA hx hy
  unfold Acc.val
  by_cases h1 : ms.length > 256
  · have g1 : (256 : Int) < (ms.length : Int) := by omega
    go_enter Try.func7, Try.ntmps7
    go_wp2_with fail
    refine (awake11 _).mono ?_
    rintro e w1 ⟨rfl, hb⟩
    have HB := Lib.hid (below_call H0.out hb (by simp; omega))
    clear hb
    go_wp2
    go_ret
    exact ⟨rfl, HB.out⟩
  have g1 : ¬ (256 : Int) < (ms.length : Int) := by omega
  by_cases h2 : x.i = y.i
  · have g2 : (x.i == y.i) = true := by simpa using h2
    have HE := Lib.hid h2
    clear h2
    go_enter Try.func7, Try.ntmps7
    go_wp2_with fail
    refine (awake11 _).mono ?_
    rintro e w1 ⟨rfl, hb⟩
    have HB := Lib.hid (below_call H0.out hb (by simp; omega))
    have e0 := (BX.out.kept hb).cell
    have e1 := (BY.out.kept hb).cell
    clear hb
    go_wp2
    go_ret
    exact ⟨rfl, HB.out⟩
  · have g2 : (x.i == y.i) = false := by simpa using h2
    have HE := Lib.hid h2
    clear h2
    go_enter Try.func7, Try.ntmps7
    go_wp2_with fail
    refine (awake11 _).mono ?_
    rintro e w1 ⟨rfl, hb⟩
    have HB := Lib.hid (below_call H0.out hb (by simp; omega))
    have V1 := Lib.hid (V.out.below hb)
    have BX1 := Lib.hid (BX.out.kept hb)
    have BY1 := Lib.hid (BY.out.kept hb)
    have e0 := BX1.out.cell
    have e1 := BY1.out.cell
    have hs1 := HB.out.size
    clear hb V BX BY H0
    go_wp2_with fail
    refine (do_call (x := x) OX.out V1.out).mono ?_
    clear e0 e1
    rintro e w2 ⟨va, rfl, ho, hb⟩
    have V2 := Lib.hid (V1.out.below hb)
    have A2 := Lib.hid ho.words
    have BX2 := Lib.hid (BX1.out.kept hb)
    have BY2 := Lib.hid (BY1.out.kept hb)
    have e0 := BX2.out.cell
    have e1 := BY2.out.cell
    have HB2 := Lib.hid (below_call HB.out hb hs1)
    have hs2 := HB2.out.size
    clear hb ho V1 BX1 BY1 HB
    go_wp2_with fail
    refine (do_call (x := y) OY.out A2.out).mono ?_
    clear e0 e1
    rintro e w3 ⟨vb, rfl, ho, hb⟩
    have V3 := Lib.hid (V2.out.below hb)
    have B3 := Lib.hid ho.words
    have BX3 := Lib.hid (BX2.out.kept hb)
    have BY3 := Lib.hid (BY2.out.kept hb)
    have e0 := BX3.out.cell
    have e1 := BY3.out.cell
    have HB3 := Lib.hid (below_call HB2.out hb hs2)
    have hs3 := HB3.out.size
    clear hb ho V2 A2 BX2 BY2 HB2
    go_wp2_with fail
    refine (do_call (x := y) OY.out V3.out).mono ?_
    clear e0 e1
    rintro e w4 ⟨vc, rfl, ho, hb⟩
    have B4 := Lib.hid (B3.out.below hb)
    have C4 := Lib.hid ho.words
    have BX4 := Lib.hid (BX3.out.kept hb)
    have BY4 := Lib.hid (BY3.out.kept hb)
    have e0 := BX4.out.cell
    have e1 := BY4.out.cell
    have HB4 := Lib.hid (below_call HB3.out hb hs3)
    have hs4 := HB4.out.size
    clear hb ho V3 B3 BX3 BY3 HB3
    go_wp2_with fail
    refine (do_call (x := x) OX.out C4.out).mono ?_
    clear e0 e1
    rintro e w5 ⟨vd, rfl, ho, hb⟩
    have B5 := Lib.hid (B4.out.below hb)
    have D5 := Lib.hid ho.words
    have HB5 := Lib.hid (below_call HB4.out hb hs4)
    have hs5 := HB5.out.size
    clear hb ho B4 C4 BX4 BY4 HB4
    have hap := access_apart (counts ms) x y HE.out
    have i1 : counts (access (counts ms) x).1 = (access (counts ms) x).1 := counts_id (by rw [access_len, counts_len]; omega)
    have i2 : counts (access (counts ms) y).1 = (access (counts ms) y).1 := counts_id (by rw [access_len, counts_len]; omega)
    have r1 : (access (counts (access (counts ms) y).1) x).2 = (access (counts ms) x).2 := by rw [i2]; exact hap.2.1.symm
    have r2 : (access (counts (access (counts ms) x).1) y).2 = (access (counts ms) y).2 := by rw [i1]; exact hap.2.2
    have r3 : (access (counts (access (counts ms) x).1) y).1 = (access (counts (access (counts ms) y).1) x).1 := by rw [i1, i2]; exact hap.1
    rw [r1, r2]
    have R3 := Lib.hid r3
    clear hap i1 i2 r1 r2 r3
    go_wp2_with fail
    refine (same_call B5.out D5.out).mono ?_
    rw [decide_eq_true R3.out]
    rintro e w6 ⟨rfl, hb⟩
    have HB6 := Lib.hid (below_call HB5.out hb hs5)
    clear hb B5 D5 HB5
    generalize (access (counts ms) x).2 = s1
    generalize (access (counts ms) y).2 = s2
    go_wp2
    go_ret
    exact ⟨rfl, HB6.out⟩
end Go.Proofs.Ytpkelneimjmmkaa

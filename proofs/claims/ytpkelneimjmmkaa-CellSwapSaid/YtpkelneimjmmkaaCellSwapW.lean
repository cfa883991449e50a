/- The walk of the statement CellSwap. -/
import Derived.Test.YtpkelneimjmmkaaCellK
import Derived.Test.YtpkelneimjmmkaaPureC
namespace Go.Proofs.Ytpkelneimjmmkaa
open Go.RowKit

theorem swap_facts {ms : List Int} {j : Nat} {a b c : Int} (hj : j < ms.length) (hl : ms.length ≤ 256) (hab : b ≠ a) :
    (access (counts ms) ⟨2, j, a, b⟩).2 = (if ms.getD j 0 = a then 1 else 0) ∧ (access (counts (access (counts ms) ⟨2, j, a, b⟩).1) ⟨2, j, a, c⟩).2 = 0 ∧
    (access (counts ms) ⟨2, j, ms.getD j 0, ms.getD j 0⟩).2 = 1 ∧ (access (counts ms) ⟨2, j, ms.getD j 0, ms.getD j 0⟩).1 = ms := by
  have hc : counts ms = ms := counts_id hl
  have hc2 : counts (access ms ⟨2, j, a, b⟩).1 = (access ms ⟨2, j, a, b⟩).1 := counts_id (by rw [access_len]; exact hl)
  rw [hc, hc2]
  have hin : ∀ x y : Int, ¬ ((⟨2, j, x, y⟩ : Acc).i < 0 ∨ (⟨2, j, x, y⟩ : Acc).i ≥ (ms.length : Int)) := fun _ _ => by simp; omega
  have hin2 : ¬ ((⟨2, j, a, c⟩ : Acc).i < 0 ∨ (⟨2, j, a, c⟩ : Acc).i ≥ ((access ms ⟨2, j, a, b⟩).1.length : Int)) := by rw [access_len]; exact hin _ _
  rw [access_word hin2, access_word (hin a b), access_word (hin _ _)]
  simp only [Int.toNat_natCast]
  rw [getD_set_same _ hj]
  unfold word
  refine ⟨?_, ?_, ?_, ?_⟩
  · by_cases h : ms.getD j 0 = a <;> simp only [h] <;> simp
  · by_cases h : ms.getD j 0 = a
    · simp only [h]; simp [hab]
    · simp only [h]; simp only [List.getD_eq_getElem?_getD] at h; simp [h]
  · simp
  · simp only [if_true]
    exact set_getD ms j

set_option maxHeartbeats 2000000 in
theorem cellSwap_walk {v : Value} {ms : List Int} {i a b c : Int} {w : World} (hv : Words w v ms) (hi : I64 i) (ha : W64 a) (hb : W64 b) (hc : W64 c) :
    Calls Try.prog 5 #[v, .int .i64 i, .int .u64 a, .int .u64 b, .int .u64 c] w (BoolPost true w) := by
  obtain ⟨A, d, rfl, hc1, hc2, hA⟩ := hv.1.form
  have V := Lib.hid hv
  unfold maxLen at hc2
  clear hv hA
  by_cases hup : ms.length > 256 ∨ i < 0 ∨ (ms.length : Int) ≤ i ∨ b = a
  · have hup' : ms.length > 256 ∨ (ms.length ≤ 256 ∧ i < 0) ∨ (ms.length ≤ 256 ∧ 0 ≤ i ∧ (ms.length : Int) ≤ i) ∨ (ms.length ≤ 256 ∧ 0 ≤ i ∧ i < (ms.length : Int) ∧ b = a) := by omega
    clear hup
    rcases hup' with h1 | ⟨h1, h2⟩ | ⟨h1, h2, h3⟩ | ⟨h1, h2, h3, h4⟩
    · have g1 : (256 : Int) < (ms.length : Int) := by omega
      go_enter Try.func5, Try.ntmps5
      go_wp2_with fail
      refine (awake11 w).mono ?_
      rintro e w1 ⟨rfl, hb⟩
      have HB := Lib.hid hb
      clear hb
      go_wp2
      go_ret
      exact ⟨rfl, HB.out⟩
    · have g1 : ¬ (256 : Int) < (ms.length : Int) := by omega
      go_enter Try.func5, Try.ntmps5
      go_wp2_with fail
      refine (awake11 w).mono ?_
      rintro e w1 ⟨rfl, hb⟩
      have HB := Lib.hid hb
      clear hb
      go_wp2
      go_ret
      exact ⟨rfl, HB.out⟩
    · have g1 : ¬ (256 : Int) < (ms.length : Int) := by omega
      go_enter Try.func5, Try.ntmps5
      go_wp2_with fail
      refine (awake11 w).mono ?_
      rintro e w1 ⟨rfl, hb⟩
      have HB := Lib.hid hb
      clear hb
      go_wp2
      go_ret
      exact ⟨rfl, HB.out⟩
    · have g1 : ¬ (256 : Int) < (ms.length : Int) := by omega
      subst h4
      go_enter Try.func5, Try.ntmps5
      go_wp2_with fail
      refine (awake11 w).mono ?_
      rintro e w1 ⟨rfl, hb⟩
      have HB := Lib.hid hb
      clear hb
      go_wp2
      go_ret
      exact ⟨rfl, HB.out⟩
  · have hlen : ms.length ≤ 256 := by omega
    have hne : b ≠ a := by omega
    obtain ⟨j, rfl⟩ := Int.eq_ofNat_of_zero_le (show 0 ≤ i by omega)
    have hj : j < ms.length := by omega
    clear hup
    obtain ⟨f1, f2, f3, f4⟩ := swap_facts (c := c) hj hlen hne
    have hr : W64 (ms.getD j 0) := V.out.2 _ (getD_mem hj)
    obtain ⟨blk, off, rfl, hbl, c0⟩ := V.out.at_ rfl hj
    generalize ms.getD j 0 = r at *
    have g1 : ¬ (256 : Int) < (ms.length : Int) := by omega
    have g2 : ¬ (j : Int) < 0 := by omega
    have g3 : (j : Int) < (ms.length : Int) := by omega
    have g4 : (b == a) = false := by simpa using hne
    have k2 : I64 2 := ⟨by omega, by omega⟩
    have oka : Acc.ok ⟨2, j, a, b⟩ := ⟨k2, hi, ha, hb⟩
    have okb : Acc.ok ⟨2, j, a, c⟩ := ⟨k2, hi, ha, hc⟩
    have okc : Acc.ok ⟨2, j, r, r⟩ := ⟨k2, hi, hr, hr⟩
    have OA := Lib.hid oka
    have OB := Lib.hid okb
    have OC := Lib.hid okc
    have F1 := Lib.hid f1
    have F2 := Lib.hid f2
    have F3 := Lib.hid f3
    have F4 := Lib.hid f4
    clear oka okb okc f1 f2 f3 f4 hne hi ha hb hc k2
    go_enter Try.func5, Try.ntmps5
    go_wp2_with fail
    refine (awake11 w).mono ?_
    rintro e w1 ⟨rfl, hb⟩
    have V1 := Lib.hid (V.out.below hb)
    have c1 : w1.cell? ⟨blk, off + j, none⟩ = some (.int .u64 r) := (hb.cell (p := ⟨blk, off + j, none⟩) hbl).trans c0
    have HB := Lib.hid hb
    have hs1 := HB.out.size
    clear hb V c0
    go_wp2_with fail
    refine (do_call (x := ⟨2, j, a, b⟩) OA.out V1.out).mono ?_
    rw [F1.out]
    rintro e w2 ⟨vn, rfl, ho, hb⟩
    have V2 := Lib.hid (V1.out.below hb)
    have c2 : w2.cell? ⟨blk, off + j, none⟩ = some (.int .u64 r) := (hb.cell (p := ⟨blk, off + j, none⟩) (by simp; omega)).trans c1
    have N2 := Lib.hid ho.words
    have HB2 := Lib.hid (below_call HB.out hb hs1)
    have hs2 := HB2.out.size
    clear hb ho V1 HB c1
    obtain ⟨p, hp⟩ : ∃ p : Int, (if r = a then 1 else 0) = p := ⟨_, rfl⟩
    rw [hp]
    have HP := Lib.hid hp
    clear hp
    go_wp2_with fail
    refine (do_call (x := ⟨2, j, a, c⟩) OB.out N2.out).mono ?_
    rw [F2.out]
    rintro e w3 ⟨vn', rfl, ho, hb⟩
    have V3 := Lib.hid (V2.out.below hb)
    have c3 : w3.cell? ⟨blk, off + j, none⟩ = some (.int .u64 r) := (hb.cell (p := ⟨blk, off + j, none⟩) (by simp; omega)).trans c2
    have HB3 := Lib.hid (below_call HB2.out hb hs2)
    have hs3 := HB3.out.size
    clear hb ho V2 HB2 c2 N2
    go_wp2_with fail
    go_region_held3 (fun w' => w'.cell? ⟨blk, off + j, none⟩ = some (.int .u64 r)) (first | exact c3 | exact c4)
      (first | (go_at_call 31; refine (do_call (x := ⟨2, j, r, r⟩) (ms := ms) OC.out V3.out.drew).mono ?_; rw [F3.out, F4.out]; rintro e w4 ⟨vs, rfl, ho, hb⟩; have c4 : w4.cell? ⟨blk, off + j, none⟩ = some (.int .u64 r) := (hb.cell (p := ⟨blk, off + j, none⟩) (by show blk < w3.heap.size; omega)).trans c3))
    have V4 := Lib.hid (V3.out.drew.below hb)
    have S4 := Lib.hid ho.words
    have HB4 := Lib.hid (below_call HB3.out.drew hb hs3)
    have hs4 := HB4.out.size
    clear hb ho V3 HB3 c3
    by_cases hra : r = a
    · have hq : (r == a) = true := by simp [hra]
      have hp1 : p = 1 := by rw [← HP.out, if_pos hra]
      clear hra
      subst hp1
      go_wp2_with fail
      refine (same_call S4.out V4.out).mono ?_
      rw [decide_eq_true rfl]
      rintro e w5 ⟨rfl, hb⟩
      have HB5 := Lib.hid (below_call HB4.out hb hs4)
      clear hb
      go_wp2
      go_ret
      exact ⟨rfl, HB5.out⟩
    · have hq : (r == a) = false := by simpa using hra
      have hp1 : p = 0 := by rw [← HP.out, if_neg hra]
      clear hra
      subst hp1
      go_wp2_with fail
      refine (same_call S4.out V4.out).mono ?_
      rw [decide_eq_true rfl]
      rintro e w5 ⟨rfl, hb⟩
      have HB5 := Lib.hid (below_call HB4.out hb hs4)
      clear hb
      go_wp2
      go_ret
      exact ⟨rfl, HB5.out⟩
end Go.Proofs.Ytpkelneimjmmkaa

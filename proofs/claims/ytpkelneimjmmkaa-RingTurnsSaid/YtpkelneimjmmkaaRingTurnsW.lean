/- The walk of RingTurns. -/
import Derived.Test.YtpkelneimjmmkaaRingBeg
import Derived.Test.YtpkelneimjmmkaaOpenB
namespace Go.Proofs.Ytpkelneimjmmkaa
open Go.RowKit

theorem PlayI.drewN {base g b c s : Nat} {w0 w : World} {p : Ply} {m : List Int} {L : List (Value × Int)} {D T : Nat} {lay take : FT} {ls ps : Nat} (h : PlayI base g w0 w b c s p m L D T lay take ls ps) (n : Nat) : PlayI base g w0 (w.drewN n) b c s p m L D T lay take ls ps :=
  ⟨⟨h.ply.box, h.ply.len1, h.ply.len2⟩, h.b_is, h.c_is, h.next_is, h.drops_is, h.taken_is, h.lays_is, h.pops_is, h.ok_is, h.mem, ⟨h.laid.row, h.laid.each⟩, h.t1, h.t2, h.law, h.ne, h.lo, h.few, ⟨h.below.os, h.below.tape, h.below.output, h.below.size, h.below.block⟩, h.size⟩

set_option maxHeartbeats 16000000 in
set_option maxRecDepth 20000 in
theorem ringTurns_walk {b c : Int} {vt : Value} {l : List Bool} {w : World} (hl : Bools w vt l) :
    Calls Try.prog 21 #[.int .i64 b, .int .i64 c, vt] w (BoolPost true w) := by
  obtain ⟨A0, d0, rfl, hd1, hd2, _⟩ := Sl.form hl
  unfold maxLen at hd2
  have HL := Lib.hid hl
  clear hl
  go_enter Try.func21, Try.ntmps21
  go_wp2_with fail
  refine (awake14 _).mono ?_
  rintro e w1 ⟨rfl, hb1⟩
  replace HL := Lib.hid (HL.out.below hb1)
  have HBW := Lib.hid hb1
  clear hb1
  by_cases hb0 : b < 0
  · go_wp2
    go_ret
    exact ⟨rfl, HBW.out⟩
  by_cases hb1 : 100 < b
  · go_wp2
    go_ret
    exact ⟨rfl, HBW.out⟩
  by_cases hc0 : c < 1
  · go_wp2
    go_ret
    exact ⟨rfl, HBW.out⟩
  by_cases hc1 : 8 < c
  · go_wp2
    go_ret
    exact ⟨rfl, HBW.out⟩
  by_cases h400 : 400 < l.length
  · have h400' : (400 : Int) < (l.length : Int) := by omega
    go_wp2
    go_ret
    exact ⟨rfl, HBW.out⟩
  have n400 : ¬ (400 : Int) < (l.length : Int) := by omega
  obtain ⟨B, rfl⟩ := Int.eq_ofNat_of_zero_le (show 0 ≤ b by omega)
  obtain ⟨C, rfl⟩ := Int.eq_ofNat_of_zero_le (show 0 ≤ c by omega)
  have hB : B ≤ 100 := by omega
  have hC1 : 1 ≤ C := by omega
  have hC : C ≤ 8 := by omega
  go_wp2_with fail
  refine (begun_call hB hC1 hC _).mono ?_
  rintro e w2 ⟨g, p0, lay0, take0, rfl, hp0⟩
  have HP0 := Lib.hid hp0
  clear hp0
  go_wp2_with fail
  go_loopw [9] (fun iv wr => ∃ (i : Nat) (p : Ply) (m : List Int) (L : List (Value × Int)) (D T : Nat) (lay take : FT) (ls ps : Nat), i ≤ l.length ∧ iv = .int .i64 (i : Int) ∧ Hid (PlayI w1.heap.size g w1 wr B C i p m L D T lay take ls ps)) (fun iv _ => l.length - (intOf iv).toNat)
  case atStart => exact ⟨0, p0, _, _, _, _, _, _, _, _, Nat.zero_le _, rfl, HP0⟩
  case round =>
    clear HP0
    obtain ⟨i, p, m, L, D, T, lay, take, ls, ps, hi, rfl, HP⟩ := hrel
    have c81 : wr.cell? ⟨g, 81, none⟩ = some (.bool true) := (HP.out.ply.high 2).trans (by simp [HP.out.ok_is])
    by_cases hlt : i < l.length
    · have hiI : (i : Int) < (l.length : Int) := by omega
      have hi1 : IntKind.i64.wrap ((i : Int) + 1) = (i : Int) + 1 := by rw [IntKind.wrap_i64]; omega
      obtain ⟨bt, ot, hA, _, pt⟩ := (HL.out.below HP.out.below).at_ rfl hlt
      subst hA
      have hi0 : (0 : Int) ≤ (i : Int) := by omega
      have hs : i < 400 := by omega
      cases hcase : l.getD i false
      · rw [hcase] at pt
        clear hcase
        go_wp2_with fail
        refine (taker_call HP.out hB hC1 hC hs).mono ?_
        rintro e w3 ⟨rfl, p', m', L', D', T', lay', take', ls', ps', hp'⟩
        have HQ := Lib.hid hp'
        have HBR := Lib.hid HP.out.below
        obtain ⟨Am, pm, hvm, hvm1, hvm2⟩ := row_form hp'.mem.1.1
        obtain ⟨Al, pl, hvl, hvl1, hvl2⟩ := row_form hp'.laid.row
        unfold maxLen at hvm2 hvl2
        have hml := hp'.law.len
        obtain ⟨M, hM⟩ : ∃ M, M = B + 3 + 6 * C := ⟨_, rfl⟩
        rw [← hM] at hml
        have c0 : w3.cell? ⟨g, 0, none⟩ = some (.slice Am M pm) := (hp'.ply.low 0 (by omega)).trans (by simp [hvm, hml])
        have c4 : w3.cell? ⟨g, 4, none⟩ = some (.slice Al L'.length pl) := (hp'.ply.low 4 (by omega)).trans (by simp [hvl])
        have c5 : w3.cell? ⟨g, 5, none⟩ = some (.int .i64 (D' : Int)) := (hp'.ply.low 5 (by omega)).trans (by simp [hp'.drops_is])
        have c6 : w3.cell? ⟨g, 6, none⟩ = some (.int .i64 (T' : Int)) := (hp'.ply.low 6 (by omega)).trans (by simp [hp'.taken_is])
        have hwm := hp'.mem.words
        rw [hvm] at hwm
        have hfew := hp'.few
        have hsome := hp'.law.some
        rw [List.length_map] at hsome
        obtain ⟨bm, om, hAm, _, q0⟩ := hwm.at_ rfl (show B < m'.length by omega)
        obtain ⟨bm1, om1, hAm1, _, q1⟩ := hwm.at_ rfl (show B + 1 < m'.length by omega)
        obtain ⟨bm2, om2, hAm2, _, q2⟩ := hwm.at_ rfl (show B + 2 < m'.length by omega)
        rw [hp'.law.head] at q0
        rw [hp'.law.tail, List.length_map] at q1
        rw [hp'.law.drops] at q2
        rw [hAm] at hAm1 hAm2
        injection hAm1 with e1
        injection e1 with e1 e2
        subst e1 e2
        injection hAm2 with e1
        injection e1 with e1 e2
        subst e1 e2
        subst hAm
        have hx0 : (B : Int) < (M : Int) := by omega
        have hx1 : (B : Int) + 1 < (M : Int) := by omega
        have hx2 : (B : Int) + 2 < (M : Int) := by omega
        have hb0' : (0 : Int) ≤ (B : Int) := by omega
        have hb1' : (0 : Int) ≤ (B : Int) + 1 := by omega
        have hb2' : (0 : Int) ≤ (B : Int) + 2 := by omega
        have ht1 : ((B : Int) + 1).toNat = B + 1 := by omega
        have ht2 : ((B : Int) + 2).toNat = B + 2 := by omega
        have hwb1 : IntKind.i64.wrap ((B : Int) + 1) = (B : Int) + 1 := by rw [IntKind.wrap_i64]; omega
        have hwb2 : IntKind.i64.wrap ((B : Int) + 2) = (B : Int) + 2 := by rw [IntKind.wrap_i64]; omega
        have hwb3 : IntKind.i64.wrap ((B : Int) + 3) = (B : Int) + 3 := by rw [IntKind.wrap_i64]; omega
        have hw6 : IntKind.i64.wrap (6 * (C : Int)) = 6 * (C : Int) := by rw [IntKind.wrap_i64]; omega
        have hwa : IntKind.i64.wrap ((B : Int) + 3 + 6 * (C : Int)) = (B : Int) + 3 + 6 * (C : Int) := by rw [IntKind.wrap_i64]; omega
        have hT : IntKind.u64.wrap (T' : Int) = (T' : Int) := by rw [IntKind.wrap_u64]; omega
        have hLL : IntKind.u64.wrap (L'.length : Int) = (L'.length : Int) := by rw [IntKind.wrap_u64]; omega
        have hDD : IntKind.u64.wrap (D' : Int) = (D' : Int) := by rw [IntKind.wrap_u64]; omega
        have hnl : ((M : Int) != (B : Int) + 3 + 6 * (C : Int)) = false := by rw [bne_eq_false_iff_eq]; omega
        have hgt : decide (L'.length < T') = false := decide_eq_false (by omega)
        clear hM hp' hvm hvl hml hwm hfew hsome hvm1 hvm2 hvl1 hvl2
        go_wp2_with fail
        go_quiet (fail)
        go_wp2_with fail
        go_quiet (fail)
        go_wp2_with fail
        exact ⟨⟨i + 1, p', m', L', D', T', lay', take', ls', ps', by omega, by go_num, Lib.hid (HQ.out.drewN _)⟩, by simp [intOf]; omega⟩
      · rw [hcase] at pt
        clear hcase
        go_wp2_with fail
        refine (layer_call HP.out hB hC1 hC hs).mono ?_
        rintro e w3 ⟨rfl, p', m', L', D', T', lay', take', ls', ps', hp'⟩
        have HQ := Lib.hid hp'
        have HBR := Lib.hid HP.out.below
        obtain ⟨Am, pm, hvm, hvm1, hvm2⟩ := row_form hp'.mem.1.1
        obtain ⟨Al, pl, hvl, hvl1, hvl2⟩ := row_form hp'.laid.row
        unfold maxLen at hvm2 hvl2
        have hml := hp'.law.len
        obtain ⟨M, hM⟩ : ∃ M, M = B + 3 + 6 * C := ⟨_, rfl⟩
        rw [← hM] at hml
        have c0 : w3.cell? ⟨g, 0, none⟩ = some (.slice Am M pm) := (hp'.ply.low 0 (by omega)).trans (by simp [hvm, hml])
        have c4 : w3.cell? ⟨g, 4, none⟩ = some (.slice Al L'.length pl) := (hp'.ply.low 4 (by omega)).trans (by simp [hvl])
        have c5 : w3.cell? ⟨g, 5, none⟩ = some (.int .i64 (D' : Int)) := (hp'.ply.low 5 (by omega)).trans (by simp [hp'.drops_is])
        have c6 : w3.cell? ⟨g, 6, none⟩ = some (.int .i64 (T' : Int)) := (hp'.ply.low 6 (by omega)).trans (by simp [hp'.taken_is])
        have hwm := hp'.mem.words
        rw [hvm] at hwm
        have hfew := hp'.few
        have hsome := hp'.law.some
        rw [List.length_map] at hsome
        obtain ⟨bm, om, hAm, _, q0⟩ := hwm.at_ rfl (show B < m'.length by omega)
        obtain ⟨bm1, om1, hAm1, _, q1⟩ := hwm.at_ rfl (show B + 1 < m'.length by omega)
        obtain ⟨bm2, om2, hAm2, _, q2⟩ := hwm.at_ rfl (show B + 2 < m'.length by omega)
        rw [hp'.law.head] at q0
        rw [hp'.law.tail, List.length_map] at q1
        rw [hp'.law.drops] at q2
        rw [hAm] at hAm1 hAm2
        injection hAm1 with e1
        injection e1 with e1 e2
        subst e1 e2
        injection hAm2 with e1
        injection e1 with e1 e2
        subst e1 e2
        subst hAm
        have hx0 : (B : Int) < (M : Int) := by omega
        have hx1 : (B : Int) + 1 < (M : Int) := by omega
        have hx2 : (B : Int) + 2 < (M : Int) := by omega
        have hb0' : (0 : Int) ≤ (B : Int) := by omega
        have hb1' : (0 : Int) ≤ (B : Int) + 1 := by omega
        have hb2' : (0 : Int) ≤ (B : Int) + 2 := by omega
        have ht1 : ((B : Int) + 1).toNat = B + 1 := by omega
        have ht2 : ((B : Int) + 2).toNat = B + 2 := by omega
        have hwb1 : IntKind.i64.wrap ((B : Int) + 1) = (B : Int) + 1 := by rw [IntKind.wrap_i64]; omega
        have hwb2 : IntKind.i64.wrap ((B : Int) + 2) = (B : Int) + 2 := by rw [IntKind.wrap_i64]; omega
        have hwb3 : IntKind.i64.wrap ((B : Int) + 3) = (B : Int) + 3 := by rw [IntKind.wrap_i64]; omega
        have hw6 : IntKind.i64.wrap (6 * (C : Int)) = 6 * (C : Int) := by rw [IntKind.wrap_i64]; omega
        have hwa : IntKind.i64.wrap ((B : Int) + 3 + 6 * (C : Int)) = (B : Int) + 3 + 6 * (C : Int) := by rw [IntKind.wrap_i64]; omega
        have hT : IntKind.u64.wrap (T' : Int) = (T' : Int) := by rw [IntKind.wrap_u64]; omega
        have hLL : IntKind.u64.wrap (L'.length : Int) = (L'.length : Int) := by rw [IntKind.wrap_u64]; omega
        have hDD : IntKind.u64.wrap (D' : Int) = (D' : Int) := by rw [IntKind.wrap_u64]; omega
        have hnl : ((M : Int) != (B : Int) + 3 + 6 * (C : Int)) = false := by rw [bne_eq_false_iff_eq]; omega
        have hgt : decide (L'.length < T') = false := decide_eq_false (by omega)
        clear hM hp' hvm hvl hml hwm hfew hsome hvm1 hvm2 hvl1 hvl2
        go_wp2_with fail
        go_quiet (fail)
        go_wp2_with fail
        go_quiet (fail)
        go_wp2_with fail
        exact ⟨⟨i + 1, p', m', L', D', T', lay', take', ls', ps', by omega, by go_num, Lib.hid (HQ.out.drewN _)⟩, by simp [intOf]; omega⟩
    · have hiI : ¬ (i : Int) < (l.length : Int) := by omega
      have HBV := Lib.hid (below_call HBW.out HP.out.below HBW.out.size)
      go_wp2
      go_ret
      exact ⟨rfl, HBV.out⟩
end Go.Proofs.Ytpkelneimjmmkaa

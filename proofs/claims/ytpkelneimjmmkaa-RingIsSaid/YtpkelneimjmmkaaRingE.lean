/- The contracts of the reference's Push and Pop of layer 14. -/
import Derived.Test.YtpkelneimjmmkaaRingD
namespace Go.Proofs.Ytpkelneimjmmkaa
open Go.RowKit

set_option maxHeartbeats 8000000 in
set_option maxRecDepth 20000 in
theorem refPushR_call {v : Value} {ws : List Int} {b c t : Int} {w : World} (ht : I64 t) (h : Words w v ws) : Calls Try.prog 63 #[.int .i64 b, .int .i64 c, .int .i64 t, v] w (InsPost (pushC b c t ws) w) := by
  obtain ⟨B, d, rfl, hd1, hd2, _⟩ := h.1.form
  unfold maxLen at hd2
  have H := Lib.hid h
  clear h
  have ht' := ht
  unfold I64 at ht'
  have HTT := Lib.hid ht
  clear ht
  go_enter Try.func63, Try.ntmps63
  go_wp2_with fail
  refine (refMayR_call b c w).mono ?_
  rintro e w1 ⟨rfl, hb1⟩
  have HB1 := Lib.hid hb1
  clear hb1
  have F : Hid (¬ (mayP b c t ∧ ws.length = 6) → InsPost (pushC b c t ws) w (.returned (.slice none 0 0)) w1) := Lib.hid fun hn => ⟨_, rfl, by unfold pushC; rw [if_neg hn]; exact Inss.nil _, HB1.out⟩
  by_cases hm : ¬ mayR b c
  · rw [decide_eq_false hm]
    have F2 := Lib.hid (F.out (fun h => hm h.1.1))
    clear hm F
    go_wp2
    go_ret
    exact F2.out
  have hm' := Decidable.not_not.1 hm
  rw [decide_eq_true hm']
  by_cases ht0 : t < 0
  · have F2 := Lib.hid (F.out (fun h => by have := h.1.2; omega))
    clear hm hm' F
    go_wp2
    go_ret
    exact F2.out
  by_cases hl6 : ¬ ws.length = 6
  · have hne : ((ws.length : Int) != 6) = true := by
      have : ¬ (ws.length : Int) = 6 := by omega
      simpa using this
    have F2 := Lib.hid (F.out (fun h => hl6 h.2))
    clear hm hm' F
    go_wp2
    go_ret
    exact F2.out
  have hl6' := Decidable.not_not.1 hl6
  have HL6 := Lib.hid hl6'
  have hl6i : (ws.length : Int) = 6 := by omega
  have hmay : mayP b c t := ⟨hm', by omega⟩
  obtain ⟨a1, a2, a3, a4⟩ := atR_in hmay
  have HMAY := Lib.hid hmay
  obtain ⟨m1, m2, m3, m4⟩ := hm'
  have hb1 : IntKind.i64.wrap (b + 1) = b + 1 := by rw [IntKind.wrap_i64]; omega
  have hb2 : IntKind.i64.wrap (b + 2) = b + 2 := by rw [IntKind.wrap_i64]; omega
  have hs1 : IntKind.i64.wrap (t - c) = t - c := by rw [IntKind.wrap_i64]; omega
  have hs2 : IntKind.u64.wrap (t - c) = (t - c) % 18446744073709551616 := by rw [IntKind.wrap_u64]
  have hs3 : IntKind.u64.wrap t = t := by rw [IntKind.wrap_u64]; omega
  have hs4 : IntKind.u64.wrap (t + 1) = t + 1 := by rw [IntKind.wrap_u64]; omega
  have htm : t.tmod c = t % c := Int.tmod_eq_emod_of_nonneg (by omega)
  have hw1 : IntKind.i64.wrap (t % c) = t % c := by rw [IntKind.wrap_i64]; omega
  have hw2 : IntKind.i64.wrap (6 * (t % c)) = 6 * (t % c) := by rw [IntKind.wrap_i64]; omega
  have hw3 : IntKind.i64.wrap (b + 3) = b + 3 := by rw [IntKind.wrap_i64]; omega
  have hw4 : IntKind.i64.wrap (b + 3 + 6 * (t % c)) = atR b c t := by unfold atR; rw [IntKind.wrap_i64]; unfold atR at a3 a4; omega
  have hc0 : ¬ c = 0 := by omega
  have HW5 : Hid (∀ k : Nat, k < 6 → IntKind.i64.wrap (atR b c t + (k : Int)) = atR b c t + (k : Int)) := Lib.hid fun k hk => by rw [IntKind.wrap_i64]; omega
  have HOK : Hid (∀ q, q < 12 → ((pushI b c t ws) q).ok) := Lib.hid fun q hq => pushI_ok HMAY.out HTT.out HL6.out H.out.2 q hq
  have HR0 : Hid (∀ o, o = Obj.cells #[.int .i64 0, .int .i64 b, .int .i64 0, .int .i64 1, .int .u64 0, .int .i64 3, .int .i64 0, .int .i64 0, .int .i64 10, .int .u64 ((t - c) % 18446744073709551616)] 55 → InsRel w1 (tab (0 + 2) (pushI b c t ws)) (.slice (some ⟨w1.heap.size, 0, none⟩) 2 2) (w1.alloc o)) := Lib.hid (fun o ho => by
    subst ho
    have h0 : tab (0 + 2) (pushI b c t ws) = [⟨0, b, 0, 1, 0⟩, ⟨3, 0, 0, 10, (t - c) % 18446744073709551616⟩] := by simp [tab, List.range_succ, pushI]
    refine ⟨⟨?_, ?_⟩, (Below.refl _ w1).alloc (Nat.le_refl _) _⟩
    · rw [h0]
      exact own_new w1 55 5 #[.int .i64 0, .int .i64 b, .int .i64 0, .int .i64 1, .int .u64 0, .int .i64 3, .int .i64 0, .int .i64 0, .int .i64 10, .int .u64 ((t - c) % 18446744073709551616)] 2 rfl (by decide)
    · intro x hx
      obtain ⟨q, hq, rfl⟩ := tab_mem hx
      exact HOK.out q (by omega))
  clear hm hmay F
  go_wp2_with fail
  go_loopw [10, 11] (fun vl q wr => ∃ k : Nat, k ≤ 6 ∧ q = .int .i64 (k : Int) ∧ Hid (InsRel w1 (tab (k + 2) (pushI b c t ws)) vl wr)) (fun _ q _ => 6 - (intOf q).toNat)
  case atStart => exact ⟨0, Nat.zero_le _, rfl, Lib.hid (HR0.out _ rfl)⟩
  case round =>
    clear HR0
    obtain ⟨k, hk, rfl, HR⟩ := hrel
    obtain ⟨A7, c7, hv7⟩ := HR.out.1.form
    rw [tab_len] at hv7
    subst hv7
    by_cases hlt : k < 6
    · have hki : (k : Int) < 6 := by omega
      have hki6 : (k : Int) < ((6 : Nat) : Int) := by omega
      have hwk := HW5.out k hlt
      have hwt : IntKind.i64.wrap (3 + (k : Int)) = 3 + (k : Int) := by rw [IntKind.wrap_i64]; omega
      have hwr : IntKind.i64.wrap (1 + (k : Int)) = 1 + (k : Int) := by rw [IntKind.wrap_i64]; omega
      have hel : (pushI b c t ws) (k + 2) = ⟨1, atR b c t + (k : Int), 0, 3 + (k : Int), ws.getD k 0⟩ := by
        unfold pushI
        rw [if_neg (by omega), if_neg (by omega), if_pos (by omega)]
        simp only [Insn.mk.injEq, true_and, and_true, Nat.add_sub_cancel]
        omega
      have hok := HOK.out (k + 2) (by omega)
      rw [hel] at hok
      have hsucc : tab (k + 1 + 2) (pushI b c t ws) = tab (k + 2) (pushI b c t ws) ++ [⟨1, atR b c t + (k : Int), 0, 3 + (k : Int), ws.getD k 0⟩] := by rw [show k + 1 + 2 = k + 2 + 1 by omega, tab_succ, hel]
      obtain ⟨bb, oo, rfl, _, p0⟩ := (H.out.below (below_call HB1.out HR.out.2 HB1.out.size)).at_ rfl (show k < ws.length by rw [HL6.out]; exact hlt)
      generalize ws.getD k 0 = x at *
      have HOKK := Lib.hid hok
      have HS := Lib.hid hsucc
      clear hok hsucc hel
      go_wp2_with (at_builtin; refine ins_append HR.out [⟨1, atR b c t + (k : Int), 0, 3 + (k : Int), x⟩] (one_ok HOKK.out) (k + 2 + 1) (by rw [tab_len]; rfl) (by omega) rfl _ _ rfl rfl rfl ?_)
      intro A8 c8 w3 R30
      have R3 : Hid (InsRel w1 (tab (k + 1 + 2) (pushI b c t ws)) (.slice A8 (k + 2 + 1) c8) w3) := Lib.hid (by rw [HS.out]; exact R30)
      clear R30
      go_wp2
      go_roundw
      case rel => exact ⟨k + 1, by omega, by go_num, R3⟩
      case measure => simp [intOf]; omega
    · have hki : ¬ (k : Int) < 6 := by omega
      have hke : k = 6 := by omega
      subst hke
      have hlast : tab 12 (pushI b c t ws) = tab (6 + 2) (pushI b c t ws) ++ [⟨1, b + 1, 0, 9, t + 1⟩, ⟨6, 0, 0, 10, 1⟩, ⟨2, b + 2, 0, 11, 1⟩, ⟨6, 0, 0, 12, 0⟩] := by
        simp [tab, List.range_succ, pushI]
      have HOKL : Hid (∀ x ∈ ([⟨1, b + 1, 0, 9, t + 1⟩, ⟨6, 0, 0, 10, 1⟩, ⟨2, b + 2, 0, 11, 1⟩, ⟨6, 0, 0, 12, 0⟩] : List Insn), x.ok) := Lib.hid (fun x hx => by
        have hmem : x ∈ tab 12 (pushI b c t ws) := by rw [hlast]; exact List.mem_append_right _ hx
        obtain ⟨q, hq, rfl⟩ := tab_mem hmem
        exact HOK.out q hq)
      have HS := Lib.hid hlast
      clear hlast
      go_wp2_with (at_builtin; refine ins_append HR.out [⟨1, b + 1, 0, 9, t + 1⟩, ⟨6, 0, 0, 10, 1⟩, ⟨2, b + 2, 0, 11, 1⟩, ⟨6, 0, 0, 12, 0⟩] HOKL.out 12 (by rw [tab_len]; rfl) (by omega) rfl _ _ rfl rfl rfl ?_)
      intro A8 c8 w3 R30
      have FF : Hid (InsPost (pushC b c t ws) w (.returned (.slice A8 12 c8)) w3) := Lib.hid ⟨_, rfl, by unfold pushC; rw [if_pos ⟨HMAY.out, HL6.out⟩, HS.out]; exact R30.1.inss, below_call HB1.out R30.2 HB1.out.size⟩
      clear R30
      go_wp2
      go_ret
      exact FF.out

set_option maxHeartbeats 8000000 in
set_option maxRecDepth 20000 in
theorem refPopR_call {b c t : Int} {w : World} (ht : I64 t) : Calls Try.prog 65 #[.int .i64 b, .int .i64 c, .int .i64 t] w (InsPost (popC b c t) w) := by
  have ht' := ht
  unfold I64 at ht'
  have HTT := Lib.hid ht
  clear ht
  go_enter Try.func65, Try.ntmps65
  go_wp2_with fail
  refine (refMayR_call b c w).mono ?_
  rintro e w1 ⟨rfl, hb1⟩
  have HB1 := Lib.hid hb1
  clear hb1
  have F : Hid (¬ (mayP b c t) → InsPost (popC b c t) w (.returned (.slice none 0 0)) w1) := Lib.hid fun hn => ⟨_, rfl, by unfold popC; rw [if_neg hn]; exact Inss.nil _, HB1.out⟩
  by_cases hm : ¬ mayR b c
  · rw [decide_eq_false hm]
    have F2 := Lib.hid (F.out (fun h => hm h.1))
    clear hm F
    go_wp2
    go_ret
    exact F2.out
  have hm' := Decidable.not_not.1 hm
  rw [decide_eq_true hm']
  by_cases ht0 : t < 0
  · have F2 := Lib.hid (F.out (fun h => by have := h.2; omega))
    clear hm hm' F
    go_wp2
    go_ret
    exact F2.out
  have hmay : mayP b c t := ⟨hm', by omega⟩
  obtain ⟨a1, a2, a3, a4⟩ := atR_in hmay
  have HMAY := Lib.hid hmay
  obtain ⟨m1, m2, m3, m4⟩ := hm'
  have hb1 : IntKind.i64.wrap (b + 1) = b + 1 := by rw [IntKind.wrap_i64]; omega
  have hb2 : IntKind.i64.wrap (b + 2) = b + 2 := by rw [IntKind.wrap_i64]; omega
  have hs1 : IntKind.i64.wrap (t - c) = t - c := by rw [IntKind.wrap_i64]; omega
  have hs2 : IntKind.u64.wrap (t - c) = (t - c) % 18446744073709551616 := by rw [IntKind.wrap_u64]
  have hs3 : IntKind.u64.wrap t = t := by rw [IntKind.wrap_u64]; omega
  have hs4 : IntKind.u64.wrap (t + 1) = t + 1 := by rw [IntKind.wrap_u64]; omega
  have htm : t.tmod c = t % c := Int.tmod_eq_emod_of_nonneg (by omega)
  have hw1 : IntKind.i64.wrap (t % c) = t % c := by rw [IntKind.wrap_i64]; omega
  have hw2 : IntKind.i64.wrap (6 * (t % c)) = 6 * (t % c) := by rw [IntKind.wrap_i64]; omega
  have hw3 : IntKind.i64.wrap (b + 3) = b + 3 := by rw [IntKind.wrap_i64]; omega
  have hw4 : IntKind.i64.wrap (b + 3 + 6 * (t % c)) = atR b c t := by unfold atR; rw [IntKind.wrap_i64]; unfold atR at a3 a4; omega
  have hc0 : ¬ c = 0 := by omega
  have HW5 : Hid (∀ k : Nat, k < 6 → IntKind.i64.wrap (atR b c t + (k : Int)) = atR b c t + (k : Int)) := Lib.hid fun k hk => by rw [IntKind.wrap_i64]; omega
  have HOK : Hid (∀ q, q < 11 → ((popI b c t) q).ok) := Lib.hid fun q hq => popI_ok HMAY.out HTT.out q hq
  have HR0 : Hid (∀ o, o = Obj.cells #[.int .i64 0, .int .i64 (b + 1), .int .i64 0, .int .i64 1, .int .u64 0, .int .i64 3, .int .i64 0, .int .i64 0, .int .i64 10, .int .u64 t] 55 → InsRel w1 (tab (0 + 2) (popI b c t)) (.slice (some ⟨w1.heap.size, 0, none⟩) 2 2) (w1.alloc o)) := Lib.hid (fun o ho => by
    subst ho
    have h0 : tab (0 + 2) (popI b c t) = [⟨0, b + 1, 0, 1, 0⟩, ⟨3, 0, 0, 10, t⟩] := by simp [tab, List.range_succ, popI]
    refine ⟨⟨?_, ?_⟩, (Below.refl _ w1).alloc (Nat.le_refl _) _⟩
    · rw [h0]
      exact own_new w1 55 5 #[.int .i64 0, .int .i64 (b + 1), .int .i64 0, .int .i64 1, .int .u64 0, .int .i64 3, .int .i64 0, .int .i64 0, .int .i64 10, .int .u64 t] 2 rfl (by decide)
    · intro x hx
      obtain ⟨q, hq, rfl⟩ := tab_mem hx
      exact HOK.out q (by omega))
  clear hm hmay F
  go_wp2_with fail
  go_loopw [8, 9] (fun vl q wr => ∃ k : Nat, k ≤ 6 ∧ q = .int .i64 (k : Int) ∧ Hid (InsRel w1 (tab (k + 2) (popI b c t)) vl wr)) (fun _ q _ => 6 - (intOf q).toNat)
  case atStart => exact ⟨0, Nat.zero_le _, rfl, Lib.hid (HR0.out _ rfl)⟩
  case round =>
    clear HR0
    obtain ⟨k, hk, rfl, HR⟩ := hrel
    obtain ⟨A7, c7, hv7⟩ := HR.out.1.form
    rw [tab_len] at hv7
    subst hv7
    by_cases hlt : k < 6
    · have hki : (k : Int) < 6 := by omega
      have hki6 : (k : Int) < ((6 : Nat) : Int) := by omega
      have hwk := HW5.out k hlt
      have hwt : IntKind.i64.wrap (3 + (k : Int)) = 3 + (k : Int) := by rw [IntKind.wrap_i64]; omega
      have hwr : IntKind.i64.wrap (1 + (k : Int)) = 1 + (k : Int) := by rw [IntKind.wrap_i64]; omega
      have hel : (popI b c t) (k + 2) = ⟨0, atR b c t + (k : Int), 1 + (k : Int), 3 + (k : Int), 0⟩ := by
        unfold popI
        rw [if_neg (by omega), if_neg (by omega), if_pos (by omega)]
        simp only [Insn.mk.injEq, true_and, and_true]
        omega
      have hok := HOK.out (k + 2) (by omega)
      rw [hel] at hok
      have hsucc : tab (k + 1 + 2) (popI b c t) = tab (k + 2) (popI b c t) ++ [⟨0, atR b c t + (k : Int), 1 + (k : Int), 3 + (k : Int), 0⟩] := by rw [show k + 1 + 2 = k + 2 + 1 by omega, tab_succ, hel]
      have HOKK := Lib.hid hok
      have HS := Lib.hid hsucc
      clear hok hsucc hel
      go_wp2_with (at_builtin; refine ins_append HR.out [⟨0, atR b c t + (k : Int), 1 + (k : Int), 3 + (k : Int), 0⟩] (one_ok HOKK.out) (k + 2 + 1) (by rw [tab_len]; rfl) (by omega) rfl _ _ rfl rfl rfl ?_)
      intro A8 c8 w3 R30
      have R3 : Hid (InsRel w1 (tab (k + 1 + 2) (popI b c t)) (.slice A8 (k + 2 + 1) c8) w3) := Lib.hid (by rw [HS.out]; exact R30)
      clear R30
      go_wp2
      go_roundw
      case rel => exact ⟨k + 1, by omega, by go_num, R3⟩
      case measure => simp [intOf]; omega
    · have hki : ¬ (k : Int) < 6 := by omega
      have hke : k = 6 := by omega
      subst hke
      have hlast : tab 11 (popI b c t) = tab (6 + 2) (popI b c t) ++ [⟨1, b, 0, 9, t + 1⟩, ⟨6, 0, 0, 10, 1⟩, ⟨6, 0, 0, 11, 0⟩] := by
        simp [tab, List.range_succ, popI]
      have HOKL : Hid (∀ x ∈ ([⟨1, b, 0, 9, t + 1⟩, ⟨6, 0, 0, 10, 1⟩, ⟨6, 0, 0, 11, 0⟩] : List Insn), x.ok) := Lib.hid (fun x hx => by
        have hmem : x ∈ tab 11 (popI b c t) := by rw [hlast]; exact List.mem_append_right _ hx
        obtain ⟨q, hq, rfl⟩ := tab_mem hmem
        exact HOK.out q hq)
      have HS := Lib.hid hlast
      clear hlast
      go_wp2_with (at_builtin; refine ins_append HR.out [⟨1, b, 0, 9, t + 1⟩, ⟨6, 0, 0, 10, 1⟩, ⟨6, 0, 0, 11, 0⟩] HOKL.out 11 (by rw [tab_len]; rfl) (by omega) rfl _ _ rfl rfl rfl ?_)
      intro A8 c8 w3 R30
      have FF : Hid (InsPost (popC b c t) w (.returned (.slice A8 11 c8)) w3) := Lib.hid ⟨_, rfl, by unfold popC; rw [if_pos HMAY.out, HS.out]; exact R30.1.inss, below_call HB1.out R30.2 HB1.out.size⟩
      clear R30
      go_wp2
      go_ret
      exact FF.out
end Go.Proofs.Ytpkelneimjmmkaa

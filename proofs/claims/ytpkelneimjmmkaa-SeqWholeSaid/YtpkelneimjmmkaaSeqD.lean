/- The contract of the reference's Write. -/
import Derived.Test.YtpkelneimjmmkaaSeqC
namespace Go.Proofs.Ytpkelneimjmmkaa
open Go.RowKit

theorem writeI_ok' {b ver : Int} {ws : List Int} (h : mayW b ver ws.length) (hv : I64 ver) (hw : ∀ x ∈ ws, W64 x) (q : Nat) (hq : q < ws.length + 3) : (writeI b ver ws q).ok := writeI_ok h hv hw q hq

set_option maxHeartbeats 4000000 in
set_option maxRecDepth 20000 in
theorem refWrite_call {v : Value} {b ver : Int} {ws : List Int} {w : World} (hv : I64 ver) (h : Words w v ws) :
    Calls Try.prog 51 #[.int .i64 b, .int .i64 ver, v] w (InsPost (writeC b ver ws) w) := by
  obtain ⟨B, d, rfl, hd1, hd2, _⟩ := h.1.form
  unfold maxLen at hd2
  have H := Lib.hid h
  have HV := Lib.hid hv
  have hv' := hv
  unfold I64 at hv'
  clear h hv
  go_enter Try.func51, Try.ntmps51
  go_wp2_with fail
  refine (refMay_call b (ws.length : Int) w).mono ?_
  rintro e w1 ⟨rfl, hb1⟩
  have HB1 := Lib.hid hb1
  clear hb1
  have F : Hid (¬ mayW b ver ws.length → InsPost (writeC b ver ws) w (.returned (.slice none 0 0)) w1) := Lib.hid fun hn => ⟨_, rfl, by unfold writeC; rw [if_neg hn]; exact Inss.nil _, HB1.out⟩
  by_cases hmb : ¬ mayB b (ws.length : Int)
  · rw [decide_eq_false hmb]
    have F2 := Lib.hid (F.out (fun h => hmb (mayW_iff.1 h).1))
    clear hmb F
    go_wp2
    go_ret
    exact F2.out
  have hmb' := Decidable.not_not.1 hmb
  rw [decide_eq_true hmb']
  by_cases hv0 : ver < 0
  · have F2 := Lib.hid (F.out (fun h => by have := (mayW_iff.1 h).2.1; omega))
    clear hmb hmb' F
    go_wp2
    go_ret
    exact F2.out
  have htm : ver.tmod 2 = ver % 2 := Int.tmod_eq_emod_of_nonneg (by omega)
  have hwt : IntKind.i64.wrap (ver % 2) = ver % 2 := by rw [IntKind.wrap_i64]; omega
  by_cases hev : ¬ ver % 2 = 0
  · have hne : ver % 2 = 1 := by omega
    rw [hne] at htm hwt
    have F2 := Lib.hid (F.out (fun h => hev (mayW_iff.1 h).2.2))
    clear hmb hmb' F
    go_wp2
    go_ret
    exact F2.out
  have hev' := Decidable.not_not.1 hev
  have hmay : mayW b ver ws.length := mayW_iff.2 ⟨hmb', by omega, hev'⟩
  have hm' := hmay
  obtain ⟨m1, m2, m3, m4, m5, m6⟩ := hm'
  have HMAY := Lib.hid hmay
  have hc1 : IntKind.u64.wrap ver = ver := by rw [IntKind.wrap_u64]; omega
  have hc2 : IntKind.u64.wrap (ver + 1) = ver + 1 := by rw [IntKind.wrap_u64]; omega
  have hc3 : IntKind.u64.wrap (ver + 2) = ver + 2 := by rw [IntKind.wrap_u64]; omega
  have hb1 : IntKind.i64.wrap (b + 1) = b + 1 := by rw [IntKind.wrap_i64]; omega
  rw [hev'] at htm
  have HW64 := Lib.hid H.out.2
  have hlen : (ws.length : Int) ≤ 28 := by omega
  have H1 := Lib.hid (H.out.below HB1.out)
  have HR0 : Hid (∀ o, o = Obj.cells #[.int .i64 1, .int .i64 b, .int .i64 0, .int .i64 1, .int .u64 (ver + 1)] 55 → InsRel w1 (tab 1 (writeI b ver ws)) (.slice (some ⟨w1.heap.size, 0, none⟩) 1 1) (w1.alloc o)) := Lib.hid (fun o ho => by
    subst ho
    have h0 : tab 1 (writeI b ver ws) = [⟨1, b, 0, 1, ver + 1⟩] := by simp [tab, writeI]
    refine ⟨⟨?_, ?_⟩, (Below.refl _ w1).alloc (Nat.le_refl _) _⟩
    · rw [h0]
      exact own_new w1 55 5 #[.int .i64 1, .int .i64 b, .int .i64 0, .int .i64 1, .int .u64 (ver + 1)] 1 rfl (by decide)
    · intro x hx
      obtain ⟨q, hq, rfl⟩ := tab_mem hx
      exact writeI_ok' HMAY.out HV.out HW64.out q (by omega))
  clear hmb hmb' hev F hev' hmay
  go_wp2_with fail
  go_loopw [7, 8] (fun v7 i wr => ∃ k : Nat, k ≤ ws.length ∧ i = .int .i64 (k : Int) ∧ Hid (InsRel w1 (tab (k + 1) (writeI b ver ws)) v7 wr)) (fun _ i _ => ws.length - (intOf i).toNat)
  case atStart => exact ⟨0, Nat.zero_le _, rfl, Lib.hid (HR0.out _ rfl)⟩
  case round =>
    clear HR0
    obtain ⟨k, hk, rfl, HR⟩ := hrel
    obtain ⟨A7, c7, hv7⟩ := HR.out.1.form
    rw [tab_len] at hv7
    subst hv7
    by_cases hlt : k < ws.length
    · have hki : (k : Int) < (ws.length : Int) := by omega
      obtain ⟨bb, oo, rfl, _, p0⟩ := (H1.out.below HR.out.2).at_ rfl hlt
      have hraw : writeI b ver ws (k + 1) = ⟨1, b + 1 + (k : Int), 0, 2 + (k : Int), ws.getD k 0⟩ := by
        unfold writeI
        rw [if_neg (by omega), if_pos (by omega)]
        simp only [Insn.mk.injEq, true_and, Nat.add_sub_cancel, and_true]
        constructor <;> omega
      have hw1 : IntKind.i64.wrap (b + 1 + (k : Int)) = b + 1 + (k : Int) := by rw [IntKind.wrap_i64]; omega
      have hw2 : IntKind.i64.wrap (2 + (k : Int)) = 2 + (k : Int) := by rw [IntKind.wrap_i64]; omega
      have hok : ∀ x ∈ ([⟨1, b + 1 + (k : Int), 0, 2 + (k : Int), ws.getD k 0⟩] : List Insn), x.ok := by
        intro x hx
        simp at hx
        rw [hx]
        have := writeI_ok' HMAY.out HV.out HW64.out (k + 1) (by omega)
        rw [hraw] at this
        simpa using this
      have hsucc : tab (k + 1 + 1) (writeI b ver ws) = tab (k + 1) (writeI b ver ws) ++ [⟨1, b + 1 + (k : Int), 0, 2 + (k : Int), ws.getD k 0⟩] := by rw [tab_succ, hraw]
      generalize ws.getD k 0 = x at *
      have HOK := Lib.hid hok
      have HS := Lib.hid hsucc
      clear hraw hok hsucc
      go_wp2_with (at_builtin; refine ins_append HR.out [⟨1, b + 1 + (k : Int), 0, 2 + (k : Int), x⟩] HOK.out (k + 1 + 1) (by rw [tab_len]; rfl) (by omega) rfl _ _ rfl rfl rfl ?_)
      intro A8 c8 w3 R30
      have R3 := Lib.hid R30
      clear R30
      rw [← HS.out] at R3
      go_wp2
      go_roundw
      case rel => exact ⟨k + 1, by omega, by go_num, R3⟩
      case measure => simp [intOf]; omega
    · have hki : ¬ (k : Int) < (ws.length : Int) := by omega
      have hke : k = ws.length := by omega
      subst hke
      have hok : ∀ x ∈ ([⟨1, b, 0, (ws.length : Int) + 2, ver + 2⟩, ⟨6, 0, 0, (ws.length : Int) + 3, 1⟩] : List Insn), x.ok := by
        intro x hx
        simp at hx
        rcases hx with rfl | rfl
        · exact ⟨by simp [I64], by simp only [I64]; omega, by simp [I64], by simp only [I64]; omega, by simp only [W64]; omega⟩
        · exact ⟨by simp [I64], by simp [I64], by simp [I64], by simp only [I64]; omega, by simp [W64]⟩
      have hw3 : IntKind.i64.wrap ((ws.length : Int) + 2) = (ws.length : Int) + 2 := by rw [IntKind.wrap_i64]; omega
      have hw4 : IntKind.i64.wrap ((ws.length : Int) + 3) = (ws.length : Int) + 3 := by rw [IntKind.wrap_i64]; omega
      have hsucc : tab (ws.length + 3) (writeI b ver ws) = tab (ws.length + 1) (writeI b ver ws) ++ [⟨1, b, 0, (ws.length : Int) + 2, ver + 2⟩, ⟨6, 0, 0, (ws.length : Int) + 3, 1⟩] := by
        rw [tab_succ, tab_succ, List.append_assoc]
        congr 1
        unfold writeI
        rw [if_neg (by omega), if_neg (by omega), if_pos rfl, if_neg (by omega), if_neg (by omega), if_neg (by omega)]
        rfl
      have HOK := Lib.hid hok
      have HS := Lib.hid hsucc
      clear hok hsucc
      go_wp2_with (at_builtin; refine ins_append HR.out [⟨1, b, 0, (ws.length : Int) + 2, ver + 2⟩, ⟨6, 0, 0, (ws.length : Int) + 3, 1⟩] HOK.out (ws.length + 3) (by rw [tab_len]; rfl) (by omega) rfl _ _ rfl rfl rfl ?_)
      intro A8 c8 w3 R30
      have R3 := Lib.hid R30
      clear R30
      rw [← HS.out] at R3
      have F : Hid (InsPost (writeC b ver ws) w (.returned (.slice A8 (ws.length + 3) c8)) w3) := Lib.hid (by
        refine ⟨_, rfl, ?_, below_call HB1.out R3.out.2 HB1.out.size⟩
        unfold writeC
        rw [if_pos HMAY.out]
        exact R3.out.1.inss)
      go_wp2
      go_ret
      exact F.out
end Go.Proofs.Ytpkelneimjmmkaa

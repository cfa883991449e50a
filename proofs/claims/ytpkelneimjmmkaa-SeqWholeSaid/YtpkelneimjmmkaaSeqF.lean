/- The contract of the reference's Try. -/
import Derived.Test.YtpkelneimjmmkaaSeqE
namespace Go.Proofs.Ytpkelneimjmmkaa
open Go.RowKit

set_option maxHeartbeats 8000000 in
set_option maxRecDepth 20000 in
theorem refTry_call (b n k : Int) (w : World) : Calls Try.prog 53 #[.int .i64 b, .int .i64 n, .int .i64 k] w (InsPost (tryC b n k) w) := by
  go_enter Try.func53, Try.ntmps53
  go_wp2_with fail
  refine (refMay_call b n w).mono ?_
  rintro e w1 ⟨rfl, hb1⟩
  have HB1 := Lib.hid hb1
  clear hb1
  have FF : Hid (¬ mayT b n k → InsPost (tryC b n k) w (.returned (.slice none 0 0)) w1) := Lib.hid fun hn => ⟨_, rfl, by unfold tryC; rw [if_neg hn]; exact Inss.nil _, HB1.out⟩
  by_cases hmb : ¬ mayB b n
  · rw [decide_eq_false hmb]
    have F2 := Lib.hid (FF.out (fun h => hmb (mayT_iff.1 h).1))
    clear hmb FF
    go_wp2
    go_ret
    exact F2.out
  have hmb' := Decidable.not_not.1 hmb
  rw [decide_eq_true hmb']
  by_cases hk1 : k < 1
  · have F2 := Lib.hid (FF.out (fun h => by have := (mayT_iff.1 h).2.1; omega))
    clear hmb hmb' FF
    go_wp2
    go_ret
    exact F2.out
  by_cases hk6 : 6 < k
  · have F2 := Lib.hid (FF.out (fun h => by have := (mayT_iff.1 h).2.2; omega))
    clear hmb hmb' FF
    go_wp2
    go_ret
    exact F2.out
  have hmay : mayT b n k := mayT_iff.2 ⟨hmb', by omega, by omega⟩
  obtain ⟨m1, m2, m3, m4, m5, m6⟩ := hmay
  clear hmb hmb' FF
  obtain ⟨N, rfl⟩ := Int.eq_ofNat_of_zero_le (show 0 ≤ n by omega)
  obtain ⟨K, rfl⟩ := Int.eq_ofNat_of_zero_le (show 0 ≤ k by omega)
  have hN : N ≤ 28 := by omega
  have hK : K ≤ 6 := by omega
  have HMAY : Hid (mayT b (N : Int) (K : Int)) := Lib.hid ⟨m1, m2, m3, m4, m5, m6⟩
  obtain ⟨E, hE⟩ : ∃ E, E = K * (N + 4) := ⟨_, rfl⟩
  have hE192 : E ≤ 192 := by rw [hE]; exact try_size hN hK
  have hEm : IntKind.i64.wrap ((K : Int) * ((N : Int) + 4)) = (E : Int) := by
    have : (K : Int) * ((N : Int) + 4) = (E : Int) := by rw [hE]; push_cast; rfl
    rw [this, IntKind.wrap_i64]; omega
  have hE1 : IntKind.i64.wrap ((E : Int) + 1) = (E : Int) + 1 := by rw [IntKind.wrap_i64]; omega
  have hE2 : IntKind.i64.wrap ((E : Int) + 2) = (E : Int) + 2 := by rw [IntKind.wrap_i64]; omega
  have hN4 : IntKind.i64.wrap ((N : Int) + 4) = (N : Int) + 4 := by rw [IntKind.wrap_i64]; omega
  have hbw : IntKind.i64.wrap (b + 1) = b + 1 := by rw [IntKind.wrap_i64]; omega
  have HOK : Hid (∀ q, q < E + 2 → (tryI b N K q).ok) := Lib.hid fun q hq => (tryI_ok m1 m2 hN hK (by rw [← hE]; exact hq))
  have HE := Lib.hid hE
  clear hE
  go_wp2_with fail
  go_loopw [7, 9] (fun v7 q wr => ∃ i p : Nat, i ≤ K ∧ p ≤ E ∧ q = .int .i64 (i : Int) ∧ Hid (p = i * (N + 4)) ∧ Hid (InsRel w1 (tab p (tryI b N K)) v7 wr)) (fun _ q _ => K - (intOf q).toNat)
  case atStart => exact ⟨0, 0, Nat.zero_le _, Nat.zero_le _, rfl, Lib.hid (by simp), Lib.hid ⟨by simpa [tab] using OwnI.nil w1 _, Below.refl _ _⟩⟩
  case round =>
    obtain ⟨i, p, hi, hpE, rfl, HP, HR⟩ := hrel
    obtain ⟨A7, c7, hv7⟩ := HR.out.1.form
    rw [tab_len] at hv7
    subst hv7
    by_cases hlt : i < K
    · have hiK : (i : Int) < (K : Int) := by omega
      obtain ⟨hnx1, hnx2⟩ := look_next HP.out HE.out hlt
      have HNX := Lib.hid hnx1
      have hi1 : IntKind.i64.wrap ((i : Int) + 1) = (i : Int) + 1 := by rw [IntKind.wrap_i64]; omega
      have him : IntKind.i64.wrap (((i : Int) + 1) * ((N : Int) + 4)) = (p : Int) + ((N : Int) + 4) := by
        have : ((i : Int) + 1) * ((N : Int) + 4) = (p : Int) + ((N : Int) + 4) := by
          rw [HP.out, Int.add_mul, Int.one_mul]; push_cast; rfl
        rw [this, IntKind.wrap_i64]; omega
      have hp1 : IntKind.i64.wrap ((p : Int) + 1) = (p : Int) + 1 := by rw [IntKind.wrap_i64]; omega
      have hf0 : tryI b N K p = ⟨0, b, 0, (p : Int) + 1, 0⟩ := by rw [tryI_0 b HP.out hlt]
      have hf1 : tryI b N K (p + 1) = ⟨4, 0, 0, (p : Int) + ((N : Int) + 4), 0⟩ := by rw [tryI_1 b HP.out hlt]
      have hok0 := HOK.out p (by omega)
      have hok1 := HOK.out (p + 1) (by omega)
      rw [hf0] at hok0
      rw [hf1] at hok1
      have H0 := Lib.hid hf0
      have H1 := Lib.hid hf1
      have HK0 := Lib.hid hok0
      have HK1 := Lib.hid hok1
      clear hf0 hf1 hok0 hok1 hnx1
      go_wp2_with (at_builtin; refine ins_append HR.out [⟨0, b, 0, (p : Int) + 1, 0⟩] (one_ok HK0.out) (p + 1) (by rw [tab_len]; rfl) (by omega) rfl _ _ rfl rfl rfl ?_)
      intro A8 c8 w3 R30
      have R3 := Lib.hid R30
      clear R30
      have R3' : Hid (InsRel w1 (tab (p + 1) (tryI b N K)) (.slice A8 (p + 1) c8) w3) := Lib.hid (by
        rw [tab_succ, H0.out]
        exact R3.out)
      clear R3
      go_wp2_with (at_builtin; refine ins_append R3'.out [⟨4, 0, 0, (p : Int) + ((N : Int) + 4), 0⟩] (one_ok HK1.out) (p + 1 + 1) (by rw [tab_len]; rfl) (by omega) rfl _ _ rfl rfl rfl ?_)
      intro A9 c9 w4 R50
      have R5 := Lib.hid R50
      clear R50
      have R4 : Hid (InsRel w1 (tab (p + 2 + 0) (tryI b N K)) (.slice A9 (p + 1 + 1) c9) w4) := Lib.hid (by
        show InsRel w1 (tab (p + 1 + 1) _) _ _
        rw [tab_succ, H1.out]
        exact R5.out)
      clear R3' R5 HR
      go_wp2_with fail
      go_loopw [7, 10] (fun v7 q wr => ∃ j : Nat, j ≤ N ∧ q = .int .i64 (j : Int) ∧ Hid (InsRel w1 (tab (p + 2 + j) (tryI b N K)) v7 wr)) (fun _ q _ => N - (intOf q).toNat)
      case atStart => exact ⟨0, Nat.zero_le _, rfl, R4⟩
      case round =>
        clear R4
        obtain ⟨j, hj, rfl, HR⟩ := hrel
        obtain ⟨A7, c7, hv7⟩ := HR.out.1.form
        rw [tab_len] at hv7
        subst hv7
        by_cases hjn : j < N
        · have hji : (j : Int) < (N : Int) := by omega
          have hj1 : IntKind.i64.wrap (b + 1 + (j : Int)) = b + 1 + (j : Int) := by rw [IntKind.wrap_i64]; omega
          have hj2 : IntKind.i64.wrap (1 + (j : Int)) = 1 + (j : Int) := by rw [IntKind.wrap_i64]; omega
          have hj3 : IntKind.i64.wrap (((p + 2 + j : Nat) : Int) + 1) = (p : Int) + 2 + (j : Int) + 1 := by rw [IntKind.wrap_i64]; omega
          have hj4 : IntKind.i64.wrap ((p : Int) + 2 + (j : Int) + 1) = (p : Int) + 2 + (j : Int) + 1 := by rw [IntKind.wrap_i64]; omega
          have hf0 : tryI b N K (p + 2 + j) = ⟨0, b + 1 + (j : Int), 1 + (j : Int), (p : Int) + 2 + (j : Int) + 1, 0⟩ := by rw [tryI_w b HP.out hlt hjn]
          have hok0 := HOK.out (p + 2 + j) (by omega)
          rw [hf0] at hok0
          have HH := Lib.hid hf0
          have HKK := Lib.hid hok0
          clear hf0 hok0
          go_wp2_with (at_builtin; refine ins_append HR.out [⟨0, b + 1 + (j : Int), 1 + (j : Int), (p : Int) + 2 + (j : Int) + 1, 0⟩] (one_ok HKK.out) (p + 2 + j + 1) (by rw [tab_len]; rfl) (by omega) rfl _ _ rfl rfl rfl ?_)
          intro A8 c8' w5 R60
          have R6 := Lib.hid R60
          clear R60
          have R7 : Hid (InsRel w1 (tab (p + 2 + (j + 1)) (tryI b N K)) (.slice A8 (p + 2 + j + 1) c8') w5) := Lib.hid (by
            show InsRel w1 (tab (p + 2 + j + 1) _) _ _
            rw [tab_succ, HH.out]
            exact R6.out)
          clear R6
          go_wp2
          go_roundw
          case rel => exact ⟨j + 1, by omega, by go_num, R7⟩
          case measure => simp [intOf]; omega
        · have hji : ¬ (j : Int) < (N : Int) := by omega
          have hje : j = N := by omega
          subst hje
          have hj3 : IntKind.i64.wrap (((p + 2 + j : Nat) : Int) + 1) = (p : Int) + 2 + (j : Int) + 1 := by rw [IntKind.wrap_i64]; omega
          have hj4 : IntKind.i64.wrap ((p : Int) + 2 + (j : Int) + 1) = (p : Int) + 2 + (j : Int) + 1 := by rw [IntKind.wrap_i64]; omega
          have hf0 : tryI b j K (p + 2 + j) = ⟨0, b, 31, (p : Int) + 2 + (j : Int) + 1, 0⟩ := by rw [tryI_a b HP.out hlt]
          have hf1 : tryI b j K (p + 2 + j + 1) = ⟨5, 0, 31, (E : Int) + 1, 0⟩ := by rw [tryI_l b HP.out HE.out hlt]
          have hok0 := HOK.out (p + 2 + j) (by omega)
          have hok1 := HOK.out (p + 2 + j + 1) (by omega)
          rw [hf0] at hok0
          rw [hf1] at hok1
          have H2 := Lib.hid hf0
          have H3 := Lib.hid hf1
          have HK2 := Lib.hid hok0
          have HK3 := Lib.hid hok1
          clear hf0 hf1 hok0 hok1
          go_wp2_with (at_builtin; refine ins_append HR.out [⟨0, b, 31, (p : Int) + 2 + (j : Int) + 1, 0⟩] (one_ok HK2.out) (p + 2 + j + 1) (by rw [tab_len]; rfl) (by omega) rfl _ _ rfl rfl rfl ?_)
          intro A8 c8' w5 R60
          have R6 := Lib.hid R60
          clear R60
          have R6' : Hid (InsRel w1 (tab (p + 2 + j + 1) (tryI b j K)) (.slice A8 (p + 2 + j + 1) c8') w5) := Lib.hid (by
            rw [tab_succ, H2.out]
            exact R6.out)
          clear R6
          go_wp2_with (at_builtin; refine ins_append R6'.out [⟨5, 0, 31, (E : Int) + 1, 0⟩] (one_ok HK3.out) (p + 2 + j + 1 + 1) (by rw [tab_len]; rfl) (by omega) rfl _ _ rfl rfl rfl ?_)
          intro A9 c9' w6 R80
          have R8 := Lib.hid R80
          clear R80
          have R7 : Hid (InsRel w1 (tab (p + (j + 4)) (tryI b j K)) (.slice A9 (p + 2 + j + 1 + 1) c9') w6) := Lib.hid (by
            rw [show p + (j + 4) = p + 2 + j + 1 + 1 by omega, tab_succ, H3.out]
            exact R8.out)
          clear R6' R8
          go_wp2
          go_roundw
          case rel => exact ⟨i + 1, p + (j + 4), by omega, hnx2, by go_num, HNX, R7⟩
          case measure => simp [intOf]; omega
    · have hiK : ¬ (i : Int) < (K : Int) := by omega
      have hie : i = K := by omega
      have hpe : p = E := by rw [HP.out, HE.out, hie]
      subst hpe
      have hf0 : tryI b N K p = ⟨6, 0, 0, (p : Int) + 1, 0⟩ := by rw [(tryI_e b HE.out).1]
      have hf1 : tryI b N K (p + 1) = ⟨6, 0, 0, (p : Int) + 2, 1⟩ := by rw [(tryI_e b HE.out).2]
      have hok0 := HOK.out p (by omega)
      have hok1 := HOK.out (p + 1) (by omega)
      rw [hf0] at hok0
      rw [hf1] at hok1
      have H0 := Lib.hid hf0
      have H1 := Lib.hid hf1
      have HK0 := Lib.hid hok0
      have HK1 := Lib.hid hok1
      clear hf0 hf1 hok0 hok1
      go_wp2_with (at_builtin; refine ins_append HR.out [⟨6, 0, 0, (p : Int) + 1, 0⟩, ⟨6, 0, 0, (p : Int) + 2, 1⟩] (two_ok HK0.out HK1.out) (p + 1 + 1) (by rw [tab_len]; rfl) (by omega) rfl _ _ rfl rfl rfl ?_)
      intro A8 c8 w3 R30
      have R3 := Lib.hid R30
      clear R30
      have R4 : Hid (InsRel w1 (tab (p + 2) (tryI b N K)) (.slice A8 (p + 1 + 1) c8) w3) := Lib.hid (by
        show InsRel w1 (tab (p + 1 + 1) _) _ _
        rw [tab_succ, tab_succ, H0.out, H1.out, List.append_assoc]
        exact R3.out)
      clear R3
      have F : Hid (InsPost (tryC b (N : Int) (K : Int)) w (.returned (.slice A8 (p + 1 + 1) c8)) w3) := Lib.hid (by
        refine ⟨_, rfl, ?_, below_call HB1.out R4.out.2 HB1.out.size⟩
        have := R4.out.1.inss
        unfold tryC
        rw [if_pos HMAY.out, Int.toNat_natCast, Int.toNat_natCast]
        unfold tryL
        rw [← HE.out]
        exact this)
      go_wp2
      go_ret
      exact F.out
end Go.Proofs.Ytpkelneimjmmkaa

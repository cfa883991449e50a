/- The contract of seq.Try. -/
import Derived.Test.YtpkelneimjmmkaaSeqD
namespace Go.Proofs.Ytpkelneimjmmkaa
open Go.RowKit

/-- An instruction that does not say where it goes. -/
def strip (x : Insn) : Insn := if x.k = 4 ∨ x.k = 5 then x else { x with to := 0 }
def rawT (b : Int) (n k q : Nat) : Insn := strip (tryI b n k q)
theorem strip_ok {x : Insn} (h : x.ok) : (strip x).ok := by
  unfold strip
  split
  · exact h
  · exact ⟨h.1, h.2.1, h.2.2.1, by simp [I64], h.2.2.2.2⟩
theorem rawT_on (b : Int) (n k : Nat) : onL (tab (k * (n + 4) + 2) (rawT b n k)) = tryL b n k := by
  refine onL_tab fun q hq => ?_
  by_cases h : q < k * (n + 4)
  · obtain ⟨i, r, hi, hr, rfl⟩ := try_split h
    unfold rawT
    rw [tryI_look b hi hr]
    have h1 := look_lt hi hr
    generalize k * (n + 4) = e at *
    generalize i * (n + 4) = p at *
    unfold lookI strip onI
    split
    · rename_i h0; subst h0; simp
    · split
      · rename_i h0; subst h0; simp; omega
      · split
        · simp
        · split
          · first | (simp; done) | (simp; omega)
          · first | (simp; done) | (simp; omega)
  · generalize he : k * (n + 4) = e at *
    unfold rawT tryI strip onI
    rw [he, if_neg h]
    split
    · rename_i h0; subst h0; simp
    · first | (simp; done) | (simp; omega)
theorem tryI_ok {b : Int} {n k : Nat} (hb : 0 ≤ b) (hb' : b ≤ 255) (hn : n ≤ 28) (hk : k ≤ 6) {q : Nat} (hq : q < k * (n + 4) + 2) : (tryI b n k q).ok := by
  have := tryL_ok hb hb' hn hk (tryI b n k q)
  refine this ?_
  unfold tryL tab
  exact List.mem_map.2 ⟨q, List.mem_range.2 hq, rfl⟩
theorem mayT_iff {b n k : Int} : mayT b n k ↔ mayB b n ∧ 1 ≤ k ∧ k ≤ 6 := by unfold mayT mayB; omega
theorem tryI_0 (b : Int) {n k i p : Nat} (hp : p = i * (n + 4)) (hi : i < k) : tryI b n k p = ⟨0, b, 0, (p : Int) + 1, 0⟩ := by
  have := tryI_look b (n := n) (r := 0) hi (by omega)
  rw [Nat.add_zero, ← hp] at this
  rw [this]; unfold lookI; rw [if_pos rfl]
theorem tryI_1 (b : Int) {n k i p : Nat} (hp : p = i * (n + 4)) (hi : i < k) : tryI b n k (p + 1) = ⟨4, 0, 0, (p : Int) + ((n : Int) + 4), 0⟩ := by
  have := tryI_look b (n := n) (r := 1) hi (by omega)
  rw [← hp] at this
  rw [this]; unfold lookI; rw [if_neg (by omega), if_pos rfl]
theorem tryI_w (b : Int) {n k i p j : Nat} (hp : p = i * (n + 4)) (hi : i < k) (hj : j < n) : tryI b n k (p + 2 + j) = ⟨0, b + 1 + (j : Int), 1 + (j : Int), (p : Int) + 2 + (j : Int) + 1, 0⟩ := by
  have := tryI_look b (n := n) (r := 2 + j) hi (by omega)
  rw [← hp, ← Nat.add_assoc] at this
  rw [this]; unfold lookI; rw [if_neg (by omega), if_neg (by omega), if_pos (by omega)]
  simp only [Insn.mk.injEq, true_and, and_true]
  refine ⟨by omega, by omega, by omega⟩
theorem tryI_a (b : Int) {n k i p : Nat} (hp : p = i * (n + 4)) (hi : i < k) : tryI b n k (p + 2 + n) = ⟨0, b, 31, (p : Int) + 2 + (n : Int) + 1, 0⟩ := by
  have := tryI_look b (n := n) (r := n + 2) hi (by omega)
  rw [← hp, show p + (n + 2) = p + 2 + n by omega] at this
  rw [this]; unfold lookI; rw [if_neg (by omega), if_neg (by omega), if_neg (by omega), if_pos rfl]
  simp only [Insn.mk.injEq, true_and, and_true]
  omega
theorem tryI_l (b : Int) {n k i p e : Nat} (hp : p = i * (n + 4)) (he : e = k * (n + 4)) (hi : i < k) : tryI b n k (p + 2 + n + 1) = ⟨5, 0, 31, (e : Int) + 1, 0⟩ := by
  have := tryI_look b (n := n) (r := n + 3) hi (by omega)
  rw [← hp, show p + (n + 3) = p + 2 + n + 1 by omega, ← he] at this
  rw [this]; unfold lookI; rw [if_neg (by omega), if_neg (by omega), if_neg (by omega), if_neg (by omega)]
theorem tryI_e (b : Int) {n k e : Nat} (he : e = k * (n + 4)) : tryI b n k e = ⟨6, 0, 0, (e : Int) + 1, 0⟩ ∧ tryI b n k (e + 1) = ⟨6, 0, 0, (e : Int) + 2, 1⟩ := by
  unfold tryI
  rw [← he]
  exact ⟨by rw [if_neg (by omega), if_pos rfl], by rw [if_neg (by omega), if_neg (by omega)]⟩
/-- Where the next look begins. -/
theorem look_next {n k i p e : Nat} (hp : p = i * (n + 4)) (he : e = k * (n + 4)) (hi : i < k) : p + (n + 4) = (i + 1) * (n + 4) ∧ p + (n + 4) ≤ e := by
  have h1 : (i + 1) * (n + 4) = i * (n + 4) + (n + 4) := Nat.succ_mul _ _
  have h2 : (i + 1) * (n + 4) ≤ k * (n + 4) := Nat.mul_le_mul_right _ hi
  omega

set_option maxHeartbeats 8000000 in
set_option maxRecDepth 20000 in
theorem try_own (b n k : Int) (w : World) : Calls Try.prog 52 #[.int .i64 b, .int .i64 n, .int .i64 k] w (InsOwn (tryC b n k) w) := by
  go_enter Try.func52, Try.ntmps52
  go_wp2_with fail
  refine (may_call b n w).mono ?_
  rintro e w1 ⟨rfl, hb1⟩
  have HB1 := Lib.hid hb1
  clear hb1
  have FF : Hid (¬ mayT b n k → InsOwn (tryC b n k) w (.returned (.slice none 0 0)) w1) := Lib.hid fun hn => ⟨_, rfl, by unfold tryC; rw [if_neg hn]; exact OwnI.nil _ _, HB1.out⟩
  by_cases hmb : ¬ mayB b n
  · rw [decide_eq_false hmb]
    have F2 := Lib.hid (FF.out (fun h => hmb (mayT_iff.1 h).1))
    clear hmb FF
    go_wp2
    go_ret
    exact F2.out
  have hmb' := Decidable.not_not.1 hmb
  rw [decide_eq_true hmb']
  by_cases hk1 : k < 1
  · have F2 := Lib.hid (FF.out (fun h => by have := (mayT_iff.1 h).2.1; omega))
    clear hmb hmb' FF
    go_wp2
    go_ret
    exact F2.out
  by_cases hk6 : 6 < k
  · have F2 := Lib.hid (FF.out (fun h => by have := (mayT_iff.1 h).2.2; omega))
    clear hmb hmb' FF
    go_wp2
    go_ret
    exact F2.out
  have hmay : mayT b n k := mayT_iff.2 ⟨hmb', by omega, by omega⟩
  obtain ⟨m1, m2, m3, m4, m5, m6⟩ := hmay
  clear hmb hmb' FF
  obtain ⟨N, rfl⟩ := Int.eq_ofNat_of_zero_le (show 0 ≤ n by omega)
  obtain ⟨K, rfl⟩ := Int.eq_ofNat_of_zero_le (show 0 ≤ k by omega)
  have hN : N ≤ 28 := by omega
  have hK : K ≤ 6 := by omega
  have HMAY : Hid (mayT b (N : Int) (K : Int)) := Lib.hid ⟨m1, m2, m3, m4, m5, m6⟩
  obtain ⟨E, hE⟩ : ∃ E, E = K * (N + 4) := ⟨_, rfl⟩
  have hE192 : E ≤ 192 := by rw [hE]; exact try_size hN hK
  have hEm : IntKind.i64.wrap ((K : Int) * ((N : Int) + 4)) = (E : Int) := by
    have : (K : Int) * ((N : Int) + 4) = (E : Int) := by rw [hE]; push_cast; rfl
    rw [this, IntKind.wrap_i64]; omega
  have hE1 : IntKind.i64.wrap ((E : Int) + 1) = (E : Int) + 1 := by rw [IntKind.wrap_i64]; omega
  have hE2 : IntKind.i64.wrap ((E : Int) + 2) = (E : Int) + 2 := by rw [IntKind.wrap_i64]; omega
  have hN4 : IntKind.i64.wrap ((N : Int) + 4) = (N : Int) + 4 := by rw [IntKind.wrap_i64]; omega
  have hbw : IntKind.i64.wrap (b + 1) = b + 1 := by rw [IntKind.wrap_i64]; omega
  have HOK : Hid (∀ q, q < E + 2 → (rawT b N K q).ok) := Lib.hid fun q hq => strip_ok (tryI_ok m1 m2 hN hK (by rw [← hE]; exact hq))
  have HE := Lib.hid hE
  clear hE
  go_wp2_with fail
  go_loopw [7, 26] (fun v7 q wr => ∃ i p : Nat, i ≤ K ∧ p ≤ E ∧ q = .int .i64 (i : Int) ∧ Hid (p = i * (N + 4)) ∧ Hid (InsRel w1 (tab p (rawT b N K)) v7 wr)) (fun _ q _ => K - (intOf q).toNat)
  case atStart => exact ⟨0, 0, Nat.zero_le _, Nat.zero_le _, rfl, Lib.hid (by simp), Lib.hid ⟨by simpa [tab] using OwnI.nil w1 _, Below.refl _ _⟩⟩
  case round =>
    obtain ⟨i, p, hi, hpE, rfl, HP, HR⟩ := hrel
    obtain ⟨A7, c7, hv7⟩ := HR.out.1.form
    rw [tab_len] at hv7
    subst hv7
    by_cases hlt : i < K
    · have hiK : (i : Int) < (K : Int) := by omega
      obtain ⟨hnx1, hnx2⟩ := look_next HP.out HE.out hlt
      have HNX := Lib.hid hnx1
      have hi1 : IntKind.i64.wrap ((i : Int) + 1) = (i : Int) + 1 := by rw [IntKind.wrap_i64]; omega
      have him : IntKind.i64.wrap (((i : Int) + 1) * ((N : Int) + 4)) = (p : Int) + ((N : Int) + 4) := by
        have : ((i : Int) + 1) * ((N : Int) + 4) = (p : Int) + ((N : Int) + 4) := by
          rw [HP.out, Int.add_mul, Int.one_mul]; push_cast; rfl
        rw [this, IntKind.wrap_i64]; omega
      have hp1 : IntKind.i64.wrap ((p : Int) + 1) = (p : Int) + 1 := by rw [IntKind.wrap_i64]; omega
      have hf0 : rawT b N K p = ⟨0, b, 0, 0, 0⟩ := by unfold rawT strip; rw [tryI_0 b HP.out hlt]; simp
      have hf1 : rawT b N K (p + 1) = ⟨4, 0, 0, (p : Int) + ((N : Int) + 4), 0⟩ := by unfold rawT strip; rw [tryI_1 b HP.out hlt]; simp
      have hok0 := HOK.out p (by omega)
      have hok1 := HOK.out (p + 1) (by omega)
      rw [hf0] at hok0
      rw [hf1] at hok1
      have H0 := Lib.hid hf0
      have H1 := Lib.hid hf1
      have HK0 := Lib.hid hok0
      have HK1 := Lib.hid hok1
      clear hf0 hf1 hok0 hok1 hnx1
      go_wp2_with (at_builtin; refine ins_append HR.out [⟨0, b, 0, 0, 0⟩, ⟨4, 0, 0, (p : Int) + ((N : Int) + 4), 0⟩] (two_ok HK0.out HK1.out) (p + 1 + 1) (by rw [tab_len]; rfl) (by omega) rfl _ _ rfl rfl rfl ?_)
      intro A8 c8 w3 R30
      have R3 := Lib.hid R30
      clear R30
      have R4 : Hid (InsRel w1 (tab (p + 2 + 0) (rawT b N K)) (.slice A8 (p + 1 + 1) c8) w3) := Lib.hid (by
        have := R3.out
        show InsRel w1 (tab (p + 1 + 1) _) _ _
        rw [tab_succ, tab_succ, H0.out, H1.out, List.append_assoc]
        exact this)
      clear R3 HR
      go_wp2_with fail
      go_loopw [7, 40] (fun v7 q wr => ∃ j : Nat, j ≤ N ∧ q = .int .i64 (j : Int) ∧ Hid (InsRel w1 (tab (p + 2 + j) (rawT b N K)) v7 wr)) (fun _ q _ => N - (intOf q).toNat)
      case atStart => exact ⟨0, Nat.zero_le _, rfl, R4⟩
      case round =>
        clear R4
        obtain ⟨j, hj, rfl, HR⟩ := hrel
        obtain ⟨A7, c7, hv7⟩ := HR.out.1.form
        rw [tab_len] at hv7
        subst hv7
        by_cases hjn : j < N
        · have hji : (j : Int) < (N : Int) := by omega
          have hj1 : IntKind.i64.wrap (b + 1 + (j : Int)) = b + 1 + (j : Int) := by rw [IntKind.wrap_i64]; omega
          have hj2 : IntKind.i64.wrap (1 + (j : Int)) = 1 + (j : Int) := by rw [IntKind.wrap_i64]; omega
          have hf0 : rawT b N K (p + 2 + j) = ⟨0, b + 1 + (j : Int), 1 + (j : Int), 0, 0⟩ := by unfold rawT strip; rw [tryI_w b HP.out hlt hjn]; simp
          have hok0 := HOK.out (p + 2 + j) (by omega)
          rw [hf0] at hok0
          have HH := Lib.hid hf0
          have HKK := Lib.hid hok0
          clear hf0 hok0
          go_wp2_with (at_builtin; refine ins_append HR.out [⟨0, b + 1 + (j : Int), 1 + (j : Int), 0, 0⟩] (one_ok HKK.out) (p + 2 + j + 1) (by rw [tab_len]; rfl) (by omega) rfl _ _ rfl rfl rfl ?_)
          intro A8 c8' w5 R60
          have R6 := Lib.hid R60
          clear R60
          have R7 : Hid (InsRel w1 (tab (p + 2 + (j + 1)) (rawT b N K)) (.slice A8 (p + 2 + j + 1) c8') w5) := Lib.hid (by
            show InsRel w1 (tab (p + 2 + j + 1) _) _ _
            rw [tab_succ, HH.out]
            exact R6.out)
          clear R6
          go_wp2
          go_roundw
          case rel => exact ⟨j + 1, by omega, by go_num, R7⟩
          case measure => simp [intOf]; omega
        · have hji : ¬ (j : Int) < (N : Int) := by omega
          have hje : j = N := by omega
          subst hje
          have hf0 : rawT b j K (p + 2 + j) = ⟨0, b, 31, 0, 0⟩ := by unfold rawT strip; rw [tryI_a b HP.out hlt]; simp
          have hf1 : rawT b j K (p + 2 + j + 1) = ⟨5, 0, 31, (E : Int) + 1, 0⟩ := by unfold rawT strip; rw [tryI_l b HP.out HE.out hlt]; simp
          have hok0 := HOK.out (p + 2 + j) (by omega)
          have hok1 := HOK.out (p + 2 + j + 1) (by omega)
          rw [hf0] at hok0
          rw [hf1] at hok1
          have H2 := Lib.hid hf0
          have H3 := Lib.hid hf1
          have HK2 := Lib.hid hok0
          have HK3 := Lib.hid hok1
          clear hf0 hf1 hok0 hok1
          go_wp2_with (at_builtin; refine ins_append HR.out [⟨0, b, 31, 0, 0⟩, ⟨5, 0, 31, (E : Int) + 1, 0⟩] (two_ok HK2.out HK3.out) (p + 2 + j + 1 + 1) (by rw [tab_len]; rfl) (by omega) rfl _ _ rfl rfl rfl ?_)
          intro A8 c8' w5 R60
          have R6 := Lib.hid R60
          clear R60
          have R7 : Hid (InsRel w1 (tab (p + (j + 4)) (rawT b j K)) (.slice A8 (p + 2 + j + 1 + 1) c8') w5) := Lib.hid (by
            rw [show p + (j + 4) = p + 2 + j + 1 + 1 by omega, tab_succ, tab_succ, H2.out, H3.out, List.append_assoc]
            exact R6.out)
          clear R6
          go_wp2
          go_roundw
          case rel => exact ⟨i + 1, p + (j + 4), by omega, hnx2, by go_num, HNX, R7⟩
          case measure => simp [intOf]; omega
    · have hiK : ¬ (i : Int) < (K : Int) := by omega
      have hie : i = K := by omega
      have hpe : p = E := by rw [HP.out, HE.out, hie]
      subst hpe
      have hf0 : rawT b N K p = ⟨6, 0, 0, 0, 0⟩ := by unfold rawT strip; rw [(tryI_e b HE.out).1]; simp
      have hf1 : rawT b N K (p + 1) = ⟨6, 0, 0, 0, 1⟩ := by unfold rawT strip; rw [(tryI_e b HE.out).2]; simp
      have hok0 := HOK.out p (by omega)
      have hok1 := HOK.out (p + 1) (by omega)
      rw [hf0] at hok0
      rw [hf1] at hok1
      have H0 := Lib.hid hf0
      have H1 := Lib.hid hf1
      have HK0 := Lib.hid hok0
      have HK1 := Lib.hid hok1
      clear hf0 hf1 hok0 hok1
      go_wp2_with (at_builtin; refine ins_append HR.out [⟨6, 0, 0, 0, 0⟩, ⟨6, 0, 0, 0, 1⟩] (two_ok HK0.out HK1.out) (p + 1 + 1) (by rw [tab_len]; rfl) (by omega) rfl _ _ rfl rfl rfl ?_)
      intro A8 c8 w3 R30
      have R3 := Lib.hid R30
      clear R30
      have R4 : Hid (InsRel w1 (tab (p + 2) (rawT b N K)) (.slice A8 (p + 1 + 1) c8) w3) := Lib.hid (by
        show InsRel w1 (tab (p + 1 + 1) _) _ _
        rw [tab_succ, tab_succ, H0.out, H1.out, List.append_assoc]
        exact R3.out)
      clear R3
      go_wp2_with fail
      have hon := onward_call R4.out.1 (by rw [tab_len]; omega)
      refine hon.mono ?_
      rintro e w4 ⟨rfl, ho4, hg4⟩
      have F : Hid (InsOwn (tryC b (N : Int) (K : Int)) w (.returned (.slice A8 (p + 1 + 1) c8)) w4) := Lib.hid (by
        refine ⟨_, rfl, ?_, ?_⟩
        · have hraw : onL (tab (p + 2) (rawT b N K)) = tryL b N K := by rw [HE.out]; exact rawT_on b N K
          rw [hraw] at ho4
          unfold tryC
          rw [if_pos HMAY.out, Int.toNat_natCast, Int.toNat_natCast]
          exact ho4.base HB1.out.size
        · have hb3 : Below w.heap.size w w3 := below_call HB1.out R4.out.2 HB1.out.size
          exact hb3.grown hg4 hb3.size (fun j hj => by have := (R4.out.1.1.lt j hj).1; have := HB1.out.size; omega))
      clear hon ho4 hg4
      go_wp2
      go_ret
      exact F.out
theorem try_call (b n k : Int) (w : World) : Calls Try.prog 52 #[.int .i64 b, .int .i64 n, .int .i64 k] w (InsPost (tryC b n k) w) := (try_own b n k w).mono fun _ _ h => h.post
end Go.Proofs.Ytpkelneimjmmkaa

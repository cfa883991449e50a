/- The walk of SeqAlone. -/
import Derived.Test.YtpkelneimjmmkaaSeqJ
import Derived.Test.YtpkelneimjmmkaaPureW
import Derived.Test.YtpkelneimjmmkaaCellRunsW
namespace Go.Proofs.Ytpkelneimjmmkaa
open Go.RowKit

/-- The memory behind so many writes. -/
def MemW (n : Nat) (i : Int) (m : List Int) : Prop := m.length = n + 3 ∧ m.getD 2 0 = 2 * i ∧ ∀ j, j < n → m.getD (2 + 1 + j) 0 = (wordsQ n i).getD j 0
theorem memW_zero (n : Nat) : MemW n 0 (zeros (n + 3)) := by
  refine ⟨zeros_len _, ?_, fun j hj => ?_⟩
  · simp [zeros, List.getD_eq_getElem?_getD]
  · unfold wordsQ
    rw [if_neg (by omega)]
    simp only [zeros, List.getD_eq_getElem?_getD, List.getElem?_replicate]
    rw [if_pos (by omega), if_pos hj]
theorem writeC_board {n : Nat} (h1 : 1 ≤ n) (h2 : n ≤ 28) {ver : Int} (hv : 0 ≤ ver) (he : ver % 2 = 0) (i : Int) : writeC 2 ver (wordsQ n i) = writeL ((2 : Nat) : Int) ver (wordsQ n i) := by
  unfold writeC
  rw [if_pos ⟨by omega, by omega, by rw [wordsQ_len]; exact h1, by rw [wordsQ_len]; exact h2, hv, he⟩]
  rfl
theorem memW_write {n : Nat} (h1 : 1 ≤ n) (h2 : n ≤ 28) {i : Nat} {m : List Int} (hm : MemW n (i : Int) m) :
    (stepsT (startT (writeC 2 (2 * (i : Int)) (wordsQ n ((i : Int) + 1)))) m 99).2.2 = n + 2 ∧ MemW n ((i : Int) + 1) (stepsT (startT (writeC 2 (2 * (i : Int)) (wordsQ n ((i : Int) + 1)))) m 99).2.1 := by
  rw [writeC_board h1 h2 (by omega) (by omega)]
  have hl := wordsQ_len n ((i : Int) + 1)
  have := write_all (b := 2) (ver := 2 * (i : Int)) (ws := wordsQ n ((i : Int) + 1)) (by omega) (by omega) (m := m) (by have := hm.1; omega) (by have := hm.1; omega)
  simp only at this
  obtain ⟨_, _, r3, r4, r5, r6⟩ := this
  refine ⟨by rw [r3, hl], by rw [r4]; exact hm.1, by rw [r5]; omega, fun j hj => r6 j (by rw [hl]; exact hj)⟩
theorem memW_part {n : Nat} (h1 : 1 ≤ n) (h2 : n ≤ 28) {i : Nat} {m : List Int} (hm : MemW n (i : Int) m) {d : Nat} (hd1 : 1 ≤ d) (hd : d ≤ n + 1) :
    (stepsT (startT (writeC 2 (2 * (i : Int)) (wordsQ n 99))) m (d : Int)).2.1.length = n + 3 ∧ (stepsT (startT (writeC 2 (2 * (i : Int)) (wordsQ n 99))) m (d : Int)).2.1.getD 2 0 % 2 = 1 := by
  rw [writeC_board h1 h2 (by omega) (by omega)]
  have hl := wordsQ_len n 99
  have := write_part (b := 2) (ver := 2 * (i : Int)) (ws := wordsQ n 99) (by omega) (by omega) (m := m) (by have := hm.1; omega) (by have := hm.1; omega) hd1 (by omega)
  refine ⟨by rw [this.1]; exact hm.1, by rw [this.2]; omega⟩
theorem tryC_board {n k : Nat} (h1 : 1 ≤ n) (h2 : n ≤ 28) (h3 : 1 ≤ k) (h4 : k ≤ 6) : tryC 2 (n : Int) (k : Int) = tryL ((2 : Nat) : Int) n k := by
  unfold tryC
  rw [if_pos ⟨by omega, by omega, by omega, by omega, by omega, by omega⟩]
  simp
theorem memW_try {n k : Nat} (h1 : 1 ≤ n) (h2 : n ≤ 28) (h3 : 1 ≤ k) (h4 : k ≤ 6) {i : Nat} {m : List Int} (hm : MemW n (i : Int) m) :
    (stepsT (startT (tryC 2 (n : Int) (k : Int))) m 999).2.2 = n + 2 ∧ takenB (stepsT (startT (tryC 2 (n : Int) (k : Int))) m 999).1 (n : Int) = true ∧ takenV (stepsT (startT (tryC 2 (n : Int) (k : Int))) m 999).1 (n : Int) = (i : Int) ∧
    takenL (stepsT (startT (tryC 2 (n : Int) (k : Int))) m 999).1 (n : Int) = wordsQ n (i : Int) := by
  rw [tryC_board h1 h2 h3 h4]
  have := try_once (b := 2) h1 h2 h3 h4 (m := m) (by have := hm.1; omega) (by have := hm.1; omega) (by rw [hm.2.1]; omega)
  simp only at this
  obtain ⟨r1, r2, r3, r4, r5, r6⟩ := this
  generalize stepsT (startT (tryL ((2 : Nat) : Int) n k)) m 999 = R at *
  have hB : takenB R.1 (n : Int) = true := decide_eq_true ⟨r1, r2, by omega, by omega⟩
  refine ⟨r3, hB, ?_, ?_⟩
  · unfold takenV; rw [hB, if_pos rfl, r4, hm.2.1]; omega
  · unfold takenL
    rw [hB, if_pos rfl, Int.toNat_natCast]
    obtain ⟨c1, c2⟩ := regs_cut r5 h2
    apply List.ext_getElem?
    intro j
    by_cases hj : j < n
    · have e1 := c2 j hj
      rw [r6 j hj, hm.2.2 j hj] at e1
      rw [List.getD_eq_getElem?_getD, List.getD_eq_getElem?_getD, List.getElem?_eq_getElem (by omega), List.getElem?_eq_getElem (by rw [wordsQ_len]; exact hj)] at e1
      rw [List.getElem?_eq_getElem (by omega), List.getElem?_eq_getElem (by rw [wordsQ_len]; exact hj)]
      simpa using e1
    · rw [List.getElem?_eq_none (by omega), List.getElem?_eq_none (by rw [wordsQ_len]; omega)]
theorem vain_try {n k : Nat} (h1 : 1 ≤ n) (h2 : n ≤ 28) (h3 : 1 ≤ k) (h4 : k ≤ 6) {m : List Int} (hm : m.length = n + 3) (ho : m.getD 2 0 % 2 = 1) :
    (stepsT (startT (tryC 2 (n : Int) (k : Int))) m 999).1.t.done = true ∧ (stepsT (startT (tryC 2 (n : Int) (k : Int))) m 999).1.t.ans = 0 ∧ (stepsT (startT (tryC 2 (n : Int) (k : Int))) m 999).2.2 = k ∧
    takenB (stepsT (startT (tryC 2 (n : Int) (k : Int))) m 999).1 (n : Int) = false := by
  rw [tryC_board h1 h2 h3 h4]
  have := try_vain_all (b := 2) h1 h2 h3 h4 (m := m) (by omega) (by omega) ho
  simp only at this
  obtain ⟨r1, r2, r3⟩ := this
  exact ⟨r1, r2, r3, decide_eq_false (fun h => by rw [r2] at h; have := h.2.1; omega)⟩

set_option maxHeartbeats 16000000 in
set_option maxRecDepth 20000 in
theorem seqAlone_walk {n k ws cut : Int} {w : World} : Calls Try.prog 17 #[.int .i64 n, .int .i64 k, .int .i64 ws, .int .i64 cut] w (BoolPost true w) := by
  obtain ⟨q, hq, hqe⟩ := and_mask cut 65535 (by omega)
  have e65 : ((65535 : Nat) : Int) = 65535 := rfl
  rw [e65] at hqe
  clear e65
  go_enter Try.func17, Try.ntmps17
  go_wp2_with fail
  refine (awake15 _).mono ?_
  rintro e w1 ⟨rfl, hb1⟩
  have HBW := Lib.hid hb1
  clear hb1 
  by_cases hn0 : n < 1
  · go_wp2
    go_ret
    exact ⟨rfl, HBW.out⟩
  by_cases hn1 : 28 < n
  · go_wp2
    go_ret
    exact ⟨rfl, HBW.out⟩
  by_cases hk0 : k < 1
  · go_wp2
    go_ret
    exact ⟨rfl, HBW.out⟩
  by_cases hk1 : 6 < k
  · go_wp2
    go_ret
    exact ⟨rfl, HBW.out⟩
  by_cases hw0 : ws < 0
  · go_wp2
    go_ret
    exact ⟨rfl, HBW.out⟩
  by_cases hw1 : 8 < ws
  · go_wp2
    go_ret
    exact ⟨rfl, HBW.out⟩
  obtain ⟨N, rfl⟩ := Int.eq_ofNat_of_zero_le (show 0 ≤ n by omega)
  obtain ⟨K, rfl⟩ := Int.eq_ofNat_of_zero_le (show 0 ≤ k by omega)
  obtain ⟨S, rfl⟩ := Int.eq_ofNat_of_zero_le (show 0 ≤ ws by omega)
  have hN1 : 1 ≤ N := by omega
  have hN : N ≤ 28 := by omega
  have hK1 : 1 ≤ K := by omega
  have hK : K ≤ 6 := by omega
  have hS : S ≤ 8 := by omega
  have hn3 : IntKind.i64.wrap ((N : Int) + 3) = (N : Int) + 3 := by rw [IntKind.wrap_i64]; omega
  have hn2 : IntKind.i64.wrap ((N : Int) + 2) = (N : Int) + 2 := by rw [IntKind.wrap_i64]; omega
  have hnl : newLen ((N : Int) + 3) = N + 3 := by unfold newLen; split <;> (try split) <;> omega
  go_wp2_with fail
  refine (new_call ((N : Int) + 3) ⟨by omega, by omega⟩ _).mono ?_
  rintro e w2 ⟨v2, rfl, ho2, hb2⟩
  replace HBW := Lib.hid (below_call HBW.out hb2 HBW.out.size)
  clear hb2
  rw [hnl] at ho2
  have HO2 := Lib.hid ho2.words
  clear ho2 hnl
  go_wp2_with fail
  go_loopw [10, 11] (fun vm qv wr => ∃ (i : Nat) (mi : List Int), i ≤ S ∧ qv = .int .i64 (i : Int) ∧ Hid (MemW N (i : Int) mi) ∧ Hid (Words wr vm mi) ∧ Hid (Below w.heap.size w wr)) (fun _ qv _ => S - (intOf qv).toNat)
  case atStart => exact ⟨0, _, Nat.zero_le _, rfl, Lib.hid (memW_zero N), HO2, HBW⟩
  case round =>
    clear HO2 HBW
    obtain ⟨i, mi, hiS, rfl, HMW, HVM, HBW⟩ := hrel
    by_cases hlt : i < S
    · have hiI : (i : Int) < (S : Int) := by omega
      have hi1 : IntKind.i64.wrap ((i : Int) + 1) = (i : Int) + 1 := by rw [IntKind.wrap_i64]; omega
      have hi2 : IntKind.i64.wrap (2 * (i : Int)) = 2 * (i : Int) := by rw [IntKind.wrap_i64]; omega
      have hMN := Lib.hid (memW_write hN1 hN HMW.out)

      go_wp2_with fail
      refine (words15_call N hN ((i : Int) + 1) (by omega) _).mono ?_
      rintro e w21 ⟨v5, rfl, ho5, hb21⟩
      replace HVM := Lib.hid (HVM.out.below hb21)
      replace HBW := Lib.hid (below_call HBW.out hb21 HBW.out.size)
      have HQ5 := Lib.hid (ho5.words)
      clear hb21 ho5
      go_wp2_with fail
      refine (write_call (b := 2) (ver := 2 * (i : Int)) ⟨by omega, by omega⟩ HQ5.out).mono ?_
      rintro e w22 ⟨v6, rfl, hi6, hb22⟩
      replace HVM := Lib.hid (HVM.out.below hb22)
      replace HQ5 := Lib.hid (HQ5.out.below hb22)
      replace HBW := Lib.hid (below_call HBW.out hb22 HBW.out.size)
      have HI6 := Lib.hid (hi6)
      clear hb22 hi6
      clear HQ5
      go_wp2_with fail
      refine (start_call HI6.out).mono ?_
      rintro e w23 ⟨rfl, hb23⟩
      have ht23 := isTask_of HI6.out hb23
      generalize tcells (startCv _ _) (startT _).t = C23 at *
      replace HVM := Lib.hid (HVM.out.below hb23)
      replace HI6 := Lib.hid (HI6.out.below hb23)
      replace HBW := Lib.hid (below_call HBW.out hb23 HBW.out.size)
      have HT23 := Lib.hid ht23
      clear ht23 hb23
      clear HI6
      go_wp2_with fail
      refine (steps_call HT23.out HVM.out).mono ?_
      rintro e w24 ⟨v24, m24, rfl, ht24, ho24, hb24⟩
      have hT24 := ht24 w24 (HT23.out.below hb24)
      obtain ⟨cl24, rfl, hsz24, hone24, x3424, x3524, x124⟩ := hT24.list
      rw [hMN.out.1]
      replace HVM := Lib.hid (HVM.out.below hb24)
      replace HT23 := Lib.hid (HT23.out.below hb24)
      replace HBW := Lib.hid (below_call HBW.out hb24 HBW.out.size)
      have HT24 := Lib.hid hT24
      have HW24 := Lib.hid ho24.words
      have HSZ24 := Lib.hid hsz24
      have HONE24 := Lib.hid hone24
      clear ht24 ho24 hb24 hT24 hsz24 hone24
      clear HT23
      clear x3424 x3524 x124
      have HMW2 := Lib.hid hMN.out.2
      generalize (stepsT (startT (writeC 2 (2 * (i : Int)) (wordsQ N ((i : Int) + 1)))) mi 99).2.1 = mi2 at *
      have hnn : ((N + 2 : Nat) : Int) = (N : Int) + 2 := by push_cast; rfl
      go_wp2_with (first | with_reducible refine mid_stop 42 _ rfl ?_ | with_reducible refine storeM_stop rfl 42 _ _ rfl ?_)
      refine AtStoreM.go w24.heap.size 0 (cs := cl24) rfl rfl (newRow (by rw [HSZ24.out]; rfl)).2.2 (by rw [HSZ24.out]; exact size_task) HONE24.out ?_
      refine wpl_at fun W24 hW24 => ?_
      have hbw24 : Below w24.heap.size w24 W24 := by rw [hW24]; exact (newRow (by rw [HSZ24.out]; rfl)).1
      have HY24 : Hid (Box W24 w24.heap.size 42 cl24.toArray) := Lib.hid (by rw [hW24]; exact (newRow (by rw [HSZ24.out]; rfl)).2.1)
      replace HVM := Lib.hid (HVM.out.below hbw24)
      replace HT24 := Lib.hid (HT24.out.below hbw24)
      replace HW24 := Lib.hid (HW24.out.below hbw24)
      replace HBW := Lib.hid (below_call HBW.out hbw24 HBW.out.size)
      clear hW24 hbw24
      go_wp2
      go_roundw
      case rel => exact ⟨i + 1, mi2, by omega, by go_num, by exact HMW2, HW24, HBW⟩
      case measure => simp [intOf]; omega
    · have hiI : ¬ (i : Int) < (S : Int) := by omega
      have hiS2 : i = S := by omega
      subst hiS2
      have htr := Lib.hid (memW_try hN1 hN hK1 hK HMW.out)
      have hat : q % (N + 1) ≤ N := by have := Nat.mod_lt q (show 0 < N + 1 by omega); omega
      have htm := tmod_nat q N
      have hN1w : IntKind.i64.wrap ((N : Int) + 1) = (N : Int) + 1 := by rw [IntKind.wrap_i64]; omega
      generalize q % (N + 1) = c at *
      have hcw : IntKind.i64.wrap (c : Int) = (c : Int) := by rw [IntKind.wrap_i64]; omega
      obtain ⟨dd, hdd⟩ : ∃ dd, dd = 1 + c := ⟨_, rfl⟩
      have hcw1 : IntKind.i64.wrap (1 + (c : Int)) = (dd : Int) := by rw [IntKind.wrap_i64]; omega
      have hpt := Lib.hid (memW_part hN1 hN HMW.out (d := dd) (by omega) (by omega))
      clear hdd
      have hi2 : IntKind.i64.wrap (2 * (i : Int)) = 2 * (i : Int) := by rw [IntKind.wrap_i64]; omega
      have hne : ¬ ((N : Int) + 1 = 0) := by omega
      go_wp2_with fail
      refine (try_call 2 (N : Int) (K : Int) _).mono ?_
      rintro e w41 ⟨v7, rfl, hi7, hb41⟩
      replace HVM := Lib.hid (HVM.out.below hb41)
      replace HBW := Lib.hid (below_call HBW.out hb41 HBW.out.size)
      have HI7 := Lib.hid (hi7)
      clear hb41 hi7
      go_wp2_with fail
      refine (start_call HI7.out).mono ?_
      rintro e w42 ⟨rfl, hb42⟩
      have ht42 := isTask_of HI7.out hb42
      generalize tcells (startCv _ _) (startT _).t = C42 at *
      replace HVM := Lib.hid (HVM.out.below hb42)
      replace HI7 := Lib.hid (HI7.out.below hb42)
      replace HBW := Lib.hid (below_call HBW.out hb42 HBW.out.size)
      have HT42 := Lib.hid ht42
      clear ht42 hb42
      clear HI7
      go_wp2_with fail
      refine (steps_call HT42.out HVM.out).mono ?_
      rintro e w43 ⟨v43, m43, rfl, ht43, ho43, hb43⟩
      have hT43 := ht43 w43 (HT42.out.below hb43)
      obtain ⟨cl43, rfl, hsz43, hone43, x3443, x3543, x143⟩ := hT43.list
      rw [htr.out.1]
      replace HVM := Lib.hid (HVM.out.below hb43)
      replace HT42 := Lib.hid (HT42.out.below hb43)
      replace HBW := Lib.hid (below_call HBW.out hb43 HBW.out.size)
      have HT43 := Lib.hid hT43
      have HW43 := Lib.hid ho43.words
      have HSZ43 := Lib.hid hsz43
      have HONE43 := Lib.hid hone43
      clear ht43 ho43 hb43 hT43 hsz43 hone43
      clear HT42
      clear x3443 x3543 x143
      go_wp2_with (first | with_reducible refine mid_stop 42 _ rfl ?_ | with_reducible refine storeM_stop rfl 42 _ _ rfl ?_)
      refine AtStoreM.go w43.heap.size 0 (cs := cl43) rfl rfl (newRow (by rw [HSZ43.out]; rfl)).2.2 (by rw [HSZ43.out]; exact size_task) HONE43.out ?_
      refine wpl_at fun W43 hW43 => ?_
      have hbw43 : Below w43.heap.size w43 W43 := by rw [hW43]; exact (newRow (by rw [HSZ43.out]; rfl)).1
      have HY43 : Hid (Box W43 w43.heap.size 42 cl43.toArray) := Lib.hid (by rw [hW43]; exact (newRow (by rw [HSZ43.out]; rfl)).2.1)
      replace HVM := Lib.hid (HVM.out.below hbw43)
      replace HT43 := Lib.hid (HT43.out.below hbw43)
      replace HW43 := Lib.hid (HW43.out.below hbw43)
      replace HBW := Lib.hid (below_call HBW.out hbw43 HBW.out.size)
      clear hW43 hbw43
      go_wp2_with (first | with_reducible refine mid_stop 42 _ rfl ?_ | with_reducible refine storeM_stop rfl 42 _ _ rfl ?_)
      refine AtMid.go rfl w43.heap.size 0 rfl HY43.out.range Try.underlying42 rfl (by rw [HSZ43.out]; exact size_task) ?_
      go_wp2_with (first | with_reducible refine mid_stop 42 _ rfl ?_ | with_reducible refine storeM_stop rfl 42 _ _ rfl ?_)
      refine (taken_call HT43.out ⟨by omega, by omega⟩).mono ?_
      rintro e w44 ⟨v8, rfl, ho8, hb44⟩
      replace HVM := Lib.hid (HVM.out.below hb44)
      replace HT43 := Lib.hid (HT43.out.below hb44)
      replace HW43 := Lib.hid (HW43.out.below hb44)
      replace HY43 := Lib.hid (HY43.out.kept hb44)
      replace HBW := Lib.hid (below_call HBW.out hb44 HBW.out.size)
      have HL8 := Lib.hid (ho8)
      clear hb44 ho8
      rw [htr.out.2.1, htr.out.2.2.1]
      rw [htr.out.2.2.2] at HL8
      go_wp2_with fail
      refine (words15_call N hN 99 (by omega) _).mono ?_
      rintro e w45 ⟨v9, rfl, ho9, hb45⟩
      replace HVM := Lib.hid (HVM.out.below hb45)
      replace HT43 := Lib.hid (HT43.out.below hb45)
      replace HW43 := Lib.hid (HW43.out.below hb45)
      replace HY43 := Lib.hid (HY43.out.kept hb45)
      replace HL8 := Lib.hid (HL8.out.below hb45)
      replace HBW := Lib.hid (below_call HBW.out hb45 HBW.out.size)
      have HQ9 := Lib.hid (ho9.words)
      clear hb45 ho9
      go_wp2_with fail
      refine (write_call (b := 2) (ver := 2 * (i : Int)) ⟨by omega, by omega⟩ HQ9.out).mono ?_
      rintro e w46 ⟨v10, rfl, hi10, hb46⟩
      replace HVM := Lib.hid (HVM.out.below hb46)
      replace HT43 := Lib.hid (HT43.out.below hb46)
      replace HW43 := Lib.hid (HW43.out.below hb46)
      replace HY43 := Lib.hid (HY43.out.kept hb46)
      replace HL8 := Lib.hid (HL8.out.below hb46)
      replace HQ9 := Lib.hid (HQ9.out.below hb46)
      replace HBW := Lib.hid (below_call HBW.out hb46 HBW.out.size)
      have HI10 := Lib.hid (hi10)
      clear hb46 hi10
      clear HQ9
      go_wp2_with fail
      refine (start_call HI10.out).mono ?_
      rintro e w47 ⟨rfl, hb47⟩
      have ht47 := isTask_of HI10.out hb47
      generalize tcells (startCv _ _) (startT _).t = C47 at *
      replace HVM := Lib.hid (HVM.out.below hb47)
      replace HT43 := Lib.hid (HT43.out.below hb47)
      replace HW43 := Lib.hid (HW43.out.below hb47)
      replace HY43 := Lib.hid (HY43.out.kept hb47)
      replace HL8 := Lib.hid (HL8.out.below hb47)
      replace HI10 := Lib.hid (HI10.out.below hb47)
      replace HBW := Lib.hid (below_call HBW.out hb47 HBW.out.size)
      have HT47 := Lib.hid ht47
      clear ht47 hb47
      clear HI10
      go_wp2_with fail
      refine (steps_call HT47.out HVM.out).mono ?_
      rintro e w48 ⟨v48, m48, rfl, ht48, ho48, hb48⟩
      have hT48 := ht48 w48 (HT47.out.below hb48)
      obtain ⟨cl48, rfl, hsz48, hone48, x3448, x3548, x148⟩ := hT48.list
      replace HVM := Lib.hid (HVM.out.below hb48)
      replace HT43 := Lib.hid (HT43.out.below hb48)
      replace HW43 := Lib.hid (HW43.out.below hb48)
      replace HY43 := Lib.hid (HY43.out.kept hb48)
      replace HL8 := Lib.hid (HL8.out.below hb48)
      replace HT47 := Lib.hid (HT47.out.below hb48)
      replace HBW := Lib.hid (below_call HBW.out hb48 HBW.out.size)
      have HT48 := Lib.hid hT48
      have HW48 := Lib.hid ho48.words
      have HSZ48 := Lib.hid hsz48
      have HONE48 := Lib.hid hone48
      clear ht48 ho48 hb48 hT48 hsz48 hone48
      clear HT47
      clear x3448 x3548 x148
      generalize (stepsT (startT (writeC 2 (2 * (i : Int)) (wordsQ N 99))) mi (dd : Int)).2.2 = nn at *
      generalize (stepsT (startT (writeC 2 (2 * (i : Int)) (wordsQ N 99))) mi (dd : Int)).2.1 = mh at *
      have hva := Lib.hid (vain_try hN1 hN hK1 hK hpt.out.1 hpt.out.2)
      go_wp2_with (first | with_reducible refine mid_stop 42 _ rfl ?_ | with_reducible refine storeM_stop rfl 42 _ _ rfl ?_)
      refine AtStoreM.go w48.heap.size 0 (cs := cl48) rfl rfl (newRow (by rw [HSZ48.out]; rfl)).2.2 (by rw [HSZ48.out]; exact size_task) HONE48.out ?_
      refine wpl_at fun W48 hW48 => ?_
      have hbw48 : Below w48.heap.size w48 W48 := by rw [hW48]; exact (newRow (by rw [HSZ48.out]; rfl)).1
      have HY48 : Hid (Box W48 w48.heap.size 42 cl48.toArray) := Lib.hid (by rw [hW48]; exact (newRow (by rw [HSZ48.out]; rfl)).2.1)
      replace HVM := Lib.hid (HVM.out.below hbw48)
      replace HT43 := Lib.hid (HT43.out.below hbw48)
      replace HW43 := Lib.hid (HW43.out.below hbw48)
      replace HY43 := Lib.hid (HY43.out.kept hbw48)
      replace HL8 := Lib.hid (HL8.out.below hbw48)
      replace HT48 := Lib.hid (HT48.out.below hbw48)
      replace HW48 := Lib.hid (HW48.out.below hbw48)
      replace HBW := Lib.hid (below_call HBW.out hbw48 HBW.out.size)
      clear hW48 hbw48
      go_wp2_with fail
      refine (try_call 2 (N : Int) (K : Int) _).mono ?_
      rintro e w49 ⟨v11, rfl, hi11, hb49⟩
      replace HVM := Lib.hid (HVM.out.below hb49)
      replace HT43 := Lib.hid (HT43.out.below hb49)
      replace HW43 := Lib.hid (HW43.out.below hb49)
      replace HY43 := Lib.hid (HY43.out.kept hb49)
      replace HL8 := Lib.hid (HL8.out.below hb49)
      replace HT48 := Lib.hid (HT48.out.below hb49)
      replace HW48 := Lib.hid (HW48.out.below hb49)
      replace HY48 := Lib.hid (HY48.out.kept hb49)
      replace HBW := Lib.hid (below_call HBW.out hb49 HBW.out.size)
      have HI11 := Lib.hid (hi11)
      clear hb49 hi11
      go_wp2_with fail
      refine (start_call HI11.out).mono ?_
      rintro e w50 ⟨rfl, hb50⟩
      have ht50 := isTask_of HI11.out hb50
      generalize tcells (startCv _ _) (startT _).t = C50 at *
      replace HVM := Lib.hid (HVM.out.below hb50)
      replace HT43 := Lib.hid (HT43.out.below hb50)
      replace HW43 := Lib.hid (HW43.out.below hb50)
      replace HY43 := Lib.hid (HY43.out.kept hb50)
      replace HL8 := Lib.hid (HL8.out.below hb50)
      replace HT48 := Lib.hid (HT48.out.below hb50)
      replace HW48 := Lib.hid (HW48.out.below hb50)
      replace HY48 := Lib.hid (HY48.out.kept hb50)
      replace HI11 := Lib.hid (HI11.out.below hb50)
      replace HBW := Lib.hid (below_call HBW.out hb50 HBW.out.size)
      have HT50 := Lib.hid ht50
      clear ht50 hb50
      clear HI11
      go_wp2_with fail
      refine (steps_call HT50.out HW48.out).mono ?_
      rintro e w51 ⟨v51, m51, rfl, ht51, ho51, hb51⟩
      have hT51 := ht51 w51 (HT50.out.below hb51)
      obtain ⟨cl51, rfl, hsz51, hone51, x3451, x3551, x151⟩ := hT51.list
      rw [hva.out.2.2.1]
      rw [hva.out.1] at x3451
      rw [hva.out.2.1] at x3551
      replace HVM := Lib.hid (HVM.out.below hb51)
      replace HT43 := Lib.hid (HT43.out.below hb51)
      replace HW43 := Lib.hid (HW43.out.below hb51)
      replace HY43 := Lib.hid (HY43.out.kept hb51)
      replace HL8 := Lib.hid (HL8.out.below hb51)
      replace HT48 := Lib.hid (HT48.out.below hb51)
      replace HW48 := Lib.hid (HW48.out.below hb51)
      replace HY48 := Lib.hid (HY48.out.kept hb51)
      replace HT50 := Lib.hid (HT50.out.below hb51)
      replace HBW := Lib.hid (below_call HBW.out hb51 HBW.out.size)
      have HT51 := Lib.hid hT51
      have HW51 := Lib.hid ho51.words
      have HSZ51 := Lib.hid hsz51
      have HONE51 := Lib.hid hone51
      clear ht51 ho51 hb51 hT51 hsz51 hone51
      clear HT50
      go_wp2_with (first | with_reducible refine mid_stop 42 _ rfl ?_ | with_reducible refine storeM_stop rfl 42 _ _ rfl ?_)
      refine AtStoreM.go w51.heap.size 0 (cs := cl51) rfl rfl (newRow (by rw [HSZ51.out]; rfl)).2.2 (by rw [HSZ51.out]; exact size_task) HONE51.out ?_
      refine wpl_at fun W51 hW51 => ?_
      have hbw51 : Below w51.heap.size w51 W51 := by rw [hW51]; exact (newRow (by rw [HSZ51.out]; rfl)).1
      have HY51 : Hid (Box W51 w51.heap.size 42 cl51.toArray) := Lib.hid (by rw [hW51]; exact (newRow (by rw [HSZ51.out]; rfl)).2.1)
      replace HVM := Lib.hid (HVM.out.below hbw51)
      replace HT43 := Lib.hid (HT43.out.below hbw51)
      replace HW43 := Lib.hid (HW43.out.below hbw51)
      replace HY43 := Lib.hid (HY43.out.kept hbw51)
      replace HL8 := Lib.hid (HL8.out.below hbw51)
      replace HT48 := Lib.hid (HT48.out.below hbw51)
      replace HW48 := Lib.hid (HW48.out.below hbw51)
      replace HY48 := Lib.hid (HY48.out.kept hbw51)
      replace HT51 := Lib.hid (HT51.out.below hbw51)
      replace HW51 := Lib.hid (HW51.out.below hbw51)
      replace HBW := Lib.hid (below_call HBW.out hbw51 HBW.out.size)
      clear hW51 hbw51
      go_wp2_with (first | with_reducible refine mid_stop 42 _ rfl ?_ | with_reducible refine storeM_stop rfl 42 _ _ rfl ?_)
      refine AtMid.go rfl w51.heap.size 0 rfl HY51.out.range Try.underlying42 rfl (by rw [HSZ51.out]; exact size_task) ?_
      go_wp2_with (first | with_reducible refine mid_stop 42 _ rfl ?_ | with_reducible refine storeM_stop rfl 42 _ _ rfl ?_)
      refine (taken_call HT51.out ⟨by omega, by omega⟩).mono ?_
      rintro e w52 ⟨v12, rfl, ho12, hb52⟩
      replace HVM := Lib.hid (HVM.out.below hb52)
      replace HT43 := Lib.hid (HT43.out.below hb52)
      replace HW43 := Lib.hid (HW43.out.below hb52)
      replace HY43 := Lib.hid (HY43.out.kept hb52)
      replace HL8 := Lib.hid (HL8.out.below hb52)
      replace HT48 := Lib.hid (HT48.out.below hb52)
      replace HW48 := Lib.hid (HW48.out.below hb52)
      replace HY48 := Lib.hid (HY48.out.kept hb52)
      replace HT51 := Lib.hid (HT51.out.below hb52)
      replace HW51 := Lib.hid (HW51.out.below hb52)
      replace HY51 := Lib.hid (HY51.out.kept hb52)
      replace HBW := Lib.hid (below_call HBW.out hb52 HBW.out.size)
      have HL12 := Lib.hid (ho12)
      clear hb52 ho12
      rw [hva.out.2.2.2]
      generalize takenV (stepsT (startT (tryC 2 (N : Int) (K : Int))) mh 999).1 (N : Int) = tv at *
      go_wp2_with fail
      refine (words15_call N hN (i : Int) (by omega) _).mono ?_
      rintro e w53 ⟨v13, rfl, ho13, hb53⟩
      replace HVM := Lib.hid (HVM.out.below hb53)
      replace HT43 := Lib.hid (HT43.out.below hb53)
      replace HW43 := Lib.hid (HW43.out.below hb53)
      replace HY43 := Lib.hid (HY43.out.kept hb53)
      replace HL8 := Lib.hid (HL8.out.below hb53)
      replace HT48 := Lib.hid (HT48.out.below hb53)
      replace HW48 := Lib.hid (HW48.out.below hb53)
      replace HY48 := Lib.hid (HY48.out.kept hb53)
      replace HT51 := Lib.hid (HT51.out.below hb53)
      replace HW51 := Lib.hid (HW51.out.below hb53)
      replace HY51 := Lib.hid (HY51.out.kept hb53)
      replace HL12 := Lib.hid (HL12.out.below hb53)
      replace HBW := Lib.hid (below_call HBW.out hb53 HBW.out.size)
      have HQ13 := Lib.hid (ho13.words)
      clear hb53 ho13
      go_wp2_with fail
      refine (same_call HL8.out HQ13.out).mono ?_
      rintro e w54 ⟨rfl, hb54⟩
      replace HVM := Lib.hid (HVM.out.below hb54)
      replace HT43 := Lib.hid (HT43.out.below hb54)
      replace HW43 := Lib.hid (HW43.out.below hb54)
      replace HY43 := Lib.hid (HY43.out.kept hb54)
      replace HL8 := Lib.hid (HL8.out.below hb54)
      replace HT48 := Lib.hid (HT48.out.below hb54)
      replace HW48 := Lib.hid (HW48.out.below hb54)
      replace HY48 := Lib.hid (HY48.out.kept hb54)
      replace HT51 := Lib.hid (HT51.out.below hb54)
      replace HW51 := Lib.hid (HW51.out.below hb54)
      replace HY51 := Lib.hid (HY51.out.kept hb54)
      replace HL12 := Lib.hid (HL12.out.below hb54)
      replace HQ13 := Lib.hid (HQ13.out.below hb54)
      replace HBW := Lib.hid (below_call HBW.out hb54 HBW.out.size)
      clear hb54 
      rw [decide_eq_true rfl]
      have f34 := (HY51.out.cell 34).trans (by simpa using x3451)
      have f35 := (HY51.out.cell 35).trans (by simpa using x3551)
      go_wp2
      go_ret
      exact ⟨rfl, HBW.out⟩
end Go.Proofs.Ytpkelneimjmmkaa

/- The walk of TaskLoads. -/
import Derived.Test.YtpkelneimjmmkaaInsA
import Derived.Test.YtpkelneimjmmkaaPureV
namespace Go.Proofs.Ytpkelneimjmmkaa
open Go.RowKit

set_option maxHeartbeats 8000000 in
set_option maxRecDepth 20000 in
theorem taskLoads_walk {vm : Value} {ms : List Int} {w : World} (hm : Words w vm ms) : Calls Try.prog 12 #[vm] w (BoolPost true w) := by
  obtain ⟨i0, hi, hz0, hz1, hz2⟩ := info_parts info_ins
  obtain ⟨B, d, rfl, hd1, hd2, _⟩ := hm.1.form
  unfold maxLen at hd2
  have HM := Lib.hid hm
  have HW64 := Lib.hid hm.2
  clear hm
  go_enter Try.func12, Try.ntmps12
  go_wp2_with fail
  refine (awake12 _).mono ?_
  rintro e w1 ⟨rfl, hb1⟩
  have HB1 := Lib.hid hb1
  have HM1 := Lib.hid (HM.out.below hb1)
  clear hb1
  have hmin : ∀ (w : World) (ts : Array TypeId) (t : TypeId), (Builtin.min_ ts t #[.int .i64 (ms.length : Int), .int .i64 20]).run Try.prog w = .ok (.int .i64 ((min ms.length 20 : Nat) : Int)) w := fun w ts t => by
    rw [run_min_int2 w ts t _ _ _ _]
    have : (if (20 : Int) < (ms.length : Int) then (20 : Int) else (ms.length : Int)) = ((min ms.length 20 : Nat) : Int) := by split <;> omega
    rw [this]
  obtain ⟨K, hK⟩ : ∃ K, K = min ms.length 20 := ⟨_, rfl⟩
  have hK1 : K ≤ ms.length := by omega
  have hK2 : K ≤ 20 := by omega
  rw [← hK] at hmin
  have HKI : (K : Int) ≤ 20 := by omega
  clear hK
  go_wp2_with fail
  go_loopw [5, 6] (fun v i wr => ∃ k : Nat, k ≤ K ∧ i = .int .i64 (k : Int) ∧ Hid (InsRel w1 (putsC ms k) v wr)) (fun _ i _ => K - (intOf i).toNat)
  case atStart => exact ⟨0, Nat.zero_le _, rfl, Lib.hid ⟨by simpa [putsC] using OwnI.nil w1 _, Below.refl _ _⟩⟩
  case round =>
    obtain ⟨k, hk, rfl, HR⟩ := hrel
    by_cases hlt : k < K
    · have hki : (k : Int) < (K : Int) := by omega
      obtain ⟨b, off, rfl, hbl, c0⟩ := (HM1.out.below HR.out.2).at_ rfl (by omega : k < ms.length)
      obtain ⟨A5, cap5, hv5⟩ := HR.out.1.form
      rw [putsC_len] at hv5
      subst hv5
      have hw1 : IntKind.i64.wrap ((k : Int) + 1) = (k : Int) + 1 := by rw [IntKind.wrap_i64]; omega
      have hr64 : W64 (ms.getD k 0) := HW64.out _ (getD_mem (by omega))
      have hsucc := putsC_succ ms k
      obtain ⟨r, hr⟩ : ∃ r, ms.getD k 0 = r := ⟨_, rfl⟩
      rw [hr] at c0 hr64 hsucc
      have hkm : (k : Int) < (ms.length : Int) := by omega
      have HX : Hid ((⟨1, (k : Int), 0, (k : Int) + 1, r⟩ : Insn).ok) := Lib.hid ⟨by simp [I64], by simp only [I64]; omega, by simp [I64], by simp only [I64]; omega, hr64⟩
      have HS := Lib.hid hsucc
      clear hr64 hsucc hr
      go_wp2_with (at_builtin; refine wpList_append_sl _ rfl _ _ 39 rfl w1.heap.size 55 i0 _ 5 40 Try.underlying39 hi hz0 hz1 hz2 rfl (by decide) _ _ _ rfl (HR.out.1.1.alloc _) _ 1 [.int .i64 1, .int .i64 (k : Int), .int .i64 0, .int .i64 ((k : Int) + 1), .int .u64 r] rfl (Sl.of_own (own_new _ _ 5 #[.int .i64 1, .int .i64 (k : Int), .int .i64 0, .int .i64 ((k : Int) + 1), .int .u64 r] 1 rfl (by decide))) ?qc2 ?qc3 ?qc4 ?qc5 ?_)
      case qc2 => intro u hu; simp at hu; rcases hu with rfl | rfl | rfl | rfl | rfl <;> rfl
      case qc3 => simp only [maxLen, putsC_len]; omega
      case qc4 => simp only [putsC_len]; omega
      case qc5 => have := HR.out.2.size; simp; omega
      intro v' w3 hown3 hgrow3 hat3
      have R3 : Hid (InsRel w1 (putsC ms (k + 1)) v' w3) := Lib.hid (by
        rw [HS.out]
        exact ins_more (xs := [⟨1, (k : Int), 0, (k : Int) + 1, r⟩]) HR.out (by simpa using HX.out) hown3 hgrow3)
      clear hown3 hgrow3 hat3
      go_wp2
      go_roundw
      case rel => exact ⟨k + 1, by omega, by go_num, R3⟩
      case measure => simp [intOf]; omega
    · have hki : ¬ (k : Int) < (K : Int) := by omega
      have hke : k = K := by omega
      subst hke
      go_wp2_with fail
      go_loopw [5, 7] (fun v i wr => ∃ j : Nat, j ≤ k ∧ i = .int .i64 (j : Int) ∧ Hid (InsRel w1 (putsC ms k ++ loadsC k j) v wr)) (fun _ i _ => k - (intOf i).toNat)
      case atStart => exact ⟨0, Nat.zero_le _, rfl, by simpa [loadsC] using HR⟩
      case round =>
        clear HR
        obtain ⟨j, hj, rfl, HR⟩ := hrel
        obtain ⟨A5, cap5, hv5⟩ := HR.out.1.form
        have hlen : (putsC ms k ++ loadsC k j).length = k + j := by rw [List.length_append, putsC_len, loadsC_len]
        rw [hlen] at hv5
        subst hv5
        have HLEN := Lib.hid hlen
        have HO : Hid (wr.ownsRow w1.heap.size 55 5 (.slice A5 (k + j) cap5) (k + j) ((putsC ms k ++ loadsC k j).flatMap Insn.cells)) := Lib.hid (by have := HR.out.1.1; rwa [hlen] at this)
        clear hlen
        by_cases hlt : j < k
        · have hji : (j : Int) < (k : Int) := by omega
          have hw1 : IntKind.i64.wrap (((k + j : Nat) : Int) + 1) = (k : Int) + (j : Int) + 1 := by rw [IntKind.wrap_i64]; omega
          have hw2 : IntKind.i64.wrap ((k : Int) + (j : Int) + 1) = (k : Int) + (j : Int) + 1 := by rw [IntKind.wrap_i64]; omega
          have HX : Hid ((⟨0, (j : Int), (j : Int), (k : Int) + (j : Int) + 1, 0⟩ : Insn).ok) := Lib.hid ⟨by simp [I64], by simp only [I64]; omega, by simp only [I64]; omega, by simp only [I64]; omega, by simp [W64]⟩
          have HS := Lib.hid (loadsC_succ k j)
          go_wp2_with (at_builtin; refine wpList_append_sl _ rfl _ _ 39 rfl w1.heap.size 55 i0 _ 5 40 Try.underlying39 hi hz0 hz1 hz2 rfl (by decide) _ _ _ rfl (HO.out.alloc _) _ 1 [.int .i64 0, .int .i64 (j : Int), .int .i64 (j : Int), .int .i64 ((k : Int) + (j : Int) + 1), .int .u64 0] rfl (Sl.of_own (own_new _ _ 5 #[.int .i64 0, .int .i64 (j : Int), .int .i64 (j : Int), .int .i64 ((k : Int) + (j : Int) + 1), .int .u64 0] 1 rfl (by decide))) ?qc2 ?qc3 ?qc4 ?qc5 ?_)
          case qc2 => intro u hu; simp at hu; rcases hu with rfl | rfl | rfl | rfl <;> rfl
          case qc3 => simp only [maxLen]; omega
          case qc4 => omega
          case qc5 => have := HR.out.2.size; simp; omega
          intro v' w3 hown3 hgrow3 hat3
          have R3 : Hid (InsRel w1 (putsC ms k ++ loadsC k (j + 1)) v' w3) := Lib.hid (by
            rw [HS.out, ← List.append_assoc]
            exact ins_more (xs := [⟨0, (j : Int), (j : Int), (k : Int) + (j : Int) + 1, 0⟩]) HR.out (by simpa using HX.out) (by rw [HLEN.out]; simpa [Insn.cells] using hown3) hgrow3)
          clear hown3 hgrow3 hat3
          go_wp2
          go_roundw
          case rel => exact ⟨j + 1, by omega, by go_num, R3⟩
          case measure => simp [intOf]; omega
        · have hji : ¬ (j : Int) < (k : Int) := by omega
          have hje : j = k := by omega
          subst hje
          have HA : Hid (InsRel w1 (putsC ms j ++ loadsC j j) (.slice A5 (j + j) cap5) wr) := HR
          have hw1 : IntKind.i64.wrap (((j + j : Nat) : Int) + 1) = 2 * (j : Int) + 1 := by rw [IntKind.wrap_i64]; omega
          have hw2 : IntKind.i64.wrap ((j : Int) + (j : Int) + 1) = 2 * (j : Int) + 1 := by rw [IntKind.wrap_i64]; omega
          have HX : Hid ((⟨6, 0, 0, 2 * (j : Int) + 1, 7⟩ : Insn).ok) := Lib.hid ⟨by simp [I64], by simp [I64], by simp [I64], by simp only [I64]; omega, by simp [W64]⟩
          go_wp2_with (at_builtin; refine wpList_append_sl _ rfl _ _ 39 rfl w1.heap.size 55 i0 _ 5 40 Try.underlying39 hi hz0 hz1 hz2 rfl (by decide) _ _ _ rfl (HO.out.alloc _) _ 1 [.int .i64 6, .int .i64 0, .int .i64 0, .int .i64 (2 * (j : Int) + 1), .int .u64 7] rfl (Sl.of_own (own_new _ _ 5 #[.int .i64 6, .int .i64 0, .int .i64 0, .int .i64 (2 * (j : Int) + 1), .int .u64 7] 1 rfl (by decide))) ?qc2 ?qc3 ?qc4 ?qc5 ?_)
          case qc2 => first | (intro u hu; simp at hu; rcases hu with rfl | rfl | rfl | rfl <;> rfl) | exact ⟨rfl, rfl, rfl, rfl⟩ | simp [Value.oneCell']
          case qc3 => simp only [maxLen]; omega
          case qc4 => omega
          case qc5 => have := HR.out.2.size; simp; omega
          intro v' w3 hown3 hgrow3 hat3
          have R3 : Hid (InsRel w1 (laidC ms j) v' w3) := Lib.hid (ins_more (xs := [⟨6, 0, 0, 2 * (j : Int) + 1, 7⟩]) HA.out (by simpa using HX.out) (by rw [HLEN.out]; simpa [Insn.cells] using hown3) hgrow3)
          have HB3 : Hid (Below w.heap.size w w3) := Lib.hid (below_call HB1.out R3.out.2 HB1.out.size)
          clear hown3 hgrow3 hat3 HA HO HR HLEN
          go_wp2_with fail
          refine (start_call R3.out.1.inss).mono ?_
          rintro e w4 ⟨rfl, hb4⟩
          have ht4 := isTask_of R3.out.1.inss hb4
          have hv : ∃ C, C = tcells (startCv (laidC ms j) v') (startT (laidC ms j)).t := ⟨_, rfl⟩
          obtain ⟨C, hC⟩ := hv
          rw [← hC] at ht4 ⊢
          have HT4 := Lib.hid ht4
          have HB4 := Lib.hid (below_call HB3.out hb4 HB3.out.size)
          clear ht4 hb4 R3 HB3 hC
          go_wp2_with fail
          refine (new_call (j : Int) ⟨by omega, by omega⟩ w4).mono ?_
          rintro e w5 ⟨v5, rfl, ho5, hb5⟩
          have hnl : newLen (j : Int) = j := by unfold newLen; split <;> (try split) <;> omega
          rw [hnl] at ho5
          have HO5 := Lib.hid ho5.words
          have HT5 := Lib.hid (HT4.out.below hb5)
          have HB5 := Lib.hid (below_call HB4.out hb5 HB4.out.size)
          clear ho5 hb5 hnl HT4 HB4
          go_wp2_with fail
          refine (steps_call HT5.out HO5.out).mono ?_
          obtain ⟨x1, x2, x3, x4, x5, x6⟩ := laid_steps ms hK2
          rintro e w6 ⟨v6, v7, rfl, ht6, ho6, hb6⟩
          have hT6 := ht6 w6 (HT5.out.below hb6)
          obtain ⟨C6, rfl, hsz6, hone6, y34, y35⟩ := hT6.parts
          have yreg : ∀ i, i < 32 → C6[2 + i]? = some (.int .u64 ((stepsT (startT (laidC ms j)) (zeros j) 100).1.t.regs.getD i 0)) := fun i hi => hT6.reg hi
          rw [x1] at y34
          rw [x2] at y35
          rw [x3]
          have HB6 := Lib.hid (below_call HB5.out hb6 HB5.out.size)
          have HW6 := Lib.hid ho6.words
          have HSZ6 := Lib.hid hsz6
          have HONE6 := Lib.hid hone6
          have X4 := Lib.hid x4
          have X5 := Lib.hid x5
          have X6 := Lib.hid x6
          have YR := Lib.hid yreg
          clear x1 x2 x3 x4 x5 x6 yreg ht6 ho6 hb6 hT6 hsz6 hone6 HB5 HT5 HO5
          generalize stepsT (startT (laidC ms j)) (zeros j) 100 = R at *
          obtain ⟨A7, c7, hv7, hc71, hc72, _⟩ := HW6.out.1.form
          unfold maxLen at hc72
          rw [X4.out] at hv7
          subst hv7
          go_wp2_with (first | with_reducible refine load_stop rfl 42 _ rfl ?_ | with_reducible refine store_stop rfl 42 _ _ rfl ?_)
          refine AtStore.go w6.heap.size rfl rfl (Box.new w6 _ _) (size_task' HSZ6.out) (by rw [HSZ6.out]; rfl) HONE6.out ?_
          refine wpl_at fun W7 hW7 => ?_
          have hb7 : Below w6.heap.size w6 W7 := by rw [hW7]; exact below_row ((Below.refl _ w6).alloc (Nat.le_refl _) _) (Nat.le_refl _) _
          have HX7 := Lib.hid (by rw [hW7]; exact (Box.new w6 _ _).row _ : Box W7 w6.heap.size 42 C6)
          have HB7 := Lib.hid (below_call HB6.out hb7 HB6.out.size)
          have HW7 := Lib.hid (HW6.out.below hb7)
          have HM7 := Lib.hid (HM.out.below HB7.out)
          clear hW7 hb7 HB6 HW6
          go_wp2_with fail
          go_loopw [11] (fun i wr => ∃ q : Nat, q ≤ j ∧ i = .int .i64 (q : Int) ∧ Hid (Below W7.heap.size W7 wr)) (fun i _ => j - (intOf i).toNat)
          case atStart => exact ⟨0, Nat.zero_le _, rfl, Lib.hid (Below.refl _ _)⟩
          case round =>
            obtain ⟨q, hq, rfl, HV⟩ := hrel
            by_cases hlt : q < j
            · have hqi : (q : Int) < (j : Int) := by omega
              have hq32 : (q : Int) < 32 := by omega
              have hqm : (q : Int) < (ms.length : Int) := by omega
              have p1 := (((HX7.out.kept HV.out)).cell (2 + q)).trans (YR.out q (by omega))
              rw [X6.out q hlt] at p1
              obtain ⟨b2, o2, rfl, _, p2⟩ := (HM7.out.below HV.out).at_ rfl (by omega : q < ms.length)
              obtain ⟨b3, o3, rfl, _, p3⟩ := (HW7.out.below HV.out).at_ X4.out.symm (by rw [X4.out]; exact hlt)
              rw [X5.out q hlt] at p3
              generalize ms.getD q 0 = x at *
              go_wp2_with fail
              go_quiet (fail)
              go_wp2_with fail
              exact ⟨⟨q + 1, by omega, by go_num, Lib.hid (below_drewN HV.out _)⟩, by simp [intOf]; omega⟩
            · have hqi : ¬ (q : Int) < (j : Int) := by omega
              have z34 := ((HX7.out.kept HV.out).cell 34).trans y34
              have z35 := ((HX7.out.kept HV.out).cell 35).trans y35
              have hw3 : IntKind.i64.wrap (2 * (j : Int)) = ((2 * j : Nat) : Int) := by rw [IntKind.wrap_i64]; omega
              have HBV := Lib.hid (below_call HB7.out HV.out HB7.out.size)
              go_wp2
              go_ret
              exact ⟨rfl, HBV.out⟩
end Go.Proofs.Ytpkelneimjmmkaa

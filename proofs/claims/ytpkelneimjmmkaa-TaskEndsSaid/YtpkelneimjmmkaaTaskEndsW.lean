/- The walk of TaskEnds. -/
import Derived.Test.YtpkelneimjmmkaaTaskM
import Derived.Test.YtpkelneimjmmkaaPureV
namespace Go.Proofs.Ytpkelneimjmmkaa
open Go.RowKit

set_option maxHeartbeats 8000000 in
set_option maxRecDepth 20000 in
theorem taskEnds_walk {v vm : Value} {l : List Insn} {ls : List (Value × List Int)} {w : World} (h : Inss w v l) (hm : Wordss w vm ls) : Calls Try.prog 10 #[v, vm] w (BoolPost true w) := by
  obtain ⟨B, d, rfl, hd1, hd2, _⟩ := hm.1.form
  unfold maxLen at hd2
  have HM := Lib.hid hm
  have HI := Lib.hid h
  obtain ⟨A, c, rfl, hc1, hc2, _⟩ := h.1.form
  unfold maxLen at hc2
  clear hm h
  go_enter Try.func10, Try.ntmps10
  go_wp2_with fail
  refine (awake12 _).mono ?_
  rintro e w1 ⟨rfl, hb1⟩
  have HB1 := Lib.hid hb1
  clear hb1
  by_cases h210 : 210 < l.length
  · have h210' : (210 : Int) < (l.length : Int) := by omega
    go_wp2
    go_ret
    exact ⟨rfl, HB1.out⟩
  have n210 : ¬ (210 : Int) < (l.length : Int) := by omega
  by_cases h300 : 300 < ls.length
  · have h300' : (300 : Int) < (ls.length : Int) := by omega
    go_wp2
    go_ret
    exact ⟨rfl, HB1.out⟩
  have n300 : ¬ (300 : Int) < (ls.length : Int) := by omega
  go_wp2_with fail
  refine (start_call (HI.out.below HB1.out)).mono ?_
  rintro e w2 ⟨rfl, hb2⟩
  have ht2 := isTask_of (HI.out.below HB1.out) hb2
  have hv : ∃ C, C = tcells (startCv l (.slice A l.length c)) (startT l).t := ⟨_, rfl⟩
  obtain ⟨C, hC⟩ := hv
  rw [← hC] at ht2 ⊢
  have HT2 := Lib.hid ht2
  have HB2 := Lib.hid (below_call HB1.out hb2 HB1.out.size)
  obtain ⟨hsz2, hone2, _⟩ := ht2.size
  have HSZ2 := Lib.hid hsz2
  have HONE2 := Lib.hid hone2
  clear ht2 hb2 hsz2 hone2 HB1 hC
  go_wp2_with (first | with_reducible refine load_stop rfl 42 _ rfl ?_ | with_reducible refine store_stop rfl 42 _ _ rfl ?_)
  refine AtStore.go w2.heap.size rfl rfl (Box.new w2 _ _) (size_task' HSZ2.out) (by rw [HSZ2.out]; rfl) HONE2.out ?_
  refine wpl_at fun W3 hW3 => ?_
  have hb3 : Below w2.heap.size w2 W3 := by rw [hW3]; exact below_row ((Below.refl _ w2).alloc (Nat.le_refl _) _) (Nat.le_refl _) _
  have HX3 := Lib.hid (by rw [hW3]; exact (Box.new w2 _ _).row _ : Box W3 w2.heap.size 42 C)
  have HB3 := Lib.hid (below_call HB2.out hb3 HB2.out.size)
  have HB3' : Hid (Below w2.heap.size w2 W3) := Lib.hid hb3
  clear hW3 hb3 HB3
  go_wp2_with fail
  go_loopw [7] (fun i wr => ∃ (k : Nat) (T : FT) (C1 : Array Value), k ≤ l.length ∧ i = .int .i64 (k : Int) ∧ Hid (Box wr w2.heap.size 42 C1) ∧ Hid (∀ W, IsTask W (.agg C) (startT l) → IsTask W (.agg C1) T) ∧ Hid (EndsInv l k T) ∧ Hid (Below w2.heap.size w2 wr)) (fun i _ => l.length - (intOf i).toNat)
  case atStart => exact ⟨0, startT l, C, Nat.zero_le _, rfl, HX3, Lib.hid (fun _ h => h), Lib.hid (ends_start l), HB3'⟩
  case round =>
    obtain ⟨k, T, C1, hk, rfl, HX, HA, HE, HG⟩ := hrel
    clear HX3 HB3' HSZ2 HONE2
    have HT : Hid (IsTask wr (.agg C1) T) := Lib.hid (HA.out wr (HT2.out.below HG.out))
    have HB : Hid (Below w.heap.size w wr) := Lib.hid (below_call HB2.out HG.out HB2.out.size)
    obtain ⟨C', hC', hsz, hone, x34, x35⟩ := HT.out.parts
    injection hC' with hC'
    subst hC'
    have x1 := HT.out.pc
    have d1 := (HX.out.cell 1).trans x1
    have d34 := (HX.out.cell 34).trans x34
    have d35 := (HX.out.cell 35).trans x35
    have HSZ := Lib.hid hsz
    have HONE := Lib.hid hone
    clear hsz hone
    by_cases hlt : k < l.length
    · have hki : (k : Int) < (l.length : Int) := by omega
      have HEn := Lib.hid (fun m => ends_step HE.out m)
      have three : (¬ k < ls.length) ∨ (∃ h : k < ls.length, 256 < (ls[k]).2.length) ∨ (∃ h : k < ls.length, (ls[k]).2.length ≤ 256) := by
        by_cases h : k < ls.length
        · by_cases h2 : 256 < (ls[k]).2.length
          · exact .inr (.inl ⟨h, h2⟩)
          · exact .inr (.inr ⟨h, by omega⟩)
        · exact .inl h
      rcases three with hkm | ⟨hkm, h256⟩ | ⟨hkm, h256⟩
      · have hkm' : ¬ (k : Int) < (ls.length : Int) := by omega
        have HW := Lib.hid (Words.nil wr)
        have HF := Lib.hid (HEn.out [])
        go_wp2_with (first | with_reducible refine load_stop rfl 42 _ rfl ?_ | with_reducible refine store_stop rfl 42 _ _ rfl ?_)
        refine AtLoad.go w2.heap.size rfl HX.out Try.underlying42 rfl (size_task' HSZ.out) ?_
        go_wp2_with (first | with_reducible refine load_stop rfl 42 _ rfl ?_ | with_reducible refine store_stop rfl 42 _ _ rfl ?_)
        refine (step_call HT.out HW.out).mono ?_
        rintro e w4 ⟨v4, v5, rfl, ht4, _, hb4⟩
        have hT4 := ht4 w4 (HT.out.below hb4)
        obtain ⟨C4, rfl, hsz4, hone4, y34, _⟩ := hT4.parts
        have y1 := hT4.pc
        have hF := HF.out
        have HA4 : Hid (∀ W, IsTask W (.agg C) (startT l) → IsTask W (.agg C4) (stepT T _).1) := Lib.hid fun W hW => ht4 W (HA.out W hW)
        have HB4 := Lib.hid (below_call HG.out hb4 HG.out.size)
        have HX4 := Lib.hid (HX.out.kept hb4)
        have HSZ4 := Lib.hid hsz4
        have HONE4 := Lib.hid hone4
        generalize (stepT T _).1 = T4 at *
        clear ht4 hb4 hT4 hsz4 hone4 HF HEn HE d1 d34
        go_wp2_with (first | with_reducible refine load_stop rfl 42 _ rfl ?_ | with_reducible refine store_stop rfl 42 _ _ rfl ?_)
        refine AtStore.go w4.heap.size rfl rfl (Box.new w4 _ _) (size_task' HSZ4.out) (by rw [HSZ4.out]; rfl) HONE4.out ?_
        refine wpl_at fun W5 hW5 => ?_
        have hb5 : Below w4.heap.size w4 W5 := by rw [hW5]; exact below_row ((Below.refl _ w4).alloc (Nat.le_refl _) _) (Nat.le_refl _) _
        have hy5 : Box W5 w4.heap.size 42 C4 := by rw [hW5]; exact (Box.new w4 _ _).row _
        have hx5 := HX4.out.kept hb5
        have HB5 := Lib.hid (below_call HB4.out hb5 HB4.out.size)
        have z1 := (hy5.cell 1).trans y1
        have z34 := (hy5.cell 34).trans y34
        have f34 := (hx5.cell 34).trans x34
        have f1 := (hx5.cell 1).trans x1
        have HY5 := Lib.hid hy5
        have HX5 := Lib.hid hx5
        clear hW5 hb5 HB4 HX4 y1 y34 hy5 hx5
        have HE4 := Lib.hid hF.1
        have three : (T.t.done = true) ∨ (T.t.done = false ∧ T4.t.done = true) ∨ (T.t.done = false ∧ T4.t.done = false ∧ ¬ T4.t.pc ≤ T.t.pc) := by
          by_cases h1 : T.t.done = true
          · exact .inl h1
          · by_cases h2 : T4.t.done = true
            · exact .inr (.inl ⟨by simpa using h1, h2⟩)
            · have h1' : T.t.done = false := by simpa using h1
              have h2' : T4.t.done = false := by simpa using h2
              have := hF.2 h1' h2'
              exact .inr (.inr ⟨h1', h2', by omega⟩)
        clear hF
        rcases three with e1 | ⟨e1, e2⟩ | ⟨e1, e2, e3⟩
        · rw [e1] at f34
          clear e1
          go_wp2_with (first | with_reducible refine load_stop rfl 42 _ rfl ?_ | with_reducible refine store_stop rfl 42 _ _ rfl ?_)
          refine AtLoad.go w4.heap.size rfl HY5.out Try.underlying42 rfl (size_task' HSZ4.out) ?_
          go_wp2_with (first | with_reducible refine load_stop rfl 42 _ rfl ?_ | with_reducible refine store_stop rfl 42 _ _ rfl ?_)
          refine AtStore.go w2.heap.size rfl rfl HX5.out (size_task' HSZ4.out) (by rw [HSZ.out, HSZ4.out]) HONE4.out ?_
          go_wp2
          go_roundw
          case rel => exact ⟨k + 1, T4, C4, by omega, by go_num, Lib.hid (HX5.out.row _), HA4, HE4, Lib.hid (below_row HB5.out (Nat.le_refl _) _)⟩
          case measure => simp [intOf]; omega
        · rw [e1] at f34
          rw [e2] at z34
          clear e1 e2
          go_wp2_with (first | with_reducible refine load_stop rfl 42 _ rfl ?_ | with_reducible refine store_stop rfl 42 _ _ rfl ?_)
          refine AtLoad.go w4.heap.size rfl HY5.out Try.underlying42 rfl (size_task' HSZ4.out) ?_
          go_wp2_with (first | with_reducible refine load_stop rfl 42 _ rfl ?_ | with_reducible refine store_stop rfl 42 _ _ rfl ?_)
          refine AtStore.go w2.heap.size rfl rfl HX5.out (size_task' HSZ4.out) (by rw [HSZ.out, HSZ4.out]) HONE4.out ?_
          go_wp2
          go_roundw
          case rel => exact ⟨k + 1, T4, C4, by omega, by go_num, Lib.hid (HX5.out.row _), HA4, HE4, Lib.hid (below_row HB5.out (Nat.le_refl _) _)⟩
          case measure => simp [intOf]; omega
        · rw [e1] at f34
          rw [e2] at z34
          clear e1 e2
          go_wp2_with (first | with_reducible refine load_stop rfl 42 _ rfl ?_ | with_reducible refine store_stop rfl 42 _ _ rfl ?_)
          refine AtLoad.go w4.heap.size rfl HY5.out Try.underlying42 rfl (size_task' HSZ4.out) ?_
          go_wp2_with (first | with_reducible refine load_stop rfl 42 _ rfl ?_ | with_reducible refine store_stop rfl 42 _ _ rfl ?_)
          refine AtStore.go w2.heap.size rfl rfl HX5.out (size_task' HSZ4.out) (by rw [HSZ.out, HSZ4.out]) HONE4.out ?_
          go_wp2
          go_roundw
          case rel => exact ⟨k + 1, T4, C4, by omega, by go_num, Lib.hid (HX5.out.row _), HA4, HE4, Lib.hid (below_row HB5.out (Nat.le_refl _) _)⟩
          case measure => simp [intOf]; omega
      · have hkm' : (k : Int) < (ls.length : Int) := by omega
        obtain ⟨b1, o1, rfl, _, p1, hw1⟩ := (HM.out.below HB.out).at_ rfl hkm
        obtain ⟨A1, n1, hf1, hf2, hf3, _⟩ := hw1.1.form
        unfold maxLen at hf3
        rw [hf1] at p1
        have HW := Lib.hid (Words.nil wr)
        have HF := Lib.hid (HEn.out [])
        clear hw1 hf1
        generalize (ls[k]).2 = mk at *
        have h256' : ¬ (mk.length : Int) ≤ 256 := by omega
        go_wp2_with (first | with_reducible refine load_stop rfl 42 _ rfl ?_ | with_reducible refine store_stop rfl 42 _ _ rfl ?_)
        refine AtLoad.go w2.heap.size rfl HX.out Try.underlying42 rfl (size_task' HSZ.out) ?_
        go_wp2_with (first | with_reducible refine load_stop rfl 42 _ rfl ?_ | with_reducible refine store_stop rfl 42 _ _ rfl ?_)
        refine (step_call HT.out HW.out).mono ?_
        rintro e w4 ⟨v4, v5, rfl, ht4, _, hb4⟩
        have hT4 := ht4 w4 (HT.out.below hb4)
        obtain ⟨C4, rfl, hsz4, hone4, y34, _⟩ := hT4.parts
        have y1 := hT4.pc
        have hF := HF.out
        have HA4 : Hid (∀ W, IsTask W (.agg C) (startT l) → IsTask W (.agg C4) (stepT T _).1) := Lib.hid fun W hW => ht4 W (HA.out W hW)
        have HB4 := Lib.hid (below_call HG.out hb4 HG.out.size)
        have HX4 := Lib.hid (HX.out.kept hb4)
        have HSZ4 := Lib.hid hsz4
        have HONE4 := Lib.hid hone4
        generalize (stepT T _).1 = T4 at *
        clear ht4 hb4 hT4 hsz4 hone4 HF HEn HE d1 d34
        go_wp2_with (first | with_reducible refine load_stop rfl 42 _ rfl ?_ | with_reducible refine store_stop rfl 42 _ _ rfl ?_)
        refine AtStore.go w4.heap.size rfl rfl (Box.new w4 _ _) (size_task' HSZ4.out) (by rw [HSZ4.out]; rfl) HONE4.out ?_
        refine wpl_at fun W5 hW5 => ?_
        have hb5 : Below w4.heap.size w4 W5 := by rw [hW5]; exact below_row ((Below.refl _ w4).alloc (Nat.le_refl _) _) (Nat.le_refl _) _
        have hy5 : Box W5 w4.heap.size 42 C4 := by rw [hW5]; exact (Box.new w4 _ _).row _
        have hx5 := HX4.out.kept hb5
        have HB5 := Lib.hid (below_call HB4.out hb5 HB4.out.size)
        have z1 := (hy5.cell 1).trans y1
        have z34 := (hy5.cell 34).trans y34
        have f34 := (hx5.cell 34).trans x34
        have f1 := (hx5.cell 1).trans x1
        have HY5 := Lib.hid hy5
        have HX5 := Lib.hid hx5
        clear hW5 hb5 HB4 HX4 y1 y34 hy5 hx5
        have HE4 := Lib.hid hF.1
        have three : (T.t.done = true) ∨ (T.t.done = false ∧ T4.t.done = true) ∨ (T.t.done = false ∧ T4.t.done = false ∧ ¬ T4.t.pc ≤ T.t.pc) := by
          by_cases h1 : T.t.done = true
          · exact .inl h1
          · by_cases h2 : T4.t.done = true
            · exact .inr (.inl ⟨by simpa using h1, h2⟩)
            · have h1' : T.t.done = false := by simpa using h1
              have h2' : T4.t.done = false := by simpa using h2
              have := hF.2 h1' h2'
              exact .inr (.inr ⟨h1', h2', by omega⟩)
        clear hF
        rcases three with e1 | ⟨e1, e2⟩ | ⟨e1, e2, e3⟩
        · rw [e1] at f34
          clear e1
          go_wp2_with (first | with_reducible refine load_stop rfl 42 _ rfl ?_ | with_reducible refine store_stop rfl 42 _ _ rfl ?_)
          refine AtLoad.go w4.heap.size rfl HY5.out Try.underlying42 rfl (size_task' HSZ4.out) ?_
          go_wp2_with (first | with_reducible refine load_stop rfl 42 _ rfl ?_ | with_reducible refine store_stop rfl 42 _ _ rfl ?_)
          refine AtStore.go w2.heap.size rfl rfl HX5.out (size_task' HSZ4.out) (by rw [HSZ.out, HSZ4.out]) HONE4.out ?_
          go_wp2
          go_roundw
          case rel => exact ⟨k + 1, T4, C4, by omega, by go_num, Lib.hid (HX5.out.row _), HA4, HE4, Lib.hid (below_row HB5.out (Nat.le_refl _) _)⟩
          case measure => simp [intOf]; omega
        · rw [e1] at f34
          rw [e2] at z34
          clear e1 e2
          go_wp2_with (first | with_reducible refine load_stop rfl 42 _ rfl ?_ | with_reducible refine store_stop rfl 42 _ _ rfl ?_)
          refine AtLoad.go w4.heap.size rfl HY5.out Try.underlying42 rfl (size_task' HSZ4.out) ?_
          go_wp2_with (first | with_reducible refine load_stop rfl 42 _ rfl ?_ | with_reducible refine store_stop rfl 42 _ _ rfl ?_)
          refine AtStore.go w2.heap.size rfl rfl HX5.out (size_task' HSZ4.out) (by rw [HSZ.out, HSZ4.out]) HONE4.out ?_
          go_wp2
          go_roundw
          case rel => exact ⟨k + 1, T4, C4, by omega, by go_num, Lib.hid (HX5.out.row _), HA4, HE4, Lib.hid (below_row HB5.out (Nat.le_refl _) _)⟩
          case measure => simp [intOf]; omega
        · rw [e1] at f34
          rw [e2] at z34
          clear e1 e2
          go_wp2_with (first | with_reducible refine load_stop rfl 42 _ rfl ?_ | with_reducible refine store_stop rfl 42 _ _ rfl ?_)
          refine AtLoad.go w4.heap.size rfl HY5.out Try.underlying42 rfl (size_task' HSZ4.out) ?_
          go_wp2_with (first | with_reducible refine load_stop rfl 42 _ rfl ?_ | with_reducible refine store_stop rfl 42 _ _ rfl ?_)
          refine AtStore.go w2.heap.size rfl rfl HX5.out (size_task' HSZ4.out) (by rw [HSZ.out, HSZ4.out]) HONE4.out ?_
          go_wp2
          go_roundw
          case rel => exact ⟨k + 1, T4, C4, by omega, by go_num, Lib.hid (HX5.out.row _), HA4, HE4, Lib.hid (below_row HB5.out (Nat.le_refl _) _)⟩
          case measure => simp [intOf]; omega
      · have hkm' : (k : Int) < (ls.length : Int) := by omega
        obtain ⟨b1, o1, rfl, _, p1, hw1⟩ := (HM.out.below HB.out).at_ rfl hkm
        obtain ⟨A1, n1, hf1, hf2, hf3, _⟩ := hw1.1.form
        unfold maxLen at hf3
        rw [hf1] at p1 hw1
        have HW := Lib.hid hw1
        have HF := Lib.hid (HEn.out (ls[k]).2)
        clear hw1 hf1
        generalize (ls[k]).2 = mk at *
        have h256' : (mk.length : Int) ≤ 256 := by omega
        go_wp2_with (first | with_reducible refine load_stop rfl 42 _ rfl ?_ | with_reducible refine store_stop rfl 42 _ _ rfl ?_)
        refine AtLoad.go w2.heap.size rfl HX.out Try.underlying42 rfl (size_task' HSZ.out) ?_
        go_wp2_with (first | with_reducible refine load_stop rfl 42 _ rfl ?_ | with_reducible refine store_stop rfl 42 _ _ rfl ?_)
        refine (step_call HT.out HW.out).mono ?_
        rintro e w4 ⟨v4, v5, rfl, ht4, _, hb4⟩
        have hT4 := ht4 w4 (HT.out.below hb4)
        obtain ⟨C4, rfl, hsz4, hone4, y34, _⟩ := hT4.parts
        have y1 := hT4.pc
        have hF := HF.out
        have HA4 : Hid (∀ W, IsTask W (.agg C) (startT l) → IsTask W (.agg C4) (stepT T _).1) := Lib.hid fun W hW => ht4 W (HA.out W hW)
        have HB4 := Lib.hid (below_call HG.out hb4 HG.out.size)
        have HX4 := Lib.hid (HX.out.kept hb4)
        have HSZ4 := Lib.hid hsz4
        have HONE4 := Lib.hid hone4
        generalize (stepT T _).1 = T4 at *
        clear ht4 hb4 hT4 hsz4 hone4 HF HEn HE d1 d34
        go_wp2_with (first | with_reducible refine load_stop rfl 42 _ rfl ?_ | with_reducible refine store_stop rfl 42 _ _ rfl ?_)
        refine AtStore.go w4.heap.size rfl rfl (Box.new w4 _ _) (size_task' HSZ4.out) (by rw [HSZ4.out]; rfl) HONE4.out ?_
        refine wpl_at fun W5 hW5 => ?_
        have hb5 : Below w4.heap.size w4 W5 := by rw [hW5]; exact below_row ((Below.refl _ w4).alloc (Nat.le_refl _) _) (Nat.le_refl _) _
        have hy5 : Box W5 w4.heap.size 42 C4 := by rw [hW5]; exact (Box.new w4 _ _).row _
        have hx5 := HX4.out.kept hb5
        have HB5 := Lib.hid (below_call HB4.out hb5 HB4.out.size)
        have z1 := (hy5.cell 1).trans y1
        have z34 := (hy5.cell 34).trans y34
        have f34 := (hx5.cell 34).trans x34
        have f1 := (hx5.cell 1).trans x1
        have HY5 := Lib.hid hy5
        have HX5 := Lib.hid hx5
        clear hW5 hb5 HB4 HX4 y1 y34 hy5 hx5
        have HE4 := Lib.hid hF.1
        have three : (T.t.done = true) ∨ (T.t.done = false ∧ T4.t.done = true) ∨ (T.t.done = false ∧ T4.t.done = false ∧ ¬ T4.t.pc ≤ T.t.pc) := by
          by_cases h1 : T.t.done = true
          · exact .inl h1
          · by_cases h2 : T4.t.done = true
            · exact .inr (.inl ⟨by simpa using h1, h2⟩)
            · have h1' : T.t.done = false := by simpa using h1
              have h2' : T4.t.done = false := by simpa using h2
              have := hF.2 h1' h2'
              exact .inr (.inr ⟨h1', h2', by omega⟩)
        clear hF
        rcases three with e1 | ⟨e1, e2⟩ | ⟨e1, e2, e3⟩
        · rw [e1] at f34
          clear e1
          go_wp2_with (first | with_reducible refine load_stop rfl 42 _ rfl ?_ | with_reducible refine store_stop rfl 42 _ _ rfl ?_)
          refine AtLoad.go w4.heap.size rfl HY5.out Try.underlying42 rfl (size_task' HSZ4.out) ?_
          go_wp2_with (first | with_reducible refine load_stop rfl 42 _ rfl ?_ | with_reducible refine store_stop rfl 42 _ _ rfl ?_)
          refine AtStore.go w2.heap.size rfl rfl HX5.out (size_task' HSZ4.out) (by rw [HSZ.out, HSZ4.out]) HONE4.out ?_
          go_wp2
          go_roundw
          case rel => exact ⟨k + 1, T4, C4, by omega, by go_num, Lib.hid (HX5.out.row _), HA4, HE4, Lib.hid (below_row HB5.out (Nat.le_refl _) _)⟩
          case measure => simp [intOf]; omega
        · rw [e1] at f34
          rw [e2] at z34
          clear e1 e2
          go_wp2_with (first | with_reducible refine load_stop rfl 42 _ rfl ?_ | with_reducible refine store_stop rfl 42 _ _ rfl ?_)
          refine AtLoad.go w4.heap.size rfl HY5.out Try.underlying42 rfl (size_task' HSZ4.out) ?_
          go_wp2_with (first | with_reducible refine load_stop rfl 42 _ rfl ?_ | with_reducible refine store_stop rfl 42 _ _ rfl ?_)
          refine AtStore.go w2.heap.size rfl rfl HX5.out (size_task' HSZ4.out) (by rw [HSZ.out, HSZ4.out]) HONE4.out ?_
          go_wp2
          go_roundw
          case rel => exact ⟨k + 1, T4, C4, by omega, by go_num, Lib.hid (HX5.out.row _), HA4, HE4, Lib.hid (below_row HB5.out (Nat.le_refl _) _)⟩
          case measure => simp [intOf]; omega
        · rw [e1] at f34
          rw [e2] at z34
          clear e1 e2
          go_wp2_with (first | with_reducible refine load_stop rfl 42 _ rfl ?_ | with_reducible refine store_stop rfl 42 _ _ rfl ?_)
          refine AtLoad.go w4.heap.size rfl HY5.out Try.underlying42 rfl (size_task' HSZ4.out) ?_
          go_wp2_with (first | with_reducible refine load_stop rfl 42 _ rfl ?_ | with_reducible refine store_stop rfl 42 _ _ rfl ?_)
          refine AtStore.go w2.heap.size rfl rfl HX5.out (size_task' HSZ4.out) (by rw [HSZ.out, HSZ4.out]) HONE4.out ?_
          go_wp2
          go_roundw
          case rel => exact ⟨k + 1, T4, C4, by omega, by go_num, Lib.hid (HX5.out.row _), HA4, HE4, Lib.hid (below_row HB5.out (Nat.le_refl _) _)⟩
          case measure => simp [intOf]; omega
    · have hki : ¬ (k : Int) < (l.length : Int) := by omega
      have he : k = l.length := by omega
      have hE := HE.out
      rw [he] at hE
      obtain ⟨q1, q2⟩ := ends_all hE
      rw [q1] at d34
      have HQ := Lib.hid q2
      clear hE he q1 q2
      go_wp2_with fail
      refine (sane_call (HI.out.below HB.out)).mono ?_
      rintro e w4 ⟨rfl, hb4⟩
      have HB4 := Lib.hid (below_call HB.out hb4 HB.out.size)
      have f35 := ((HX.out.kept hb4).cell 35).trans x35
      clear hb4 d1 d34 d35
      by_cases hs : Sane l
      · rw [decide_eq_true hs]
        clear hs HQ
        go_wp2
        go_ret
        exact ⟨rfl, HB4.out⟩
      · rw [decide_eq_false hs]
        rw [HQ.out hs] at f35
        clear hs HQ
        go_wp2
        go_ret
        exact ⟨rfl, HB4.out⟩
end Go.Proofs.Ytpkelneimjmmkaa

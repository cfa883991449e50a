/- The contracts of ring.Taken, of the reference's, and of the words that layer 14's statements lay. -/
import Derived.Test.YtpkelneimjmmkaaRingO
namespace Go.Proofs.Ytpkelneimjmmkaa
open Go.RowKit

def wordsR (n : Int) : List Int := [IntKind.u64.wrap (IntKind.u64.wrap n + 1), IntKind.u64.wrap (IntKind.u64.wrap n + 2), IntKind.u64.wrap (IntKind.u64.wrap n + 3), IntKind.u64.wrap (IntKind.u64.wrap n * 7), bits BinOp.xor IntKind.u64 IntKind.u64.max (IntKind.u64.wrap n), bits BinOp.xor IntKind.u64 (IntKind.u64.wrap n) 5]
theorem wrap_w64 (x : Int) : W64 (IntKind.u64.wrap x) := by rw [IntKind.wrap_u64]; unfold W64; omega
theorem xor_w64 (x y : Int) : W64 (bits .xor .u64 x y) := by
  show W64 (IntKind.u64.wrap _)
  exact wrap_w64 _
theorem wordsR_ok (n : Int) : ∀ x ∈ wordsR n, W64 x := by
  intro x hx
  simp only [wordsR, List.mem_cons, List.not_mem_nil, or_false] at hx
  rcases hx with rfl | rfl | rfl | rfl | rfl | rfl
  · exact wrap_w64 _
  · exact wrap_w64 _
  · exact wrap_w64 _
  · exact wrap_w64 _
  · exact xor_w64 _ _
  · exact xor_w64 _ _
theorem wordsR_len (n : Int) : (wordsR n).length = 6 := rfl
def WordsPost (ms : List Int) (w : World) (e : Ending) (w' : World) : Prop := ∃ v, e = .returned v ∧ Words w' v ms ∧ Below w.heap.size w w'
theorem words14_call (n : Int) (w : World) : Calls Try.prog 69 #[.int .i64 n] w (WordsPost (wordsR n) w) := by
  have F : Hid (WordsPost (wordsR n) w (.returned (.slice (some ⟨w.heap.size, 0, none⟩) 6 6)) (w.alloc (.cells (u64s (wordsR n)).toArray 30))) := Lib.hid ⟨_, rfl, words_new w (wordsR n) (wordsR_ok n) (by rw [wordsR_len]; omega) _, (Below.refl _ w).alloc (Nat.le_refl _) _⟩
  go_enter Try.func69, Try.ntmps69
  go_wp2
  go_ret
  exact F.out

def takenRB (T : FT) : Bool := decide (T.t.done = true ∧ T.t.ans = 1)
def takenRL (T : FT) : List Int := if takenRB T then (T.t.regs.drop 1).take 6 else []
def TakenRPost (T : FT) (w : World) (e : Ending) (w' : World) : Prop :=
  ∃ v, e = .returned (.tuple #[v, .bool (takenRB T)]) ∧ Words w' v (takenRL T) ∧ Below w.heap.size w w'
theorem TakenRPost.nope {T : FT} {w w' : World} (h : ¬ (T.t.done = true ∧ T.t.ans = 1)) (hb : Below w.heap.size w w') : TakenRPost T w (.returned (.tuple #[.slice none 0 0, .bool false])) w' := by
  have hB : takenRB T = false := decide_eq_false h
  refine ⟨.slice none 0 0, by rw [hB], ?_, hb⟩
  unfold takenRL; rw [hB]; exact Words.nil _
theorem TakenRPost.yes {T : FT} {w w' : World} {v : Value} (h : T.t.done = true ∧ T.t.ans = 1) (hv : Words w' v ((T.t.regs.drop 1).take 6)) (hb : Below w.heap.size w w') : TakenRPost T w (.returned (.tuple #[v, .bool true])) w' := by
  have hB : takenRB T = true := decide_eq_true h
  refine ⟨v, by rw [hB], ?_, hb⟩
  unfold takenRL; rw [hB]; exact hv
theorem six_regs {l : List Int} (h : l.length = 32) : (l.drop 1).take 6 = [l.getD 1 0, l.getD 2 0, l.getD 3 0, l.getD 4 0, l.getD 5 0, l.getD 6 0] := by
  obtain ⟨c1, c2⟩ := regs_cut h (show 6 ≤ 28 by omega)
  apply List.ext_getElem?
  intro j
  by_cases hj : j < 6
  · have e1 := c2 j hj
    rw [List.getD_eq_getElem?_getD, List.getElem?_eq_getElem (by omega)] at e1
    rw [List.getElem?_eq_getElem (by omega)]
    simp only [Option.getD_some] at e1
    rw [e1]
    obtain rfl | rfl | rfl | rfl | rfl | rfl : j = 0 ∨ j = 1 ∨ j = 2 ∨ j = 3 ∨ j = 4 ∨ j = 5 := by omega
    all_goals rfl
  · rw [List.getElem?_eq_none (by omega), List.getElem?_eq_none (by simp; omega)]

set_option maxHeartbeats 4000000 in
set_option maxRecDepth 20000 in
theorem takenR_call {v : Value} {T : FT} {w : World} (h : IsTask w v T) : Calls Try.prog 58 #[v] w (TakenRPost T w) := by
  obtain ⟨cv, rfl, hI, ht, hc⟩ := h
  have h32 := ht.1
  have e34 := tcells_34 (cv := cv) h32
  have e35 := tcells_35 (cv := cv) h32
  have HR := Lib.hid (fun i (hi : i < 32) => tcells_reg (cv := cv) h32 hi)
  have HW := Lib.hid ht.2.1
  have HH := Lib.hid h32
  have HB0 : Hid (∀ o, Below w.heap.size w (w.alloc o)) := Lib.hid fun o => (Below.refl _ w).alloc (Nat.le_refl _) o
  generalize tcells cv T.t = C at *
  clear hI ht hc h32
  by_cases hd : ¬ T.t.done = true
  · have hd' : T.t.done = false := by simpa using hd
    rw [hd'] at e34
    have F := Lib.hid (fun w' hb => TakenRPost.nope (w := w) (w' := w') (fun h => hd h.1) hb)
    clear hd hd'
    go_enter Try.func58, Try.ntmps58
    go_wp2
    go_ret2
    exact F.out _ (HB0.out _)
  have hd' := Decidable.not_not.1 hd
  rw [hd'] at e34
  by_cases ha : ¬ T.t.ans = 1
  · have hne : (T.t.ans != 1) = true := by simpa using ha
    have F := Lib.hid (fun w' hb => TakenRPost.nope (w := w) (w' := w') (fun h => ha h.2) hb)
    clear hd hd'
    go_enter Try.func58, Try.ntmps58
    go_wp2
    go_ret2
    exact F.out _ (HB0.out _)
  have ha' := Decidable.not_not.1 ha
  rw [ha'] at e35
  obtain ⟨hcl, hcg⟩ := regs_cut HH.out (show 6 ≤ 28 by omega)
  have F : Hid (∀ v w', Words w' v ((T.t.regs.drop 1).take 6) → Below w.heap.size w w' → TakenRPost T w (.returned (.tuple #[v, .bool true])) w') := Lib.hid fun v w' hv hb => TakenRPost.yes ⟨hd', ha'⟩ hv hb
  have HCW : Hid (∀ x ∈ (T.t.regs.drop 1).take 6, W64 x) := Lib.hid fun x hx => HW.out x (List.mem_of_mem_drop (List.mem_of_mem_take hx))
  have HSL : Hid (∀ W, Box W w.heap.size 42 C → Sl W (.slice (some ⟨w.heap.size, 2 + 1, none⟩) 6 31) 1 6 (u64s ((T.t.regs.drop 1).take 6))) := Lib.hid fun W hW => by
    refine ⟨by rw [u64s_len, hcl], some ⟨w.heap.size, 2 + 1, none⟩, 31, rfl, by omega, by simp [maxLen], (fun e => by cases e), fun _ => ⟨_, rfl, hW.lt, fun j u hu => ?_⟩⟩
    have hj : j < 6 := by have := (List.getElem?_eq_some_iff.1 hu).1; rw [u64s_len, hcl] at this; exact this
    rw [u64s_get (by rw [hcl]; exact hj), hcg j hj] at hu
    rw [add_lit, hW.cell, show 2 + 1 + j = 2 + (1 + j) by omega, HR.out (1 + j) (by omega)]
    exact hu
  have HCL := Lib.hid hcl
  generalize (T.t.regs.drop 1).take 6 = ws at *
  clear hd hd' ha ha' hcl hcg
  go_enter Try.func58, Try.ntmps58
  go_wp2_with fail
  refine calls_at fun W0 hW0 => ?_
  have bx : Box W0 w.heap.size 42 C := by rw [hW0]; exact Box.new _ _ _
  have hb0 : Below w.heap.size w W0 := by rw [hW0]; exact HB0.out _
  clear hW0
  refine (clone_u64 _ 6 (u64s ws) W0 (HSL.out W0 bx) (by omega) (one_u64s ws)).mono ?_
  rintro e w5 ⟨v5, rfl, ho5, hb5⟩
  have hwd : Words w5 v5 ws := ⟨by rw [HCL.out]; exact Sl.of_own ho5, HCW.out⟩
  have HF := Lib.hid (F.out v5 w5 hwd (below_call hb0 hb5 hb0.size))
  clear hwd ho5 hb5 hb0 bx
  go_wp2
  go_ret2
  exact HF.out

set_option maxHeartbeats 4000000 in
set_option maxRecDepth 20000 in
theorem refTakenR_call {v : Value} {T : FT} {w : World} (h : IsTask w v T) : Calls Try.prog 59 #[v] w (TakenRPost T w) := by
  obtain ⟨cv, rfl, hI, ht, hc⟩ := h
  have h32 := ht.1
  have e34 := tcells_34 (cv := cv) h32
  have e35 := tcells_35 (cv := cv) h32
  have r1 := tcells_reg (cv := cv) h32 (show 1 < 32 by omega)
  have r2 := tcells_reg (cv := cv) h32 (show 2 < 32 by omega)
  have r3 := tcells_reg (cv := cv) h32 (show 3 < 32 by omega)
  have r4 := tcells_reg (cv := cv) h32 (show 4 < 32 by omega)
  have r5 := tcells_reg (cv := cv) h32 (show 5 < 32 by omega)
  have r6 := tcells_reg (cv := cv) h32 (show 6 < 32 by omega)
  have HW := Lib.hid ht.2.1
  have HH := Lib.hid h32
  have HS := Lib.hid (six_regs h32)
  have HB0 : Hid (∀ o, Below w.heap.size w (w.alloc o)) := Lib.hid fun o => (Below.refl _ w).alloc (Nat.le_refl _) o
  generalize tcells cv T.t = C at *
  clear hI ht hc h32
  by_cases hd : ¬ T.t.done = true
  · have hd' : T.t.done = false := by simpa using hd
    rw [hd'] at e34
    have F := Lib.hid (fun w' hb => TakenRPost.nope (w := w) (w' := w') (fun h => hd h.1) hb)
    clear hd hd' r1 r2 r3 r4 r5 r6
    go_enter Try.func59, Try.ntmps59
    go_wp2
    go_ret2
    exact F.out _ (HB0.out _)
  have hd' := Decidable.not_not.1 hd
  rw [hd'] at e34
  by_cases ha : ¬ T.t.ans = 1
  · have hne : (T.t.ans != 1) = true := by simpa using ha
    have F := Lib.hid (fun w' hb => TakenRPost.nope (w := w) (w' := w') (fun h => ha h.2) hb)
    clear hd hd' r1 r2 r3 r4 r5 r6
    go_enter Try.func59, Try.ntmps59
    go_wp2
    go_ret2
    exact F.out _ (HB0.out _)
  have ha' := Decidable.not_not.1 ha
  rw [ha'] at e35
  have F : Hid (∀ v w', Words w' v [T.t.regs.getD 1 0, T.t.regs.getD 2 0, T.t.regs.getD 3 0, T.t.regs.getD 4 0, T.t.regs.getD 5 0, T.t.regs.getD 6 0] → Below w.heap.size w w' → TakenRPost T w (.returned (.tuple #[v, .bool true])) w') := Lib.hid fun v w' hv hb => TakenRPost.yes ⟨hd', ha'⟩ (by rw [HS.out]; exact hv) hb
  have HCW : Hid (∀ x ∈ [T.t.regs.getD 1 0, T.t.regs.getD 2 0, T.t.regs.getD 3 0, T.t.regs.getD 4 0, T.t.regs.getD 5 0, T.t.regs.getD 6 0], W64 x) := Lib.hid fun x hx => by
    rw [← HS.out] at hx
    exact HW.out x (List.mem_of_mem_drop (List.mem_of_mem_take hx))
  have FF : Hid (∀ o, TakenRPost T w (.returned (.tuple #[.slice (some ⟨(w.alloc o).heap.size, 0, none⟩) 6 6, .bool true])) ((w.alloc o).alloc (.cells (u64s [T.t.regs.getD 1 0, T.t.regs.getD 2 0, T.t.regs.getD 3 0, T.t.regs.getD 4 0, T.t.regs.getD 5 0, T.t.regs.getD 6 0]).toArray 30))) := Lib.hid fun o =>
    F.out _ _ (words_new (w.alloc o) _ HCW.out (by simp) _) ((HB0.out o).alloc (HB0.out o).size _)
  generalize T.t.regs.getD 1 0 = q1 at *
  generalize T.t.regs.getD 2 0 = q2 at *
  generalize T.t.regs.getD 3 0 = q3 at *
  generalize T.t.regs.getD 4 0 = q4 at *
  generalize T.t.regs.getD 5 0 = q5 at *
  generalize T.t.regs.getD 6 0 = q6 at *
  clear hd hd' ha ha'
  simp only [Nat.reduceAdd] at r1 r2 r3 r4 r5 r6
  have FF2 := fun o => FF.out o
  simp only [World.size_alloc] at FF2
  have FF3 := Lib.hid FF2
  clear FF2 FF F
  go_enter Try.func59, Try.ntmps59
  go_wp2
  go_ret2
  exact FF3.out _
end Go.Proofs.Ytpkelneimjmmkaa

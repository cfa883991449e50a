/- Both at their first program. -/
import Derived.Test.YtpkelneimjmmkaaRingTake
namespace Go.Proofs.Ytpkelneimjmmkaa
open Go.RowKit

def placesL : Array (Nat × Nat) := #[(0, 1), (1, 1), (2, 1), (3, 1), (4, 1), (5, 1), (6, 1), (7, 36), (43, 36), (79, 1), (80, 1), (81, 1)]
def taskZ : List Value := (tcells (.slice none 0 0) tsk0).toList
def playZ : List Value := [.slice none 0 0, .int .i64 0, .int .i64 0, .int .i64 0, .slice none 0 0, .int .i64 0, .int .i64 0] ++ taskZ ++ (taskZ ++ [.int .i64 0, .int .i64 0, .bool false])
theorem play_zero (w : World) : (zeroValue 88).run Try.prog w = .ok (.agg playZ.toArray) w := by kernel_rfl
theorem play_places (w : World) : ∃ fs : Array Field, Try.prog.underlying 88 = some (.struct fs) ∧ (fs.mapM fun (f : Field) => do pure (f.offset, ← sizeOf f.type) : Sem (Array (Nat × Nat))).run Try.prog w = .ok placesL w := ⟨_, Try.underlying88, by kernel_rfl⟩
theorem play_build {v : Value} {b c : Int} {cl1 cl2 : List Value} (hv : v.cells = #[v]) (h1 : cl1.length = 36) (h2 : cl2.length = 36) (w : World) :
    (Instr.build 88 #[(0, v), (1, .int .i64 b), (2, .int .i64 c), (7, .agg cl1.toArray), (8, .agg cl2.toArray), (11, .bool true)]).run Try.prog w =
      .ok (.agg (Ply.cells ⟨v, b, c, 0, .slice none 0 0, 0, 0, cl1, cl2, 0, 0, true⟩).toArray) w := by
  obtain ⟨fs, h3, h4⟩ := play_places w
  refine run_build (play_zero w) h3 h4 ?_
  rw [show playZ = [] ++ [.slice none 0 0] ++ ([.int .i64 0, .int .i64 0, .int .i64 0, .slice none 0 0, .int .i64 0, .int .i64 0] ++ taskZ ++ (taskZ ++ [.int .i64 0, .int .i64 0, .bool false])) from rfl]
  rw [fill_mid (vs := [v]) (off := 0) (n := 1) rfl hv rfl _ _ _ rfl rfl]
  rw [show [] ++ [v] ++ ([Value.int .i64 0, .int .i64 0, .int .i64 0, .slice none 0 0, .int .i64 0, .int .i64 0] ++ taskZ ++ (taskZ ++ [.int .i64 0, .int .i64 0, .bool false])) = [v] ++ [.int .i64 0] ++ ([.int .i64 0, .int .i64 0, .slice none 0 0, .int .i64 0, .int .i64 0] ++ taskZ ++ (taskZ ++ [.int .i64 0, .int .i64 0, .bool false])) from rfl]
  rw [fill_mid (vs := [.int .i64 b]) (off := 1) (n := 1) rfl rfl rfl _ _ _ rfl rfl]
  rw [show [v] ++ [Value.int .i64 b] ++ ([Value.int .i64 0, .int .i64 0, .slice none 0 0, .int .i64 0, .int .i64 0] ++ taskZ ++ (taskZ ++ [.int .i64 0, .int .i64 0, .bool false])) = [v, .int .i64 b] ++ [.int .i64 0] ++ ([.int .i64 0, .slice none 0 0, .int .i64 0, .int .i64 0] ++ taskZ ++ (taskZ ++ [.int .i64 0, .int .i64 0, .bool false])) from rfl]
  rw [fill_mid (vs := [.int .i64 c]) (off := 2) (n := 1) rfl rfl rfl _ _ _ rfl rfl]
  rw [show [v, Value.int .i64 b] ++ [Value.int .i64 c] ++ ([Value.int .i64 0, .slice none 0 0, .int .i64 0, .int .i64 0] ++ taskZ ++ (taskZ ++ [.int .i64 0, .int .i64 0, .bool false])) = [v, .int .i64 b, .int .i64 c, .int .i64 0, .slice none 0 0, .int .i64 0, .int .i64 0] ++ taskZ ++ (taskZ ++ [.int .i64 0, .int .i64 0, .bool false]) from rfl]
  rw [fill_mid (vs := cl1) (off := 7) (n := 36) rfl rfl h1 _ _ _ rfl rfl]
  rw [show [v, Value.int .i64 b, .int .i64 c, .int .i64 0, .slice none 0 0, .int .i64 0, .int .i64 0] ++ cl1 ++ (taskZ ++ [.int .i64 0, .int .i64 0, .bool false]) = ([v, Value.int .i64 b, .int .i64 c, .int .i64 0, .slice none 0 0, .int .i64 0, .int .i64 0] ++ cl1) ++ taskZ ++ [.int .i64 0, .int .i64 0, .bool false] by simp]
  rw [fill_mid (vs := cl2) (off := 43) (n := 36) rfl rfl h2 _ _ _ (by simp [h1]) rfl]
  rw [show ([v, Value.int .i64 b, .int .i64 c, .int .i64 0, .slice none 0 0, .int .i64 0, .int .i64 0] ++ cl1) ++ cl2 ++ [.int .i64 0, .int .i64 0, .bool false] = ([v, Value.int .i64 b, .int .i64 c, .int .i64 0, .slice none 0 0, .int .i64 0, .int .i64 0] ++ cl1 ++ cl2 ++ [.int .i64 0, .int .i64 0]) ++ [.bool false] ++ [] by simp]
  rw [fill_mid (vs := [.bool true]) (off := 81) (n := 1) rfl rfl rfl _ _ _ (by simp [h1, h2]) rfl]
  simp [Instr.fill, Ply.cells]

set_option maxHeartbeats 8000000 in
set_option maxRecDepth 20000 in
theorem begun_call {b c : Nat} (hb : b ≤ 100) (hc : 1 ≤ c) (hc' : c ≤ 8) (w : World) :
    Calls Try.prog 66 #[.int .i64 (b : Int), .int .i64 (c : Int)] w (fun e w' => ∃ g p lay take, e = .returned (.pointer (some ⟨g, 0, none⟩)) ∧ PlayI w.heap.size g w w' b c 0 p (zeros (b + 3 + 6 * c)) [] 0 0 lay take 0 0) := by
  have hsz : sizeR (c : Int) = 3 + 6 * (c : Int) := by unfold sizeR; rw [if_pos ⟨by omega, by omega, by omega, by omega⟩]
  have hbs : IntKind.i64.wrap ((b : Int) + (3 + 6 * (c : Int))) = ((b + 3 + 6 * c : Nat) : Int) := by rw [IntKind.wrap_i64]; omega
  have hnl : newLen ((b + 3 + 6 * c : Nat) : Int) = b + 3 + 6 * c := by unfold newLen; split <;> (try split) <;> omega
  have HSZ := Lib.hid hsz
  have HNL := Lib.hid hnl
  clear hsz hnl
  go_enter Try.func66, Try.ntmps66
  go_wp2_with fail
  refine (size_call (c : Int) _).mono ?_
  rintro e w1 ⟨rfl, hb1⟩
  have HB1 := Lib.hid hb1
  rw [HSZ.out]
  clear hb1
  go_wp2_with fail
  refine (new_call ((b + 3 + 6 * c : Nat) : Int) ⟨by omega, by omega⟩ _).mono ?_
  rintro e w2 ⟨v2, rfl, ho2, hb2⟩
  rw [HNL.out] at ho2
  have HO2 : Hid (Own w2 w.heap.size v2 (zeros (b + 3 + 6 * c))) := Lib.hid ⟨row_base ho2.1 HB1.out.size, ho2.2⟩
  have HB2 := Lib.hid (below_call HB1.out hb2 HB1.out.size)
  clear ho2 hb2 HB1 hbs
  go_wp2_with fail
  refine (words14_own 0 _).mono ?_
  rintro e w3 ⟨v3, rfl, ho3, hb3⟩
  have HW3 := Lib.hid ho3.words
  replace HO2 := Lib.hid (own_kept HO2.out hb3)
  replace HB2 := Lib.hid (below_call HB2.out hb3 HB2.out.size)
  clear ho3 hb3
  go_wp2_with fail
  refine (pushR_own (t := 0) (by simp [I64]) HW3.out).mono ?_
  rintro e w4 ⟨v4, rfl, hi4, hb4⟩
  have HI4 : Hid (OwnI w4 w.heap.size v4 (pushC (b : Int) (c : Int) 0 (wordsR 0))) := Lib.hid (hi4.base HB2.out.size)
  replace HO2 := Lib.hid (own_kept HO2.out hb4)
  replace HB2 := Lib.hid (below_call HB2.out hb4 HB2.out.size)
  clear hi4 hb4 HW3
  go_wp2_with fail
  refine (start_call HI4.out.inss).mono ?_
  rintro e w5 ⟨rfl, hb5⟩
  have hot := OffT.start (X := fun k => k < w.heap.size) (w := w5) (HI4.out.kept hb5) (fun k hk => hk) rfl
  generalize tcells (startCv _ _) (startT _).t = C5 at *
  obtain ⟨cl5, rfl⟩ : ∃ l : List Value, C5 = l.toArray := ⟨C5.toList, by simp⟩
  have HT5 : Hid (OffT (fun k => k < w.heap.size) w5 cl5 (startT (pushC (b : Int) (c : Int) 0 (wordsR 0)))) := Lib.hid hot
  replace HO2 := Lib.hid (own_kept HO2.out hb5)
  replace HB2 := Lib.hid (below_call HB2.out hb5 HB2.out.size)
  clear hot hb5 HI4
  go_wp2_with fail
  refine (popR_own (t := 0) (by simp [I64])).mono ?_
  rintro e w6 ⟨v6, rfl, hi6, hb6⟩
  have HI6 : Hid (OwnI w6 w.heap.size v6 (popC (b : Int) (c : Int) 0)) := Lib.hid (hi6.base HB2.out.size)
  replace HO2 := Lib.hid (own_kept HO2.out hb6)
  replace HT5 := Lib.hid (HT5.out.chg (Chg.of hb6))
  replace HB2 := Lib.hid (below_call HB2.out hb6 HB2.out.size)
  clear hi6 hb6
  go_wp2_with fail
  refine (start_call HI6.out.inss).mono ?_
  rintro e w7 ⟨rfl, hb7⟩
  have hot := OffT.start (X := fun k => k < w.heap.size) (w := w7) (HI6.out.kept hb7) (fun k hk => hk) rfl
  generalize tcells (startCv _ _) (startT _).t = C7 at *
  obtain ⟨cl7, rfl⟩ : ∃ l : List Value, C7 = l.toArray := ⟨C7.toList, by simp⟩
  have HT7 : Hid (OffT (fun k => k < w.heap.size) w7 cl7 (startT (popC (b : Int) (c : Int) 0))) := Lib.hid hot
  replace HO2 := Lib.hid (own_kept HO2.out hb7)
  replace HT5 := Lib.hid (HT5.out.chg (Chg.of hb7))
  replace HB2 := Lib.hid (below_call HB2.out hb7 HB2.out.size)
  clear hot hb7 HI6
  obtain ⟨A2, p2, hv2, _, _⟩ := row_form HO2.out.1
  subst hv2
  have hbd := play_build (v := .slice A2 (zeros (b + 3 + 6 * c)).length p2) (b := (b : Int)) (c := (c : Int)) rfl HT5.out.size.1 HT7.out.size.1
  have hpl : PlyB (w7.alloc (.cells (Ply.cells ⟨.slice A2 (zeros (b + 3 + 6 * c)).length p2, (b : Int), (c : Int), 0, .slice none 0 0, 0, 0, cl5, cl7, 0, 0, true⟩).toArray 88)) w7.heap.size ⟨.slice A2 (zeros (b + 3 + 6 * c)).length p2, (b : Int), (c : Int), 0, .slice none 0 0, 0, 0, cl5, cl7, 0, 0, true⟩ := ⟨Box.new _ _ _, HT5.out.size.1, HT7.out.size.1⟩
  have hX : ∀ k, k < w7.heap.size → Mine w7.heap.size (.slice none 0 0) k → k < w.heap.size := fun k hk hm => by
    rcases hm with e | e
    · omega
    · cases e
  have hch : Chg (fun k => k < w.heap.size) w7 (w7.alloc (.cells (Ply.cells ⟨.slice A2 (zeros (b + 3 + 6 * c)).length p2, (b : Int), (c : Int), 0, .slice none 0 0, 0, 0, cl5, cl7, 0, 0, true⟩).toArray 88)) := Chg.of ((Below.refl _ _).alloc (Nat.le_refl _) _)
  have hF : PlayI w.heap.size w7.heap.size w (w7.alloc (.cells (Ply.cells ⟨.slice A2 (zeros (b + 3 + 6 * c)).length p2, (b : Int), (c : Int), 0, .slice none 0 0, 0, 0, cl5, cl7, 0, 0, true⟩).toArray 88)) b c 0 ⟨.slice A2 (zeros (b + 3 + 6 * c)).length p2, (b : Int), (c : Int), 0, .slice none 0 0, 0, 0, cl5, cl7, 0, 0, true⟩ (zeros (b + 3 + 6 * c)) [] 0 0 (startT (pushC (b : Int) (c : Int) 0 (wordsR 0))) (startT (popC (b : Int) (c : Int) 0)) 0 0 := by
    refine ⟨hpl, rfl, rfl, rfl, rfl, rfl, rfl, rfl, rfl, OffW.move (X := fun k => k < w.heap.size) ⟨⟨row_base HO2.out.1 (Nat.zero_le _), HO2.out.2⟩, off_new HO2.out.1 fun k hk => hk⟩ hch hX, ⟨by simpa using World.ownsRow_nil _ _ _ _, by simp⟩, ?_, ?_, rt_zero hb hc hc', by simp [Value.ownBlock], HB2.out.size, Nat.le_refl _, HB2.out.alloc HB2.out.size _, Nat.le_refl _⟩
    · have h1 := (HT5.out.mono (Y := Mine w7.heap.size (.slice none 0 0)) hX)
      exact h1.chg (Chg.of ((Below.refl _ _).alloc (Nat.le_refl _) _))
    · have h1 := (HT7.out.mono (Y := Mine w7.heap.size (.slice none 0 0)) hX)
      exact h1.chg (Chg.of ((Below.refl _ _).alloc (Nat.le_refl _) _))
  have HF := Lib.hid hF
  clear hF hpl hX hch
  have HBD := Lib.hid hbd
  clear hbd
  go_wp2_with (with_reducible refine build_stop 88 _ rfl rfl ?_)
  refine AtBuild.go _ (by simp only [List.map_toArray, List.map_cons, List.map_nil]; exact HBD.out _) ?_
  go_wp2
  go_ret
  exact ⟨_, _, _, _, rfl, HF.out⟩
end Go.Proofs.Ytpkelneimjmmkaa

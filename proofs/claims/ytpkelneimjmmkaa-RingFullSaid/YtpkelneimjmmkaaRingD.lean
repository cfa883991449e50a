/- The contracts of ring.Push and ring.Pop. -/
import Derived.Test.YtpkelneimjmmkaaRingC
namespace Go.Proofs.Ytpkelneimjmmkaa
open Go.RowKit

def rawPush (b c t : Int) (ws : List Int) : List Insn := [⟨0, b, 0, 0, 0⟩, ⟨3, 0, 0, 10, (t - c) % 18446744073709551616⟩] ++ (tab 6 (fun q : Nat => (⟨1, atR b c t + (q : Int), 0, 0, ws.getD q 0⟩ : Insn)) ++ ([⟨1, b + 1, 0, 0, t + 1⟩, ⟨6, 0, 0, 0, 1⟩] ++ [⟨2, b + 2, 0, 0, 1⟩, ⟨6, 0, 0, 0, 0⟩]))
def rawPop (b c h : Int) : List Insn := [⟨0, b + 1, 0, 0, 0⟩, ⟨3, 0, 0, 10, h⟩] ++ (tab 6 (fun q : Nat => (⟨0, atR b c h + (q : Int), 1 + (q : Int), 0, 0⟩ : Insn)) ++ ([⟨1, b, 0, 0, h + 1⟩, ⟨6, 0, 0, 0, 1⟩] ++ [⟨6, 0, 0, 0, 0⟩]))
theorem rawPush_on (b c t : Int) (ws : List Int) : onL (rawPush b c t ws) = tab 12 (pushI b c t ws) := by
  have hl : (rawPush b c t ws).length = 12 := by simp [rawPush, tab]
  unfold onL
  rw [hl]
  refine tab_eq fun q hq => ?_
  have e : rawPush b c t ws = [⟨0, b, 0, 0, 0⟩, ⟨3, 0, 0, 10, (t - c) % 18446744073709551616⟩, ⟨1, atR b c t + 0, 0, 0, ws.getD 0 0⟩, ⟨1, atR b c t + 1, 0, 0, ws.getD 1 0⟩, ⟨1, atR b c t + 2, 0, 0, ws.getD 2 0⟩, ⟨1, atR b c t + 3, 0, 0, ws.getD 3 0⟩, ⟨1, atR b c t + 4, 0, 0, ws.getD 4 0⟩, ⟨1, atR b c t + 5, 0, 0, ws.getD 5 0⟩, ⟨1, b + 1, 0, 0, t + 1⟩, ⟨6, 0, 0, 0, 1⟩, ⟨2, b + 2, 0, 0, 1⟩, ⟨6, 0, 0, 0, 0⟩] := rfl
  rw [e]
  obtain rfl | rfl | rfl | rfl | rfl | rfl | rfl | rfl | rfl | rfl | rfl | rfl : q = 0 ∨ q = 1 ∨ q = 2 ∨ q = 3 ∨ q = 4 ∨ q = 5 ∨ q = 6 ∨ q = 7 ∨ q = 8 ∨ q = 9 ∨ q = 10 ∨ q = 11 := by omega
  all_goals simp [onI, pushI]
theorem rawPop_on (b c h : Int) : onL (rawPop b c h) = tab 11 (popI b c h) := by
  have hl : (rawPop b c h).length = 11 := by simp [rawPop, tab]
  unfold onL
  rw [hl]
  refine tab_eq fun q hq => ?_
  have e : rawPop b c h = [⟨0, b + 1, 0, 0, 0⟩, ⟨3, 0, 0, 10, h⟩, ⟨0, atR b c h + 0, 1 + 0, 0, 0⟩, ⟨0, atR b c h + 1, 1 + 1, 0, 0⟩, ⟨0, atR b c h + 2, 1 + 2, 0, 0⟩, ⟨0, atR b c h + 3, 1 + 3, 0, 0⟩, ⟨0, atR b c h + 4, 1 + 4, 0, 0⟩, ⟨0, atR b c h + 5, 1 + 5, 0, 0⟩, ⟨1, b, 0, 0, h + 1⟩, ⟨6, 0, 0, 0, 1⟩, ⟨6, 0, 0, 0, 0⟩] := rfl
  rw [e]
  obtain rfl | rfl | rfl | rfl | rfl | rfl | rfl | rfl | rfl | rfl | rfl : q = 0 ∨ q = 1 ∨ q = 2 ∨ q = 3 ∨ q = 4 ∨ q = 5 ∨ q = 6 ∨ q = 7 ∨ q = 8 ∨ q = 9 ∨ q = 10 := by omega
  all_goals simp [onI, popI]
theorem insss_at {w : World} {g : Nat} (hg : g = w.heap.size) (ps : List (Value × List Insn)) (hl : ps.length ≤ 4096) (h : ∀ a ∈ ps, Inss w a.1 a.2) (e : TypeId) :
    Insss (w.alloc (.cells (ps.flatMap fun a => [a.1]).toArray e)) (.slice (some ⟨g, 0, none⟩) ps.length ps.length) ps := by
  subst hg
  have hfl : ∀ l : List (Value × List Insn), (l.flatMap fun a => [a.1]).length = l.length := fun l => by
    induction l with
    | nil => rfl
    | cons x l ih => rw [List.flatMap_cons, List.length_append, ih]; simp; omega
  have hlen : (ps.flatMap fun a => [a.1]).length = ps.length * 1 := by rw [hfl]; omega
  refine ⟨by have := Sl.of_own (own_new w e 1 (ps.flatMap fun a => [a.1]).toArray ps.length (by simpa using hlen) (by simp only [maxLen]; omega)); simpa using this, fun a ha => (h a ha).alloc _⟩

set_option maxHeartbeats 8000000 in
set_option maxRecDepth 20000 in
theorem pushR_own {v : Value} {ws : List Int} {b c t : Int} {w : World} (ht : I64 t) (h : Words w v ws) : Calls Try.prog 62 #[.int .i64 b, .int .i64 c, .int .i64 t, v] w (InsOwn (pushC b c t ws) w) := by
  obtain ⟨B, d, rfl, hd1, hd2, _⟩ := h.1.form
  unfold maxLen at hd2
  have H := Lib.hid h
  clear h
  have ht' := ht
  unfold I64 at ht'
  have HTT := Lib.hid ht
  clear ht
  go_enter Try.func62, Try.ntmps62
  go_wp2_with fail
  refine calls_at fun W0 hW0 => ?_
  have hg0 : W0.cell? ⟨w.heap.size, 0, none⟩ = some (.slice B ws.length d) := by rw [hW0]; exact (Box.new w _ #[_]).cell 0
  have hbw0 : Below w.heap.size w W0 := by rw [hW0]; exact (Below.refl _ w).alloc (Nat.le_refl _) _
  have hlt0 : w.heap.size < W0.heap.size := by rw [hW0]; simp
  clear hW0
  refine (mayR_call b c W0).mono ?_
  rintro e w1 ⟨rfl, hb1⟩
  have g1 := (hb1.cell (p := ⟨w.heap.size, 0, none⟩) hlt0).trans hg0
  have HB1 : Hid (Below w.heap.size w w1) := Lib.hid (below_call hbw0 hb1 hbw0.size)
  have HGL : Hid (w.heap.size < w1.heap.size) := Lib.hid (by have := hb1.size; omega)
  clear hb1 hg0 hbw0 hlt0
  have F : Hid (¬ (mayP b c t ∧ ws.length = 6) → InsOwn (pushC b c t ws) w (.returned (.slice none 0 0)) w1) := Lib.hid fun hn => ⟨_, rfl, by unfold pushC; rw [if_neg hn]; exact OwnI.nil _ _, HB1.out⟩
  by_cases hm : ¬ mayR b c
  · rw [decide_eq_false hm]
    have F2 := Lib.hid (F.out (fun h => hm h.1.1))
    clear hm F
    go_wp2
    go_ret
    exact F2.out
  have hm' := Decidable.not_not.1 hm
  rw [decide_eq_true hm']
  by_cases ht0 : t < 0
  · have F2 := Lib.hid (F.out (fun h => by have := h.1.2; omega))
    clear hm hm' F
    go_wp2
    go_ret
    exact F2.out
  by_cases hl6 : ¬ ws.length = 6
  · have hne : ((ws.length : Int) != 6) = true := by
      have : ¬ (ws.length : Int) = 6 := by omega
      simpa using this
    have F2 := Lib.hid (F.out (fun h => hl6 h.2))
    clear hm hm' F
    go_wp2
    go_ret
    exact F2.out
  have hl6' := Decidable.not_not.1 hl6
  have HL6 := Lib.hid hl6'
  have hl6i : (ws.length : Int) = 6 := by omega
  have hmay : mayP b c t := ⟨hm', by omega⟩
  obtain ⟨_, _, ha1, ha2⟩ := atR_in hmay
  have HMAY := Lib.hid hmay
  obtain ⟨m1, m2, m3, m4⟩ := hm'
  have hb0 : IntKind.i64.wrap b = b := by rw [IntKind.wrap_i64]; omega
  have hb1 : IntKind.i64.wrap (b + 1) = b + 1 := by rw [IntKind.wrap_i64]; omega
  have hb2 : IntKind.i64.wrap (b + 2) = b + 2 := by rw [IntKind.wrap_i64]; omega
  have hs1 : IntKind.i64.wrap (t - c) = t - c := by rw [IntKind.wrap_i64]; omega
  have hs2 : IntKind.u64.wrap (t - c) = (t - c) % 18446744073709551616 := by rw [IntKind.wrap_u64]
  have hs3 : IntKind.u64.wrap t = t := by rw [IntKind.wrap_u64]; omega
  have hs4 : IntKind.u64.wrap (t + 1) = t + 1 := by rw [IntKind.wrap_u64]; omega
  have hb0' : wrap64 b = b := by unfold wrap64; omega
  have hb1' : wrap64 (b + 1) = b + 1 := by unfold wrap64; omega
  have hb2' : wrap64 (b + 2) = b + 2 := by unfold wrap64; omega
  have hs1' : wrap64 (t - c) = t - c := by unfold wrap64; omega
  have HK0 : Hid (∀ x ∈ ([⟨0, b, 0, 0, 0⟩, ⟨3, 0, 0, 10, (t - c) % 18446744073709551616⟩] : List Insn), x.ok) := Lib.hid (two_ok ⟨by simp [I64], by simp only [I64]; omega, by simp [I64], by simp [I64], by simp [W64]⟩ ⟨by simp [I64], by simp [I64], by simp [I64], by simp [I64], by simp only [W64]; omega⟩)
  have HK2 : Hid (∀ x ∈ ([⟨1, b + 1, 0, 0, t + 1⟩, ⟨6, 0, 0, 0, 1⟩] : List Insn), x.ok) := Lib.hid (two_ok ⟨by simp [I64], by simp only [I64]; omega, by simp [I64], by simp [I64], by simp only [W64]; omega⟩ ⟨by simp [I64], by simp [I64], by simp [I64], by simp [I64], by simp [W64]⟩)
  have HK3 : Hid (∀ x ∈ ([⟨2, b + 2, 0, 0, 1⟩, ⟨6, 0, 0, 0, 0⟩] : List Insn), x.ok) := Lib.hid (two_ok ⟨by simp [I64], by simp only [I64]; omega, by simp [I64], by simp [I64], by simp [W64]⟩ ⟨by simp [I64], by simp [I64], by simp [I64], by simp [I64], by simp [W64]⟩)
  clear hm hmay F ha1 ha2
  go_wp2_with fail
  refine calls_at fun W2 hW2 => ?_
  have h02 : Inss W2 (.slice (some ⟨w1.heap.size, 0, none⟩) 2 2) [⟨0, b, 0, 0, 0⟩, ⟨3, 0, 0, 10, (t - c) % 18446744073709551616⟩] := by rw [hW2]; exact inss_at rfl [⟨0, b, 0, 0, 0⟩, ⟨3, 0, 0, 10, (t - c) % 18446744073709551616⟩] HK0.out (by simp) _
  have hb12 : Below w1.heap.size w1 W2 := by rw [hW2]; exact (Below.refl _ w1).alloc (Nat.le_refl _) _
  have HB2 := Lib.hid (below_call HB1.out hb12 HB1.out.size)
  have g2 := (hb12.cell (p := ⟨w.heap.size, 0, none⟩) HGL.out).trans g1
  clear hW2 hb12
  refine (sixPush_call HL6.out HMAY.out (H.out.below HB2.out) g2).mono ?_
  rintro e w3 ⟨v35, rfl, ho3, hb3⟩
  obtain ⟨A35, c35, hv35⟩ := ho3.form
  rw [tab_len] at hv35
  subst hv35
  have H03 := Lib.hid (h02.below hb3)
  have HI3 := Lib.hid ho3.inss
  have HB3 := Lib.hid (below_call HB2.out hb3 HB2.out.size)
  clear h02 ho3 hb3 HB2 g1 g2
  go_wp2_with fail
  refine calls_at fun W4 hW4 => ?_
  have HP : Hid (Insss W4 (.slice (some ⟨w3.heap.size + 2, 0, none⟩) 4 4) [(.slice (some ⟨w1.heap.size, 0, none⟩) 2 2, [⟨0, b, 0, 0, 0⟩, ⟨3, 0, 0, 10, (t - c) % 18446744073709551616⟩]), (.slice A35 6 c35, tab 6 (fun q : Nat => (⟨1, atR b c t + (q : Int), 0, 0, ws.getD q 0⟩ : Insn))), (.slice (some ⟨w3.heap.size, 0, none⟩) 2 2, [⟨1, b + 1, 0, 0, t + 1⟩, ⟨6, 0, 0, 0, 1⟩]), (.slice (some ⟨w3.heap.size + 1, 0, none⟩) 2 2, [⟨2, b + 2, 0, 0, 1⟩, ⟨6, 0, 0, 0, 0⟩])]) := Lib.hid (by
    rw [hW4]
    refine insss_at (by simp) [(.slice (some ⟨w1.heap.size, 0, none⟩) 2 2, [⟨0, b, 0, 0, 0⟩, ⟨3, 0, 0, 10, (t - c) % 18446744073709551616⟩]), (.slice A35 6 c35, tab 6 (fun q : Nat => (⟨1, atR b c t + (q : Int), 0, 0, ws.getD q 0⟩ : Insn))), (.slice (some ⟨w3.heap.size, 0, none⟩) 2 2, [⟨1, b + 1, 0, 0, t + 1⟩, ⟨6, 0, 0, 0, 1⟩]), (.slice (some ⟨w3.heap.size + 1, 0, none⟩) 2 2, [⟨2, b + 2, 0, 0, 1⟩, ⟨6, 0, 0, 0, 0⟩])] (by simp) (fun x hx => ?_) _
    simp only [List.mem_cons, List.not_mem_nil, or_false] at hx
    rcases hx with rfl | rfl | rfl | rfl
    · exact (H03.out.alloc _).alloc _
    · exact (HI3.out.alloc _).alloc _
    · exact (inss_at rfl [⟨1, b + 1, 0, 0, t + 1⟩, ⟨6, 0, 0, 0, 1⟩] HK2.out (by simp) _).alloc _
    · exact inss_at (by simp) [⟨2, b + 2, 0, 0, 1⟩, ⟨6, 0, 0, 0, 0⟩] HK3.out (by simp) _)
  have HB4 : Hid (Below w.heap.size w W4) := Lib.hid (by
    rw [hW4]
    exact ((HB3.out.alloc HB3.out.size _).alloc (by have := HB3.out.size; simp; omega) _).alloc (by have := HB3.out.size; simp; omega) _)
  clear hW4 H03 HI3 HB3
  have hfl : ([(.slice (some ⟨w1.heap.size, 0, none⟩) 2 2, [⟨0, b, 0, 0, 0⟩, ⟨3, 0, 0, 10, (t - c) % 18446744073709551616⟩]), (.slice A35 6 c35, tab 6 (fun q : Nat => (⟨1, atR b c t + (q : Int), 0, 0, ws.getD q 0⟩ : Insn))), (.slice (some ⟨w3.heap.size, 0, none⟩) 2 2, [⟨1, b + 1, 0, 0, t + 1⟩, ⟨6, 0, 0, 0, 1⟩]), (.slice (some ⟨w3.heap.size + 1, 0, none⟩) 2 2, [⟨2, b + 2, 0, 0, 1⟩, ⟨6, 0, 0, 0, 0⟩])] : List (Value × List Insn)).flatMap (·.2) = rawPush b c t ws := by
    simp [rawPush]
  have hlen : (rawPush b c t ws).length = 12 := by simp [rawPush, tab]
  have hcd := rcode_call HP.out (by rw [hfl, hlen]; omega) (by rw [hfl, hlen]; omega)
  rw [hfl, rawPush_on b c t ws] at hcd
  refine hcd.mono ?_
  rintro e w5 ⟨v5, rfl, ho5, hb5⟩
  have FF : Hid (InsOwn (pushC b c t ws) w (.returned v5) w5) := Lib.hid ⟨_, rfl, by unfold pushC; rw [if_pos ⟨HMAY.out, HL6.out⟩]; exact ho5.base HB4.out.size, below_call HB4.out hb5 HB4.out.size⟩
  clear ho5 hb5 hcd hfl hlen
  go_wp2
  go_ret
  exact FF.out

set_option maxHeartbeats 8000000 in
set_option maxRecDepth 20000 in
theorem popR_own {b c t : Int} {w : World} (ht : I64 t) : Calls Try.prog 64 #[.int .i64 b, .int .i64 c, .int .i64 t] w (InsOwn (popC b c t) w) := by
  have ht' := ht
  unfold I64 at ht'
  have HTT := Lib.hid ht
  clear ht
  go_enter Try.func64, Try.ntmps64
  go_wp2_with fail
  refine (mayR_call b c w).mono ?_
  rintro e w1 ⟨rfl, hb1⟩
  have HB1 := Lib.hid hb1
  clear hb1
  have F : Hid (¬ (mayP b c t) → InsOwn (popC b c t) w (.returned (.slice none 0 0)) w1) := Lib.hid fun hn => ⟨_, rfl, by unfold popC; rw [if_neg hn]; exact OwnI.nil _ _, HB1.out⟩
  by_cases hm : ¬ mayR b c
  · rw [decide_eq_false hm]
    have F2 := Lib.hid (F.out (fun h => hm h.1))
    clear hm F
    go_wp2
    go_ret
    exact F2.out
  have hm' := Decidable.not_not.1 hm
  rw [decide_eq_true hm']
  by_cases ht0 : t < 0
  · have F2 := Lib.hid (F.out (fun h => by have := h.2; omega))
    clear hm hm' F
    go_wp2
    go_ret
    exact F2.out
  have hmay : mayP b c t := ⟨hm', by omega⟩
  obtain ⟨_, _, ha1, ha2⟩ := atR_in hmay
  have HMAY := Lib.hid hmay
  obtain ⟨m1, m2, m3, m4⟩ := hm'
  have hb0 : IntKind.i64.wrap b = b := by rw [IntKind.wrap_i64]; omega
  have hb1 : IntKind.i64.wrap (b + 1) = b + 1 := by rw [IntKind.wrap_i64]; omega
  have hb2 : IntKind.i64.wrap (b + 2) = b + 2 := by rw [IntKind.wrap_i64]; omega
  have hs1 : IntKind.i64.wrap (t - c) = t - c := by rw [IntKind.wrap_i64]; omega
  have hs2 : IntKind.u64.wrap (t - c) = (t - c) % 18446744073709551616 := by rw [IntKind.wrap_u64]
  have hs3 : IntKind.u64.wrap t = t := by rw [IntKind.wrap_u64]; omega
  have hs4 : IntKind.u64.wrap (t + 1) = t + 1 := by rw [IntKind.wrap_u64]; omega
  have hb0' : wrap64 b = b := by unfold wrap64; omega
  have hb1' : wrap64 (b + 1) = b + 1 := by unfold wrap64; omega
  have hb2' : wrap64 (b + 2) = b + 2 := by unfold wrap64; omega
  have hs1' : wrap64 (t - c) = t - c := by unfold wrap64; omega
  have HK0 : Hid (∀ x ∈ ([⟨0, b + 1, 0, 0, 0⟩, ⟨3, 0, 0, 10, t⟩] : List Insn), x.ok) := Lib.hid (two_ok ⟨by simp [I64], by simp only [I64]; omega, by simp [I64], by simp [I64], by simp [W64]⟩ ⟨by simp [I64], by simp [I64], by simp [I64], by simp [I64], by simp only [W64]; omega⟩)
  have HK2 : Hid (∀ x ∈ ([⟨1, b, 0, 0, t + 1⟩, ⟨6, 0, 0, 0, 1⟩] : List Insn), x.ok) := Lib.hid (two_ok ⟨by simp [I64], by simp only [I64]; omega, by simp [I64], by simp [I64], by simp only [W64]; omega⟩ ⟨by simp [I64], by simp [I64], by simp [I64], by simp [I64], by simp [W64]⟩)
  have HK3 : Hid (∀ x ∈ ([⟨6, 0, 0, 0, 0⟩] : List Insn), x.ok) := Lib.hid (one_ok ⟨by simp [I64], by simp [I64], by simp [I64], by simp [I64], by simp [W64]⟩)
  clear hm hmay F ha1 ha2
  go_wp2_with fail
  refine calls_at fun W2 hW2 => ?_
  have h02 : Inss W2 (.slice (some ⟨w1.heap.size, 0, none⟩) 2 2) [⟨0, b + 1, 0, 0, 0⟩, ⟨3, 0, 0, 10, t⟩] := by rw [hW2]; exact inss_at rfl [⟨0, b + 1, 0, 0, 0⟩, ⟨3, 0, 0, 10, t⟩] HK0.out (by simp) _
  have hb12 : Below w1.heap.size w1 W2 := by rw [hW2]; exact (Below.refl _ w1).alloc (Nat.le_refl _) _
  have HB2 := Lib.hid (below_call HB1.out hb12 HB1.out.size)
  clear hW2 hb12
  refine (sixPop_call HMAY.out).mono ?_
  rintro e w3 ⟨v35, rfl, ho3, hb3⟩
  obtain ⟨A35, c35, hv35⟩ := ho3.form
  rw [tab_len] at hv35
  subst hv35
  have H03 := Lib.hid (h02.below hb3)
  have HI3 := Lib.hid ho3.inss
  have HB3 := Lib.hid (below_call HB2.out hb3 HB2.out.size)
  clear h02 ho3 hb3 HB2
  go_wp2_with fail
  refine calls_at fun W4 hW4 => ?_
  have HP : Hid (Insss W4 (.slice (some ⟨w3.heap.size + 2, 0, none⟩) 4 4) [(.slice (some ⟨w1.heap.size, 0, none⟩) 2 2, [⟨0, b + 1, 0, 0, 0⟩, ⟨3, 0, 0, 10, t⟩]), (.slice A35 6 c35, tab 6 (fun q : Nat => (⟨0, atR b c t + (q : Int), 1 + (q : Int), 0, 0⟩ : Insn))), (.slice (some ⟨w3.heap.size, 0, none⟩) 2 2, [⟨1, b, 0, 0, t + 1⟩, ⟨6, 0, 0, 0, 1⟩]), (.slice (some ⟨w3.heap.size + 1, 0, none⟩) 1 1, [⟨6, 0, 0, 0, 0⟩])]) := Lib.hid (by
    rw [hW4]
    refine insss_at (by simp) [(.slice (some ⟨w1.heap.size, 0, none⟩) 2 2, [⟨0, b + 1, 0, 0, 0⟩, ⟨3, 0, 0, 10, t⟩]), (.slice A35 6 c35, tab 6 (fun q : Nat => (⟨0, atR b c t + (q : Int), 1 + (q : Int), 0, 0⟩ : Insn))), (.slice (some ⟨w3.heap.size, 0, none⟩) 2 2, [⟨1, b, 0, 0, t + 1⟩, ⟨6, 0, 0, 0, 1⟩]), (.slice (some ⟨w3.heap.size + 1, 0, none⟩) 1 1, [⟨6, 0, 0, 0, 0⟩])] (by simp) (fun x hx => ?_) _
    simp only [List.mem_cons, List.not_mem_nil, or_false] at hx
    rcases hx with rfl | rfl | rfl | rfl
    · exact (H03.out.alloc _).alloc _
    · exact (HI3.out.alloc _).alloc _
    · exact (inss_at rfl [⟨1, b, 0, 0, t + 1⟩, ⟨6, 0, 0, 0, 1⟩] HK2.out (by simp) _).alloc _
    · exact inss_at (by simp) [⟨6, 0, 0, 0, 0⟩] HK3.out (by simp) _)
  have HB4 : Hid (Below w.heap.size w W4) := Lib.hid (by
    rw [hW4]
    exact ((HB3.out.alloc HB3.out.size _).alloc (by have := HB3.out.size; simp; omega) _).alloc (by have := HB3.out.size; simp; omega) _)
  clear hW4 H03 HI3 HB3
  have hfl : ([(.slice (some ⟨w1.heap.size, 0, none⟩) 2 2, [⟨0, b + 1, 0, 0, 0⟩, ⟨3, 0, 0, 10, t⟩]), (.slice A35 6 c35, tab 6 (fun q : Nat => (⟨0, atR b c t + (q : Int), 1 + (q : Int), 0, 0⟩ : Insn))), (.slice (some ⟨w3.heap.size, 0, none⟩) 2 2, [⟨1, b, 0, 0, t + 1⟩, ⟨6, 0, 0, 0, 1⟩]), (.slice (some ⟨w3.heap.size + 1, 0, none⟩) 1 1, [⟨6, 0, 0, 0, 0⟩])] : List (Value × List Insn)).flatMap (·.2) = rawPop b c t := by
    simp [rawPop]
  have hlen : (rawPop b c t).length = 11 := by simp [rawPop, tab]
  have hcd := rcode_call HP.out (by rw [hfl, hlen]; omega) (by rw [hfl, hlen]; omega)
  rw [hfl, rawPop_on b c t] at hcd
  refine hcd.mono ?_
  rintro e w5 ⟨v5, rfl, ho5, hb5⟩
  have FF : Hid (InsOwn (popC b c t) w (.returned v5) w5) := Lib.hid ⟨_, rfl, by unfold popC; rw [if_pos HMAY.out]; exact ho5.base HB4.out.size, below_call HB4.out hb5 HB4.out.size⟩
  clear ho5 hb5 hcd hfl hlen
  go_wp2
  go_ret
  exact FF.out
theorem pushR_call {v : Value} {ws : List Int} {b c t : Int} {w : World} (ht : I64 t) (h : Words w v ws) : Calls Try.prog 62 #[.int .i64 b, .int .i64 c, .int .i64 t, v] w (InsPost (pushC b c t ws) w) := (pushR_own ht h).mono fun _ _ h => h.post
theorem popR_call {b c t : Int} {w : World} (ht : I64 t) : Calls Try.prog 64 #[.int .i64 b, .int .i64 c, .int .i64 t] w (InsPost (popC b c t) w) := (popR_own ht).mono fun _ _ h => h.post
end Go.Proofs.Ytpkelneimjmmkaa

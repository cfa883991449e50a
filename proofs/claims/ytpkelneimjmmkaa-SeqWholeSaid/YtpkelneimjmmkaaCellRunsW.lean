/- The walk of the statement CellRuns. -/
import Derived.Test.YtpkelneimjmmkaaCellK
import Derived.Test.YtpkelneimjmmkaaPureM
namespace Go.Proofs.Ytpkelneimjmmkaa
open Go.RowKit

/-- A slice of what reads, from a place on. -/
theorem Sl.drop_ {w : World} {A : Option Addr} {c size n k : Nat} {xs : List Value} (h : Sl w (.slice A n c) size n xs) (hk : k ≤ n) :
    Sl w (.slice (if c = k then A else A.map (·.add (k * size))) (n - k) (c - k)) size (n - k) (xs.drop (k * size)) := by
  obtain ⟨hl, A', c', e, h1, h2, h0, h3⟩ := h
  injection e with e1 e2 e3
  subst e1 e3
  refine ⟨?_, _, _, rfl, by omega, by omega, ?_, fun hn => ?_⟩
  · rw [List.length_drop, hl, Nat.sub_mul]
  · intro e
    have : A = none := by
      by_cases hc : c = k
      · rw [if_pos hc] at e; exact e
      · rw [if_neg hc] at e; cases A <;> simp_all
    have := h0 this
    omega
  · obtain ⟨ad, rfl, hb, hc⟩ := h3 (by omega)
    rw [if_neg (by omega)]
    refine ⟨ad.add (k * size), rfl, by rw [add_block]; exact hb, fun j u hu => ?_⟩
    rw [add_add]
    exact hc _ u (by rw [← hu, List.getElem?_drop])

theorem flat_take {α : Type} (f : α → List Value) (C : Nat) (hf : ∀ x, (f x).length = C) (l : List α) (k : Nat) : (l.flatMap f).take (k * C) = (l.take k).flatMap f := by
  induction l generalizing k with
  | nil => simp
  | cons x l ih =>
    cases k with
    | zero => simp
    | succ k =>
      rw [List.flatMap_cons, List.take_succ_cons, List.flatMap_cons, show (k + 1) * C = C + k * C by rw [Nat.add_mul]; omega, List.take_append, hf, List.take_of_length_le (by rw [hf]; omega), Nat.add_sub_cancel_left, ih]
theorem flat_drop {α : Type} (f : α → List Value) (C : Nat) (hf : ∀ x, (f x).length = C) (l : List α) (k : Nat) : (l.flatMap f).drop (k * C) = (l.drop k).flatMap f := by
  induction l generalizing k with
  | nil => simp
  | cons x l ih =>
    cases k with
    | zero => simp
    | succ k =>
      rw [List.flatMap_cons, List.drop_succ_cons, show (k + 1) * C = C + k * C by rw [Nat.add_mul]; omega, List.drop_append, hf, List.drop_eq_nil_of_le (by rw [hf]; omega), Nat.add_sub_cancel_left, ih, List.nil_append]
theorem Accs.take_ {w : World} {B : Option Addr} {d k : Nat} {l : List Acc} (h : Accs w (.slice B l.length d) l) (hk : k ≤ l.length) : Accs w (.slice B k d) (l.take k) := by
  have := h.1.take_ hk
  rw [flat_take _ 4 (fun _ => rfl)] at this
  exact ⟨by rw [List.length_take, Nat.min_eq_left hk]; exact this, fun x hx => h.2 x (List.mem_of_mem_take hx)⟩
theorem Accs.drop_ {w : World} {B : Option Addr} {d k : Nat} {l : List Acc} (h : Accs w (.slice B l.length d) l) (hk : k ≤ l.length) :
    Accs w (.slice (if d = k then B else B.map (·.add (k * 4))) (l.length - k) (d - k)) (l.drop k) := by
  have := h.1.drop_ hk
  rw [flat_drop _ 4 (fun _ => rfl)] at this
  exact ⟨by rw [List.length_drop]; exact this, fun x hx => h.2 x (List.mem_of_mem_drop hx)⟩

/-- 'x & 0xffff' of an int. -/
theorem and_mask (x : Int) (m : Nat) (hm : m < 9223372036854775808) : ∃ q : Nat, q ≤ m ∧ bits .and .i64 x (m : Int) = (q : Int) := by
  have hb : (BitVec.ofInt 64 (m : Int)).toNat = m := by
    rw [BitVec.ofInt_natCast, BitVec.toNat_ofNat]; exact Nat.mod_eq_of_lt (by omega)
  refine ⟨(BitVec.ofInt 64 x &&& BitVec.ofInt 64 (m : Int)).toNat, ?_, ?_⟩
  · rw [BitVec.toNat_and, hb]; exact Nat.and_le_right
  · show IntKind.i64.wrap (((BitVec.ofInt 64 x &&& BitVec.ofInt 64 (m : Int)).toNat : Nat) : Int) = _
    have : (BitVec.ofInt 64 x &&& BitVec.ofInt 64 (m : Int)).toNat ≤ m := by rw [BitVec.toNat_and, hb]; exact Nat.and_le_right
    rw [IntKind.wrap_i64]
    omega
theorem tmod_nat (q n : Nat) : (q : Int).tmod ((n : Int) + 1) = ((q % (n + 1) : Nat) : Int) := by
  rw [Int.tmod_eq_emod_of_nonneg (by omega)]
  push_cast
  rfl

set_option maxHeartbeats 2000000 in
theorem cellRuns_walk {v vl : Value} {ms : List Int} {l : List Acc} {cut : Int} {w : World} (hv : Words w v ms) (hl : Accs w vl l) (_hn : I64 cut) :
    Calls Try.prog 8 #[v, vl, .int .i64 cut] w (BoolPost true w) := by
  obtain ⟨A, c, rfl, hc1, hc2, hA⟩ := hv.1.form
  obtain ⟨B, d, rfl, hd1, hd2, hB⟩ := hl.1.form
  have V := Lib.hid hv
  have L := Lib.hid hl
  unfold maxLen at hc2 hd2
  clear hv hl hA hB
  by_cases h1 : ms.length > 256
  · have g1 : (256 : Int) < (ms.length : Int) := by omega
    go_enter Try.func8, Try.ntmps8
    go_wp2_with fail
    refine (awake11 w).mono ?_
    rintro e w1 ⟨rfl, hb⟩
    have HB := Lib.hid hb
    clear hb
    go_wp2
    go_ret
    exact ⟨rfl, HB.out⟩
  have g1 : ¬ (256 : Int) < (ms.length : Int) := by omega
  by_cases h2 : l.length > 60
  · have g2 : (60 : Int) < (l.length : Int) := by omega
    go_enter Try.func8, Try.ntmps8
    go_wp2_with fail
    refine (awake11 w).mono ?_
    rintro e w1 ⟨rfl, hb⟩
    have HB := Lib.hid hb
    clear hb
    go_wp2
    go_ret
    exact ⟨rfl, HB.out⟩
  · have g2 : ¬ (60 : Int) < (l.length : Int) := by omega
    obtain ⟨q, hq, hqe⟩ := and_mask cut 65535 (by omega)
    have e65 : ((65535 : Nat) : Int) = 65535 := rfl
    rw [e65] at hqe
    clear e65
    have hat : q % (l.length + 1) ≤ l.length := by have := Nat.mod_lt q (show 0 < l.length + 1 by omega); omega
    have htm := tmod_nat q l.length
    generalize q % (l.length + 1) = k at hat htm
    have hki : (k : Int) ≤ (l.length : Int) := by omega
    have hkd : (k : Int) ≤ (d : Int) := by omega
    have hkd2 : (l.length : Int) ≤ (d : Int) := by omega
    have hx : ∃ Z m e, (∀ W, Accs W (.slice B l.length d) l → Accs W (.slice Z m e) (l.drop k)) ∧ ((k = d ∧ Z = B ∧ m = 0 ∧ e = 0) ∨ (d ≠ k ∧ Z = B.map (·.add (k * 4)) ∧ m = l.length - k ∧ e = d - k)) := by
      by_cases hdk : d = k
      · exact ⟨B, 0, 0, fun W h => by have := h.drop_ hat; rw [if_pos hdk, hdk, Nat.sub_self, show l.length - k = 0 by omega] at this; exact this, .inl ⟨hdk.symm, rfl, rfl, rfl⟩⟩
      · exact ⟨_, _, _, fun W h => by have := h.drop_ hat; rw [if_neg hdk] at this; exact this, .inr ⟨hdk, rfl, rfl, rfl⟩⟩
    obtain ⟨Z, m, e, hz, hc⟩ := hx
    have LX := Lib.hid hz
    clear hz
    rcases hc with ⟨rfl, rfl, rfl, rfl⟩ | ⟨hdk, rfl, rfl, rfl⟩
    all_goals
      go_enter Try.func8, Try.ntmps8
      go_wp2_with fail
      refine (awake11 w).mono ?_
      rintro e w1 ⟨rfl, hb⟩
      have V1 := Lib.hid (V.out.below hb)
      have L1 := Lib.hid (L.out.below hb)
      have HB := Lib.hid hb
      have hs1 := HB.out.size
      clear hb V L
      go_wp2_with fail
      have LT := Lib.hid (L1.out.take_ hat)
      refine (run_call V1.out LT.out (by simp only [List.length_take]; omega)).mono ?_
      rintro e w2 ⟨va, vp, rfl, ho1, ho2, hb⟩
      have V2 := Lib.hid (V1.out.below hb)
      have LD := Lib.hid (LX.out _ (L1.out.below hb))
      have L2 := Lib.hid (L1.out.below hb)
      have A2 := Lib.hid ho1.words
      have P2 := Lib.hid ho2.words
      have HB2 := Lib.hid (below_call HB.out hb hs1)
      have hs2 := HB2.out.size
      clear hb ho1 ho2 V1 L1 LT HB
      go_wp2_with fail
      refine (run_call A2.out LD.out (by simp only [List.length_drop]; omega)).mono ?_
      rintro e w3 ⟨vb, vq, rfl, ho1, ho2, hb⟩
      have V3 := Lib.hid (V2.out.below hb)
      have L3 := Lib.hid (L2.out.below hb)
      have P3 := Lib.hid (P2.out.below hb)
      have B3 := Lib.hid ho1.words
      have Q3 := Lib.hid ho2.words
      have HB3 := Lib.hid (below_call HB2.out hb hs2)
      have hs3 := HB3.out.size
      clear hb ho1 ho2 V2 L2 LD A2 P2 HB2
      go_wp2_with fail
      refine (run_call V3.out L3.out (by omega)).mono ?_
      rintro e w4 ⟨vc, vr, rfl, ho1, ho2, hb⟩
      have P4 := Lib.hid (P3.out.below hb)
      have B4 := Lib.hid (B3.out.below hb)
      have Q4 := Lib.hid (Q3.out.below hb)
      have C4 := Lib.hid ho1.words
      have R4 := Lib.hid ho2.words
      have HB4 := Lib.hid (below_call HB3.out hb hs3)
      have hs4 := HB4.out.size
      clear hb ho1 ho2 V3 L3 P3 B3 Q3 HB3
      obtain ⟨ps, hps⟩ : ∃ ps, (accesses (counts ms) (l.take k)).2 = ps := ⟨_, rfl⟩
      obtain ⟨qs, hqs⟩ : ∃ qs, (accesses (counts (accesses (counts ms) (l.take k)).1) (l.drop k)).2 = qs := ⟨_, rfl⟩
      have hid : counts (accesses (counts ms) (l.take k)).1 = (accesses (counts ms) (l.take k)).1 := counts_id (by rw [(accesses_len _ _).1, counts_len]; omega)
      have hall : (accesses (counts ms) l).2 = ps ++ qs ∧ (accesses (counts ms) l).1 = (accesses (counts (accesses (counts ms) (l.take k)).1) (l.drop k)).1 := by
        have := accesses_append (l.take k) (l.drop k) (counts ms)
        rw [List.take_append_drop] at this
        rw [← hps, ← hqs, hid, this]
        exact ⟨rfl, rfl⟩
      have hpl : ps.length ≤ 60 := by rw [← hps, (accesses_len _ _).2, List.length_take]; omega
      have hql : qs.length ≤ 60 := by rw [← hqs, (accesses_len _ _).2, List.length_drop]; omega
      have P5 : Hid (Words w4 vp ps) := Lib.hid (hps ▸ P4.out)
      have Q5 : Hid (Words w4 vq qs) := Lib.hid (hqs ▸ Q4.out)
      have HA := Lib.hid hall
      clear hps hqs hid hall P4 Q4
      obtain ⟨i0, hi, hz0, hz1, hz2⟩ := info_parts info_u64
      obtain ⟨Ap, cp, hvp, _⟩ := P5.out.1.form
      obtain ⟨Aq, cq, hvq, _⟩ := Q5.out.1.form
      subst hvp hvq
      go_wp2_with (at_builtin; refine wpList_append_sl _ rfl (.tmp 54) (.tmp 55) 22 rfl w4.heap.size 30 i0 _ 1 8 Try.underlying22 hi hz0 hz1 hz2 rfl (by decide) _ _ _ rfl (World.ownsRow_made w4 #[] 0 (Nat.le_refl _) (Nat.zero_le _) (by simp)) (.slice Ap ps.length cp) ps.length (u64s ps) rfl (P5.out.1.alloc _) (one_u64s _) (by simp only [maxLen]; omega) (by omega) (by simp) ?_)
      intro v5 w5 hown5 hgrow5 _
      have hb5 := below_grown (((Below.refl w4.heap.size w4).alloc (Nat.le_refl _) _)) (World.ownsRow_made (base := w4.heap.size) (e := 30) (size := 1) w4 #[] 0 (Nat.le_refl _) (Nat.zero_le _) (by simp)) hgrow5 (by simp)
      have O5 : Hid (w5.ownsRow w4.heap.size 30 1 v5 ps.length (u64s ps)) := Lib.hid (by simpa using hown5)
      have BB5 := Lib.hid hb5
      have QQ5 := Lib.hid (Q5.out.below hb5)
      have hs45 := hb5.size
      have PM := Lib.hid P5.out.2
      have QM := Lib.hid Q5.out.2
      clear hown5 hgrow5 hb5 Q5 P5
      go_wp2_with (at_builtin; refine wpList_append_sl _ rfl (.tmp 57) (.tmp 58) 22 rfl w4.heap.size 30 i0 _ 1 8 Try.underlying22 hi hz0 hz1 hz2 rfl (by decide) v5 ps.length (u64s ps) rfl O5.out (.slice Aq qs.length cq) qs.length (u64s qs) rfl QQ5.out.1 (one_u64s _) (by simp only [maxLen]; omega) (by omega) (by omega) ?_)
      intro v6 w6 hown6 hgrow6 _
      have hb6 := BB5.out.trans (below_grown (Below.refl w4.heap.size w5) O5.out hgrow6 (by omega))
      have O6 : Hid (Words w6 v6 (ps ++ qs)) := Lib.hid ⟨by rw [List.length_append, show u64s (ps ++ qs) = u64s ps ++ u64s qs by simp [u64s]]; exact Sl.of_own hown6, fun x hx => by
        rcases List.mem_append.1 hx with h | h
        · exact PM.out x h
        · exact QM.out x h⟩
      have C6 := Lib.hid (C4.out.below hb6)
      have B6 := Lib.hid (B4.out.below hb6)
      have R6 := Lib.hid (R4.out.below hb6)
      have HB6 := Lib.hid (below_call HB4.out hb6 hs4)
      have hs6 := HB6.out.size
      clear hown6 hgrow6 hb6 C4 B4 R4 HB4 O5 BB5 QQ5 PM QM
      go_wp2_with fail
      refine (same_call B6.out C6.out).mono ?_
      rw [decide_eq_true HA.out.2.symm]
      rintro e w7 ⟨rfl, hb⟩
      have O7 := Lib.hid (O6.out.below hb)
      have R7 := Lib.hid (R6.out.below hb)
      have HB7 := Lib.hid (below_call HB6.out hb hs6)
      have hs7 := HB7.out.size
      clear hb B6 C6 O6 R6 HB6
      go_wp2_with fail
      refine (same_call O7.out R7.out).mono ?_
      rw [decide_eq_true HA.out.1.symm]
      rintro e w8 ⟨rfl, hb⟩
      have HB8 := Lib.hid (below_call HB7.out hb hs7)
      clear hb O7 R7 HB7
      go_wp2
      go_ret
      exact ⟨rfl, HB8.out⟩
end Go.Proofs.Ytpkelneimjmmkaa

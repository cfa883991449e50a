/- The contracts of slices.Clone of tasks and of task.Run. -/
import Derived.Test.YtpkelneimjmmkaaTaskN
import Derived.Test.YtpkelneimjmmkaaPureX
namespace Go.Proofs.Ytpkelneimjmmkaa
open Go.RowKit

/-- A slice of ints that reads. -/
def Ints (w : World) (v : Value) (l : List Int) : Prop := Sl w v 1 l.length (l.map (Value.int .i64)) ∧ ∀ x ∈ l, I64 x
theorem Ints.below {w w' : World} {v : Value} {l : List Int} (h : Ints w v l) (hb : Below w.heap.size w w') : Ints w' v l := ⟨h.1.below hb, h.2⟩
theorem Ints.at_ {w : World} {A : Option Addr} {n c : Nat} {l : List Int} {k : Nat} (h : Ints w (.slice A n c) l) (hn : n = l.length) (hk : k < l.length) :
    ∃ b off, A = some ⟨b, off, none⟩ ∧ b < w.heap.size ∧ w.cell? ⟨b, off + k, none⟩ = some (.int .i64 (l.getD k 0)) := by
  subst hn
  obtain ⟨b, off, rfl, hb, hc⟩ := h.1.at_ (by omega) (by omega)
  exact ⟨b, off, rfl, hb, hc k _ (by simp [List.getD_eq_getElem?_getD, hk])⟩
theorem info_task : (Try.prog.info? 42).map (fun i => (i.zero, i.size, i.bytes)) = some (some (.agg (tcells (.slice none 0 0) tsk0)), 36, 304) := by kernel_rfl
theorem AllT.one {w : World} {l : List TV} (h : AllT w l) : ∀ u ∈ l.flatMap (·.1), u.oneCell' = true := fun u hu => by
  obtain ⟨p, hp, hu⟩ := List.mem_flatMap.1 hu
  exact Array.all_eq_true_iff_forall_mem.1 (h p hp).size.2.1 u (by simpa using hu)

/-- slices.Clone of tasks. -/
theorem tclone_call {v : Value} {l : List TV} {w : World} (h : Tasks w v l) (hn : l.length ≤ 4096) :
    Calls Try.prog 78 #[v] w fun e w' => ∃ v', e = .returned v' ∧ OwnT w' w.heap.size v' l ∧ Below w.heap.size w w' := by
  obtain ⟨i0, hi, hz0, hz1, hz2⟩ := info_parts info_task
  have hx : Sl w v 36 l.length (l.flatMap (·.1)) := h.1
  have h1 := h.2.one
  clear h
  generalize hxs : l.flatMap (·.1) = xs at *
  have HXS := Lib.hid hxs
  clear hxs
  obtain ⟨A, c, rfl, hc1, hc2, hA⟩ := hx.form
  have hz3 : (Value.agg (tcells (.slice none 0 0) tsk0)).cells.size = 36 := by kernel_rfl
  generalize tcells (.slice none 0 0) tsk0 = Z at *
  cases A with
  | none =>
    obtain ⟨h0, rfl⟩ := hA rfl
    have hl : l = [] := List.eq_nil_of_length_eq_zero h0
    subst hl
    have q := fun (w : World) (a : Option Addr) (n c n' c' : Nat) => Lib.run_eql_slice_nil (P := Try.prog) w 57 42 a n c n' c' Try.underlying57
    go_enter Try.func78, Try.ntmps78
    go_wp2
    go_ret
    exact ⟨_, rfl, World.ownsRow_nil _ _ _ _, Below.refl _ _⟩
  | some ad =>
    have q := fun (w : World) (a : Option Addr) (n c n' c' : Nat) => Lib.run_eql_slice_nil (P := Try.prog) w 57 42 a n c n' c' Try.underlying57
    go_enter Try.func78, Try.ntmps78
    go_wp2_with (at_builtin; refine wpList_append_sl _ rfl _ _ 57 rfl w.heap.size 42 i0 _ 36 304 Try.underlying57 hi hz0 hz1 hz2 hz3 (by decide) _ _ _ rfl (World.ownsRow_made w #[] 0 (Nat.le_refl _) (Nat.zero_le _) (by simp)) (.slice (some ad) l.length c) l.length xs rfl ?qc1 ?qc2 ?qc3 ?qc4 ?qc5 ?_)
    case qc1 => exact hx.alloc _
    case qc2 => exact h1
    case qc3 => simp only [maxLen] at *; omega
    case qc4 => omega
    case qc5 => simp
    intro v' w1 hown hgrow _
    go_wp2
    go_ret
    refine ⟨v', rfl, ?_, ?_⟩
    · unfold OwnT; rw [HXS.out]; simpa using hown
    · exact ((Below.refl _ w).alloc (Nat.le_refl _) _).grown hgrow (by simp) (by intro k hk; simp [Value.ownBlock] at hk; omega)

theorem own_setCells_far {w : World} {base : Nat} {v : Value} {ms : List Int} (h : Own w base v ms) {g : Nat} (hg : g < base) (o : Nat) (cs : List Value) : Own (w.setCells g o cs) base v ms := by
  obtain ⟨⟨h1, h2⟩, h3⟩ := h
  refine ⟨⟨h1, ?_⟩, h3⟩
  rcases h2 with h2 | ⟨g', cap, cur, e, hg', hh, r⟩
  · exact .inl h2
  · exact .inr ⟨g', cap, cur, e, hg', ((grown_setCells g cs o w).block g' (Array.getElem?_eq_some_iff.1 hh).1 (fun e => by injection e with e; omega)).trans hh, r⟩
/-- The tasks without their cells. -/
abbrev fts (l : List TV) : List FT := l.map (·.2)
theorem fts_getD {l : List TV} {k : Nat} (h : k < l.length) : (fts l).getD k ft0 = (l[k]).2 := by
  simp [fts, List.getD_eq_getElem?_getD, h]
theorem fts_set (l : List TV) (k : Nat) (p : TV) : fts (l.set k p) = (fts l).set k p.2 := by simp [fts, List.map_set]
/-- What Run hands back. -/
def TRunAns (R : List FT × List Int) (w : World) (e : Ending) (w' : World) : Prop :=
  ∃ v1 v2 l', e = .returned (.tuple #[v1, v2]) ∧ fts l' = R.1 ∧ OwnT w' w.heap.size v1 l' ∧ AllT w l' ∧ Own w' w.heap.size v2 R.2 ∧ Below w.heap.size w w'

structure TRunRel (w : World) (R : List FT × List Int) (ps : List Int) (v : Value) (n g k : Nat) (vm : Value) (l' : List TV) (ms' : List Int) (wr : World) : Prop where
  row : OwnT wr w.heap.size v l'
  len : l'.length = n
  all : AllT w l'
  own : Own wr g vm ms'
  le : w.heap.size ≤ g
  ge : g ≤ wr.heap.size
  below : Below w.heap.size w wr
  same : runT (fts l') ms' (ps.drop k) = R

set_option maxHeartbeats 4000000 in
set_option maxRecDepth 20000 in
theorem trun_call {v vm vp : Value} {l : List TV} {ms ps : List Int} {w : World} (h : Tasks w v l) (hm : Words w vm ms) (hp : Ints w vp ps) (hn : l.length ≤ 4096) :
    Calls Try.prog 39 #[v, vm, vp] w (TRunAns (runT (fts l) (counts ms) ps) w) := by
  obtain ⟨A, c, rfl, hc1, hc2, _⟩ := hp.1.form
  unfold maxLen at hc2
  have H := Lib.hid h
  have HM := Lib.hid hm
  have HP := Lib.hid hp
  have hplen : (ps.length : Int) ≤ 9223372036854775807 := by omega
  clear h hm hp
  go_enter Try.func39, Try.ntmps39
  go_wp2_with fail
  refine (tclone_call H.out hn).mono ?_
  rintro e w1 ⟨v1, rfl, ho1, hb1⟩
  have HO1 := Lib.hid ho1
  have HB1 := Lib.hid hb1
  clear ho1 hb1
  go_wp2_with fail
  refine (tknown_call (HM.out.below HB1.out)).mono ?_
  rintro e w2 ⟨v2, rfl, ho2, hb2⟩
  obtain ⟨A1, c1, hv1, _, hc12, hA1⟩ := HO1.out.slt.form
  unfold maxLen at hc12
  have HR : Hid (TRunRel w (runT (fts l) (counts ms) ps) ps v1 l.length w1.heap.size 0 v2 l (counts ms) w2) := Lib.hid
    ⟨HO1.out.kept hb2, rfl, H.out.2, ho2, HB1.out.size, hb2.size, below_call HB1.out hb2 HB1.out.size, rfl⟩
  have HG : Hid (∀ b o, A1 = some ⟨b, o, none⟩ → b < w1.heap.size ∧ o = 0 ∧ w.heap.size ≤ b) := Lib.hid (by
    intro b o e
    obtain ⟨_, h2⟩ := HO1.out
    rcases h2 with ⟨h2, _⟩ | ⟨g', cap, cur, e', hg', hh, r⟩
    · rw [hv1, e] at h2; cases h2
    · rw [hv1, e] at e'
      injection e' with e1 e2 e3
      injection e1 with e1
      injection e1 with e1 e4
      subst e1 e4
      exact ⟨(Array.getElem?_eq_some_iff.1 hh).1, rfl, hg'⟩)
  generalize runT (fts l) (counts ms) ps = R at *
  generalize hg1 : w1.heap.size = g1 at *
  subst hv1
  clear ho2 hb2 HO1 HB1 hg1
  go_wp2_with fail
  go_loopw [1, 17] (fun m i wr => ∃ (k : Nat) (l' : List TV) (ms' : List Int), k ≤ ps.length ∧ i = .int .i64 (k : Int) ∧ Hid (TRunRel w R ps (.slice A1 l.length c1) l.length g1 k m l' ms' wr)) (fun _ i _ => ps.length - (intOf i).toNat)
  case atStart => exact ⟨0, l, counts ms, Nat.zero_le _, rfl, HR⟩
  case round =>
    clear HR
    obtain ⟨k, l', ms', hk, rfl, HR⟩ := hrel
    by_cases hlt : k < ps.length
    · have hki : (k : Int) < (ps.length : Int) := by omega
      obtain ⟨b, o, rfl, _, p0⟩ := (HP.out.below HR.out.below).at_ rfl hlt
      have hdrop : ps.drop k = ps.getD k 0 :: ps.drop (k + 1) := by rw [List.drop_eq_getElem_cons hlt, List.getD_eq_getElem?_getD, List.getElem?_eq_getElem hlt]; rfl
      have hsame := HR.out.same
      rw [hdrop] at hsame
      have HSAME := Lib.hid hsame
      clear hsame hdrop
      generalize ps.getD k 0 = p at *
      by_cases h0 : l.length = 0
      · have h0' : (l.length : Int) = 0 := by omega
        have hz : (fts l').length = 0 := by rw [List.length_map, HR.out.len]; exact h0
        have hs := HSAME.out
        rw [runT_nil hz] at hs
        have HS := Lib.hid hs
        clear hz hs
        go_wp2
        go_ret2
        exact ⟨_, _, l', rfl, by rw [← HS.out], HR.out.row, HR.out.all, by rw [← HS.out]; exact own_base HR.out.own HR.out.le, HR.out.below⟩
      · have h0' : ¬ (l.length : Int) = 0 := by omega
        have hn0 : 0 < l.length := by omega
        obtain ⟨t1, t2, t3, _, _⟩ := pick_tmod hn0 p
        have hkl := pickAt_lt hn0 p
        obtain ⟨q, hq⟩ : ∃ q, q = pickAt l.length p := ⟨_, rfl⟩
        have hsame := HSAME.out
        rw [runT_cons (by rw [List.length_map, HR.out.len]; exact hn0), List.length_map, HR.out.len, ← hq] at hsame
        rw [← hq] at t3 hkl
        clear HSAME hq
        have hql' : q < l'.length := by rw [HR.out.len]; exact hkl
        rw [fts_getD hql'] at hsame
        have hTk := HR.out.all.at_ hql'
        obtain ⟨b2, o2, hA, _, hrg⟩ := SlT.at_ HR.out.row.slt HR.out.len.symm HR.out.all.len hql'
        subst hA
        obtain ⟨hb21, hb22, hb23⟩ := HG.out b2 o2 rfl
        subst hb22
        have hw1 : IntKind.i64.wrap (p.tmod (l.length : Int)) = p.tmod (l.length : Int) := by rw [IntKind.wrap_i64]; omega
        have hw2 : IntKind.i64.wrap (p.tmod (l.length : Int) + (l.length : Int)) = p.tmod (l.length : Int) + (l.length : Int) := by rw [IntKind.wrap_i64]; omega
        have hw3 : IntKind.i64.wrap (q : Int) = (q : Int) := by rw [IntKind.wrap_i64]; omega
        have hqi : (q : Int) < (l.length : Int) := by omega
        have HTK := Lib.hid hTk
        rw [Nat.zero_add] at hrg
        have HRG := Lib.hid hrg
        have HSAME := Lib.hid hsame
        have HL36 := Lib.hid (HR.out.all.len _ (List.getElem_mem hql'))
        have HQL := Lib.hid hql'
        clear hTk hrg hsame t1 t2
        go_wp2_with (first | with_reducible refine mid_stop 42 _ rfl ?_ | with_reducible refine storeM_stop rfl 42 _ _ rfl ?_)
        refine AtMid.go rfl b2 (q * 36) rfl HRG.out Try.underlying42 rfl (by rw [HL36.out]; exact size_task) ?_
        go_wp2_with (first | with_reducible refine mid_stop 42 _ rfl ?_ | with_reducible refine storeM_stop rfl 42 _ _ rfl ?_)
        refine (step_call (HTK.out.below HR.out.below) HR.out.own.words).mono ?_
        rintro e w4 ⟨v4, v5, rfl, ht4, ho4, hb4⟩
        have hT4 := ht4 w HTK.out
        obtain ⟨C4, rfl, hsz4, hone4, _⟩ := hT4.parts
        have hp36 : (C4.toList, (stepT (l'[q]).2 ms').1).1.length = 36 := by simpa using hsz4
        have hrow := (HR.out.row.kept hb4)
        have hlen := HR.out.len
        obtain ⟨hth, hst⟩ := OwnT.store (k := q) (p := (C4.toList, (stepT (l'[q]).2 ms').1)) (by rw [hlen]; exact hrow) HR.out.all.len HQL.out hp36
        rw [hlen] at hst
        have hbw4 := below_call HR.out.below hb4 HR.out.below.size
        have hg1w : g1 ≤ wr.heap.size := HR.out.ge
        have hsw : w4.heap.size ≤ (w4.setCells b2 (q * 36) C4.toList).heap.size := (grown_setCells b2 C4.toList (q * 36) w4).size
        have hsw4 := hb4.size
        have R5 : Hid (TRunRel w R ps (.slice (some ⟨b2, 0, none⟩) l.length c1) l.length g1 (k + 1) v5 (l'.set q (C4.toList, (stepT (l'[q]).2 ms').1)) (stepT (l'[q]).2 ms').2 (w4.setCells b2 (q * 36) C4.toList)) := Lib.hid
          ⟨hst, by rw [List.length_set]; exact hlen, HR.out.all.set q (by show IsTask w (.agg C4.toList.toArray) _; rw [Array.toArray_toList]; exact hT4), own_setCells_far (own_base ho4 hg1w) hb21 _ _, HR.out.le, by omega, Below.setCells hbw4 hbw4.size hb23 _ _, by rw [fts_set]; exact HSAME.out⟩
        have HTH := Lib.hid hth
        have HSZ4 := Lib.hid hsz4
        have HONE4 := Lib.hid hone4
        clear ht4 ho4 hb4 hT4 hsz4 hone4 hp36 hrow hth hst hbw4 hg1w hsw hsw4
        go_wp2_with (first | with_reducible refine mid_stop 42 _ rfl ?_ | with_reducible refine storeM_stop rfl 42 _ _ rfl ?_)
        refine AtStoreM.go b2 (q * 36) (cs := C4.toList) rfl (by rw [Array.toArray_toList]; rfl) (by rw [Array.length_toList, HSZ4.out]; exact HTH.out) (by rw [Array.length_toList]; exact size_task' HSZ4.out) (by rw [Array.toArray_toList]; exact HONE4.out) ?_
        go_wp2
        go_roundw
        case rel => exact ⟨k + 1, _, _, by omega, by go_num, R5⟩
        case measure => simp [intOf]; omega
    · have hki : ¬ (k : Int) < (ps.length : Int) := by omega
      have hs := HR.out.same
      rw [List.drop_eq_nil_of_le (by omega)] at hs
      have HS := Lib.hid hs
      clear hs
      go_wp2
      go_ret2
      exact ⟨_, _, l', rfl, by rw [← HS.out]; rfl, HR.out.row, HR.out.all, by rw [← HS.out]; exact own_base HR.out.own HR.out.le, HR.out.below⟩
end Go.Proofs.Ytpkelneimjmmkaa

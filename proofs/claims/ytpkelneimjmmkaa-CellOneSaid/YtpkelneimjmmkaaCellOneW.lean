/- The walk of the statement CellOne. -/
import Derived.Test.YtpkelneimjmmkaaCellK
import Derived.Test.YtpkelneimjmmkaaPureC
namespace Go.Proofs.Ytpkelneimjmmkaa
open Go.RowKit

/-- Words other than the one of the access are as they were; a load changes none. -/
theorem access_far {m : List Int} {x : Acc} {k : Nat} (hne : (access m x).1.getD k 0 ≠ m.getD k 0) : (k : Int) = x.i ∧ x.k ≠ 0 := by
  by_cases h : x.i < 0 ∨ x.i ≥ (m.length : Int)
  · rw [access_out h] at hne; exact absurd rfl hne
  · rw [access_word h] at hne
    simp only at hne
    by_cases hk : x.i.toNat = k
    · refine ⟨by omega, fun h0 => hne ?_⟩
      have : (word x.k x.a x.b (m.getD x.i.toNat 0)).1 = m.getD x.i.toNat 0 := by unfold word; rw [if_pos h0]
      rw [this, set_getD]
    · exact absurd (getD_set_other _ hk) hne

theorem w64_0 : W64 0 := ⟨by omega, by omega⟩
theorem i64_0 : I64 0 := ⟨by omega, by omega⟩
theorem word_load (a b r : Int) : word 0 a b r = (r, r) := by simp [word]
theorem word_store (a b r : Int) : word 1 a b r = (a, 0) := by simp [word]
theorem word_more (a b r : Int) : word 3 a b r = ((r + a) % 18446744073709551616, (r + a) % 18446744073709551616) := by simp [word]

set_option maxHeartbeats 2000000 in
theorem cellOne_walk {v : Value} {ms : List Int} {x : Acc} {w : World} (hv : Words w v ms) (hx : x.ok) :
    Calls Try.prog 4 #[v, x.val] w (BoolPost true w) := by
  obtain ⟨A, c, rfl, hc1, hc2, hA⟩ := hv.1.form
  have bx := Box.new w 32 #[.int .i64 x.k, .int .i64 x.i, .int .u64 x.a, .int .u64 x.b]
  have h0 := (Below.refl w.heap.size w).alloc (Nat.le_refl _) (.cells #[.int .i64 x.k, .int .i64 x.i, .int .u64 x.a, .int .u64 x.b] 32)
  have hv2 := hv.alloc (.cells #[.int .i64 x.k, .int .i64 x.i, .int .u64 x.a, .int .u64 x.b] 32)
  have V := Lib.hid hv2
  have BX := Lib.hid bx
  have H0 := Lib.hid h0
  have OX := Lib.hid hx
  unfold maxLen at hc2
  clear hv hv2 bx h0 hA hx
  unfold Acc.val
  by_cases h1 : ms.length > 256
  · have g1 : (256 : Int) < (ms.length : Int) := by omega
    go_enter Try.func4, Try.ntmps4
    go_wp2_with fail
    refine (awake11 _).mono ?_
    rintro e w1 ⟨rfl, hb⟩
    have HB := Lib.hid (below_call H0.out hb (by simp))
    clear hb
    go_wp2
    go_ret
    exact ⟨rfl, HB.out⟩
  have g1 : ¬ (256 : Int) < (ms.length : Int) := by omega
  go_enter Try.func4, Try.ntmps4
  go_wp2_with fail
  refine (awake11 _).mono ?_
  rintro e w1 ⟨rfl, hb⟩
  have HB := Lib.hid (below_call H0.out hb (by simp))
  have V1 := Lib.hid (V.out.below hb)
  have BX1 := Lib.hid (BX.out.kept hb)
  have e0 := BX1.out.cell
  have hs1 := HB.out.size
  clear hb V BX H0
  go_wp2_with fail
  refine (do_call (x := x) OX.out V1.out).mono ?_
  clear e0
  rintro e w2 ⟨vn, rfl, ho, hb⟩
  have V2 := Lib.hid (V1.out.below hb)
  have N2 := Lib.hid ho.words
  have BX2 := Lib.hid (BX1.out.kept hb)
  have HB2 := Lib.hid (below_call HB.out hb hs1)
  have hs2 := HB2.out.size
  clear hb ho V1 BX1 HB
  have hid : counts ms = ms := counts_id (by omega)
  rw [hid] at N2
  have hr2 : (access (counts ms) x).2 = (access ms x).2 := by rw [hid]
  rw [hr2]
  clear hr2
  obtain ⟨ns, hns⟩ : ∃ ns, (access ms x).1 = ns := ⟨_, rfl⟩
  obtain ⟨t, ht⟩ : ∃ t, (access ms x).2 = t := ⟨_, rfl⟩
  rw [hns] at N2
  rw [ht]
  have hnl : ns.length = ms.length := by rw [← hns, access_len]
  have HF : Hid (∀ k : Nat, ns.getD k 0 ≠ ms.getD k 0 → (k : Int) = x.i ∧ x.k ≠ 0) := Lib.hid fun k hne => access_far (by rw [hns]; exact hne)
  have HNS := Lib.hid hns
  have HT := Lib.hid ht
  clear hns ht hid
  obtain ⟨An, cn, hvn, hn1, hn2, hnA⟩ := N2.out.1.form
  rw [hnl] at hvn
  subst hvn
  have hle : ((ms.length : Int) != (ms.length : Int)) = false := by simp
  have V2' : Hid (Words w2 (.slice A ms.length c) ms) := V2
  have N2' : Hid (Words w2 (.slice An ms.length cn) ns) := N2
  clear hnA hn1 V2 N2
  unfold maxLen at hn2
  have HNL := Lib.hid hnl
  clear hnl
  have e0 := BX2.out.cell
  go_wp2_with fail
  go_loopw [8] (fun i wr => ∃ k : Nat, k ≤ ms.length ∧ i = .int .i64 (k : Int) ∧ ∃ q, wr = w2.drewN q) (fun i _ => ms.length - (intOf i).toNat)
  case atStart => exact ⟨0, Nat.zero_le _, rfl, 0, rfl⟩
  case round =>
    obtain ⟨k, hk, rfl, q, rfl⟩ := hrel
    by_cases hlt : k < ms.length
    · obtain ⟨p, off, rfl, hbl, c0⟩ := V2'.out.at_ rfl hlt
      obtain ⟨p2, off2, rfl, hbl2, c1⟩ := N2'.out.at_ HNL.out.symm (by rw [HNL.out]; exact hlt)
      have hki : (k : Int) < (ms.length : Int) := by omega
      have hf := HF.out k
      generalize ms.getD k 0 = r at *
      generalize ns.getD k 0 = s at *
      by_cases he : s = r
      · have hne : (s != r) = false := by simp [he]
        have HE := Lib.hid he
        clear he hf
        go_wp2_with fail
        go_quiet (fail)
        go_wp2
        go_roundw
        case rel => exact ⟨k + 1, by omega, by go_num, _, rfl⟩
        case measure => simp [intOf]; omega
      · have hne : (s != r) = true := by simpa using he
        obtain ⟨hki2, hk0⟩ := hf he
        have hne2 : ((k : Int) != x.i) = false := by simp [hki2]
        have hne3 : (x.k == 0) = false := by simpa using hk0
        have HE := Lib.hid he
        have HE2 := Lib.hid hki2
        clear he hf hki2 hk0
        go_wp2_with fail
        go_quiet (fail)
        go_wp2
        go_roundw
        case rel => exact ⟨k + 1, by omega, by go_num, _, rfl⟩
        case measure => simp [intOf]; omega
    · have hki : ¬ (k : Int) < (ms.length : Int) := by omega
      have he : k = ms.length := by omega
      have HE := Lib.hid he
      clear he
      clear HF
      by_cases hout : x.i < 0 ∨ (ms.length : Int) ≤ x.i
      · have ht0 : t = 0 := by rw [← HT.out, access_out (by simpa using hout)]
        subst ht0
        rcases hout with ho1 | ho2
        · go_wp2
          go_ret
          exact ⟨rfl, below_drewN HB2.out _⟩
        · have ho1 : ¬ x.i < 0 := by omega
          go_wp2
          go_ret
          exact ⟨rfl, below_drewN HB2.out _⟩
      · obtain ⟨j, hj⟩ := Int.eq_ofNat_of_zero_le (show 0 ≤ x.i by omega)
        have hjl : j < ms.length := by omega
        have hin : ¬ (x.i < 0 ∨ x.i ≥ (ms.length : Int)) := by omega
        have hw := access_word hin
        rw [hj, Int.toNat_natCast] at hw
        have hr : W64 (ms.getD j 0) := V2'.out.2 _ (getD_mem hjl)
        obtain ⟨p, off, rfl, hbl, c0⟩ := V2'.out.at_ rfl hjl
        obtain ⟨p2, off2, rfl, hbl2, c1⟩ := N2'.out.at_ HNL.out.symm (by rw [HNL.out]; exact hjl)
        have hs : ns.getD j 0 = (word x.k x.a x.b (ms.getD j 0)).1 := by rw [← HNS.out, hw]; exact getD_set_same _ hjl
        have ht : t = (word x.k x.a x.b (ms.getD j 0)).2 := by rw [← HT.out, hw]
        have hload : access (counts ns) ⟨0, (j : Int), 0, 0⟩ = (ns, ns.getD j 0) := by
          rw [counts_id (by rw [HNL.out]; omega)]
          unfold access
          have := HNL.out
          rw [if_neg (by simp only; omega)]
          simp
        generalize ms.getD j 0 = r at *
        generalize ns.getD j 0 = s at *
        obtain ⟨xk, xi, xa, xb⟩ := x
        simp only at hj hs ht hin e0
        subst hj
        obtain ⟨_, hoi, ⟨hxa0, hxa1⟩, _⟩ := OX.out
        obtain ⟨hr0, hr1⟩ := hr
        have hg2 : ¬ (j : Int) < 0 := by omega
        have hg3 : (j : Int) < (ms.length : Int) := by omega
        have okl : Acc.ok ⟨0, (j : Int), 0, 0⟩ := ⟨i64_0, hoi, w64_0, w64_0⟩
        have OL := Lib.hid okl
        have HS := Lib.hid hs
        have HTT := Lib.hid ht
        have HLD := Lib.hid hload
        clear okl hs ht hload hw hin HNS HT hout
        go_wp2_with fail
        refine (do_call (x := ⟨0, (j : Int), 0, 0⟩) (w := w2.drewN q) OL.out N2'.out).mono ?_
        rw [HLD.out]
        rintro e w3 ⟨v3, rfl, _, hb⟩
        have c0' : w3.cell? ⟨p, off + j, none⟩ = some (.int .u64 r) := (hb.cell (p := ⟨p, off + j, none⟩) hbl).trans c0
        have c1' : w3.cell? ⟨p2, off2 + j, none⟩ = some (.int .u64 s) := (hb.cell (p := ⟨p2, off2 + j, none⟩) hbl2).trans c1
        have BX3 := Lib.hid ((BX2.out.drewN q).kept hb)
        have HB3 := Lib.hid (below_call (below_drewN HB2.out q) hb hs2)
        clear hb c0 c1 e0
        have e0 := BX3.out.cell
        have F := Lib.hid (fun n => below_drewN HB3.out n)
        have hss : (s == s) = true := by simp
        clear hss
        by_cases k0 : xk = 0
        · subst k0
          have h1 := HS.out
          rw [word_load] at h1
          have h2 := HTT.out
          rw [word_load] at h2
          subst h1 h2
          clear HS HTT
          go_wp2_with fail
          go_quiet (fail)
          go_wp2
          go_ret
          exact ⟨rfl, F.out _⟩
        by_cases k1 : xk = 1
        · subst k1
          have h1 := HS.out
          rw [word_store] at h1
          subst h1
          clear HS HTT
          go_wp2_with fail
          go_quiet (fail)
          go_wp2
          go_ret
          exact ⟨rfl, F.out _⟩
        by_cases k3 : xk = 3
        · subst k3
          have h1 := HS.out
          rw [word_more] at h1
          have h2 := HTT.out
          rw [word_more] at h2
          have hst : t = s := by rw [h1, h2]
          subst hst
          have hback : (IntKind.u64.wrap (t - xa) == r) = true := by
            rw [IntKind.wrap_u64, h1]
            simp only [beq_iff_eq]
            omega
          clear HS HTT h1 h2
          go_wp2_with fail
          go_quiet (fail)
          go_wp2
          go_ret
          exact ⟨rfl, F.out _⟩
        · have b0 : (xk != 0) = true := by simpa using k0
          have b1 : (xk != 1) = true := by simpa using k1
          have b3 : (xk != 3) = true := by simpa using k3
          clear HS HTT
          go_wp2_with fail
          go_quiet (fail)
          go_wp2
          go_ret
          exact ⟨rfl, F.out _⟩
end Go.Proofs.Ytpkelneimjmmkaa

/- Plain laws of layer 15: what a write leaves; what a try comes to where nobody writes. -/
import Derived.Test.YtpkelneimjmmkaaPureP
namespace Go.Proofs.Ytpkelneimjmmkaa

theorem writeL_len (b ver : Int) (ws : List Int) : (writeL b ver ws).length = ws.length + 3 := tab_len _ _
theorem writeL_at (b ver : Int) (ws : List Int) {q : Nat} (h : q < ws.length + 3) : (writeL b ver ws).getD q insn0 = writeI b ver ws q := tab_getD _ h
/-- What the memory has when so many words were laid. -/
def WP (b : Nat) (ver : Int) (ws : List Int) (q : Nat) (m : List Int) : Prop := (1 ≤ q → m.getD b 0 = ver + 1) ∧ ∀ j, j + 1 < q → j < ws.length → m.getD (b + 1 + j) 0 = ws.getD j 0
section
variable {b : Nat} {ver : Int} {ws : List Int}
theorem write_stay {q : Nat} (hq : q ≤ ws.length + 1) (regs : List Int) (a : Int) : rest (writeL b ver ws) ⟨(q : Int), regs, false, a⟩ = ⟨(q : Int), regs, false, a⟩ := by
  have hl := writeL_len b ver ws
  refine rest_at rfl (by simp only; omega) (by simp only; omega) ?_
  simp only [Int.toNat_natCast]
  rw [writeL_at _ _ _ (by omega)]
  unfold writeI
  split
  · simp
  · split
    · simp
    · rw [if_pos (by omega)]; simp
theorem access_put {m : List Int} {i : Nat} (h : i < m.length) (a : Int) : access m ⟨1, (i : Int), a, 0⟩ = (m.set i a, 0) := by
  unfold access
  rw [if_neg (by simp only; omega)]
  simp
theorem write_put (h1 : 1 ≤ ws.length) (h2 : ws.length ≤ 28) {m : List Int} (hm : m.length ≤ 256) (hb : b + ws.length < m.length) {q : Nat} (hq : q ≤ ws.length + 1) (regs : List Int) (a : Int) :
    stepT ⟨writeL b ver ws, ⟨(q : Int), regs, false, a⟩⟩ m =
      (⟨writeL b ver ws, rest (writeL b ver ws) ⟨((q + 1 : Nat) : Int), regs, false, a⟩⟩, if q = 0 then m.set b (ver + 1) else if q ≤ ws.length then m.set (b + q) (ws.getD (q - 1) 0) else m.set b (ver + 2)) := by
  have hl := writeL_len b ver ws
  have hx := writeL_at (b : Int) ver ws (q := q) (by omega)
  have hs := writeL_sane (b := (b : Int)) (ver := ver) h1 h2
  rw [stepT_at (x := writeI b ver ws q) hs rfl (by simp only; omega) (by simp only; omega) (by simp only [Int.toNat_natCast]; exact hx) (by unfold writeI; split; (· simp); split; (· simp); rw [if_pos (by omega)]; simp), counts_id hm]
  have hmv : ∀ x : Insn, x.k = 1 → ∀ d, moved ⟨(q : Int), regs, false, a⟩ x d = ⟨((q + 1 : Nat) : Int), regs, false, a⟩ := fun x hk d => by
    unfold moved
    rw [if_neg (by omega)]
    simp
  unfold writeI
  split
  · rename_i h0
    subst h0
    rw [hmv _ rfl]
    have : access m ⟨kind 1, (b : Int), ver + 1, 0⟩ = (m.set b (ver + 1), 0) := access_put (by omega) _
    simp only
    rw [this]
    all_goals simp
  · rename_i h0
    split
    · rename_i h3
      rw [hmv _ rfl]
      have : access m ⟨kind 1, (b : Int) + (q : Int), ws.getD (q - 1) 0, 0⟩ = (m.set (b + q) (ws.getD (q - 1) 0), 0) := by
        rw [show (b : Int) + (q : Int) = ((b + q : Nat) : Int) by push_cast; rfl]
        exact access_put (by omega) _
      simp only
      rw [this]
      all_goals simp [h0, h3]
    · rename_i h3
      rw [if_pos (by omega), hmv _ rfl]
      have : access m ⟨kind 1, (b : Int), ver + 2, 0⟩ = (m.set b (ver + 2), 0) := access_put (by omega) _
      simp only
      rw [this]
      all_goals simp [h0, h3]
theorem write_run (h1 : 1 ≤ ws.length) (h2 : ws.length ≤ 28) (d : Nat) : ∀ (q : Nat) (m : List Int), m.length ≤ 256 → b + ws.length < m.length → q + d ≤ ws.length + 1 → WP b ver ws q m →
    ∃ m2, stepsN d ⟨writeL b ver ws, ⟨(q : Int), zeros 32, false, 0⟩⟩ m = (⟨writeL b ver ws, ⟨((q + d : Nat) : Int), zeros 32, false, 0⟩⟩, m2, d) ∧ m2.length = m.length ∧ WP b ver ws (q + d) m2 := by
  induction d with
  | zero => intro q m _ _ _ hp; exact ⟨m, rfl, rfl, hp⟩
  | succ d ih =>
    intro q m hm hb hq hp
    have hst := write_put (ver := ver) h1 h2 hm hb (q := q) (by omega) (zeros 32) 0
    rw [write_stay (by omega)] at hst
    have key : ∀ m1 : List Int, m1.length = m.length → stepT ⟨writeL b ver ws, ⟨(q : Int), zeros 32, false, 0⟩⟩ m = (⟨writeL b ver ws, ⟨((q + 1 : Nat) : Int), zeros 32, false, 0⟩⟩, m1) → WP b ver ws (q + 1) m1 →
        ∃ m2, stepsN (d + 1) ⟨writeL b ver ws, ⟨(q : Int), zeros 32, false, 0⟩⟩ m = (⟨writeL b ver ws, ⟨((q + (d + 1) : Nat) : Int), zeros 32, false, 0⟩⟩, m2, d + 1) ∧ m2.length = m.length ∧ WP b ver ws (q + (d + 1)) m2 := by
      intro m1 hl1 he hw
      obtain ⟨m2, e2, l2, w2⟩ := ih (q + 1) m1 (by omega) (by omega) (by omega) hw
      refine ⟨m2, ?_, by omega, ?_⟩
      · rw [stepsN_succ rfl, he]
        simp only
        rw [e2, show q + 1 + d = q + (d + 1) by omega]
      · rw [show q + (d + 1) = q + 1 + d by omega]; exact w2
    by_cases h0 : q = 0
    · subst h0
      rw [if_pos rfl] at hst
      refine key _ (by simp) hst ⟨fun _ => getD_set_same _ (by omega), fun j hj => absurd hj (by omega)⟩
    · rw [if_neg h0, if_pos (by omega)] at hst
      refine key _ (by simp) hst ⟨fun _ => by rw [getD_set_other _ (by omega)]; exact hp.1 (by omega), fun j hj hjn => ?_⟩
      by_cases hje : j + 1 = q
      · subst hje
        rw [show b + 1 + j = b + (j + 1) by omega, getD_set_same _ (by omega)]
        simp
      · rw [getD_set_other _ (by omega)]
        exact hp.2 j (by omega) hjn
theorem write_start (h1 : 1 ≤ ws.length) (h2 : ws.length ≤ 28) : startT (writeL b ver ws) = ⟨writeL b ver ws, ⟨((0 : Nat) : Int), zeros 32, false, 0⟩⟩ := by
  have hs := writeL_sane (b := (b : Int)) (ver := ver) h1 h2
  have := write_stay (b := b) (ver := ver) (ws := ws) (q := 0) (by omega) (zeros 32) 0
  unfold startT
  rw [if_pos hs]
  congr 1
/-- A part of a write. -/
theorem write_part (h1 : 1 ≤ ws.length) (h2 : ws.length ≤ 28) {m : List Int} (hm : m.length ≤ 256) (hb : b + ws.length < m.length) {d : Nat} (hd1 : 1 ≤ d) (hd : d ≤ ws.length + 1) :
    (stepsT (startT (writeL b ver ws)) m (d : Int)).2.1.length = m.length ∧ (stepsT (startT (writeL b ver ws)) m (d : Int)).2.1.getD b 0 = ver + 1 := by
  obtain ⟨m2, e2, l2, w2⟩ := write_run (ver := ver) h1 h2 d 0 m hm hb (by omega) ⟨fun h => absurd h (by omega), fun j hj => absurd hj (by omega)⟩
  have e : stepsT (startT (writeL b ver ws)) m (d : Int) = stepsN d (startT (writeL b ver ws)) m := by
    unfold stepsT; rw [counts_id hm, show atMost (d : Int) = d by unfold atMost; omega]
  rw [e, write_start h1 h2, e2]
  exact ⟨l2, w2.1 (by omega)⟩
/-- A whole write. -/
theorem write_all (h1 : 1 ≤ ws.length) (h2 : ws.length ≤ 28) {m : List Int} (hm : m.length ≤ 256) (hb : b + ws.length < m.length) :
    let R := stepsT (startT (writeL b ver ws)) m 99
    R.1.t.done = true ∧ R.1.t.ans = 1 ∧ R.2.2 = ws.length + 2 ∧ R.2.1.length = m.length ∧ R.2.1.getD b 0 = ver + 2 ∧ ∀ j, j < ws.length → R.2.1.getD (b + 1 + j) 0 = ws.getD j 0 := by
  obtain ⟨m2, e2, l2, w2⟩ := write_run (ver := ver) h1 h2 (ws.length + 1) 0 m hm hb (by omega) ⟨fun h => absurd h (by omega), fun j hj => absurd hj (by omega)⟩
  have e : stepsT (startT (writeL b ver ws)) m 99 = stepsN ((ws.length + 1) + ((97 - ws.length) + 1)) (startT (writeL b ver ws)) m := by
    unfold stepsT; rw [counts_id hm, show (ws.length + 1) + ((97 - ws.length) + 1) = atMost 99 by unfold atMost; omega]
  have hput := write_put (b := b) (ver := ver) h1 h2 (m := m2) (by omega) (by omega) (q := ws.length + 1) (by omega) (zeros 32) 0
  rw [if_neg (by omega), if_neg (by omega)] at hput
  have hs := writeL_sane (b := (b : Int)) (ver := ver) h1 h2
  have hl := writeL_len b ver ws
  have hend : rest (writeL b ver ws) ⟨((ws.length + 1 + 1 : Nat) : Int), zeros 32, false, 0⟩ = ⟨((ws.length + 1 + 1 : Nat) : Int), zeros 32, true, 1⟩ := by
    refine rest_end (x := ⟨6, 0, 0, (ws.length : Int) + 3, 1⟩) hs rfl (by simp only; omega) (by simp only; omega) ?_ rfl
    simp only [Int.toNat_natCast]
    rw [writeL_at _ _ _ (by omega)]
    unfold writeI
    rw [if_neg (by omega), if_neg (by omega), if_neg (by omega)]
  rw [hend] at hput
  have e3 : stepsN ((97 - ws.length) + 1) ⟨writeL b ver ws, ⟨((0 + (ws.length + 1) : Nat) : Int), zeros 32, false, 0⟩⟩ m2 = (⟨writeL b ver ws, ⟨((ws.length + 1 + 1 : Nat) : Int), zeros 32, true, 1⟩⟩, m2.set b (ver + 2), 1) := by
    rw [stepsN_succ rfl, Nat.zero_add, hput]
    simp only
    rw [stepsN_done rfl]
  simp only
  rw [e, write_start h1 h2, stepsN_add, e2]
  simp only
  rw [e3]
  refine ⟨rfl, rfl, rfl, by simp [l2], getD_set_same _ (by omega), fun j hj => ?_⟩
  simp only
  rw [getD_set_other _ (by omega)]
  exact w2.2 j (by omega) hj
end

/-! ### a try where nobody writes -/
theorem access_get {m : List Int} {i : Nat} (h : i < m.length) (a c : Int) : (access m ⟨0, (i : Int), a, c⟩).2 = m.getD i 0 := by
  unfold access
  rw [if_neg (by simp only; omega)]
  simp
section
variable {b n k : Nat}
/-- In vain: whoever writes has begun. -/
theorem try_vain (hn1 : 1 ≤ n) (hn : n ≤ 28) (hk : k ≤ 6) {m : List Int} (hm : m.length ≤ 256) (hb : b < m.length) (ho : m.getD b 0 % 2 = 1) (d : Nat) : ∀ (i : Nat) (regs : List Int) (N : Nat), regs.length = 32 → i + (d + 1) = k → d + 1 ≤ N →
    (stepsN N ⟨tryL b n k, ⟨((i * (n + 4) + 0 : Nat) : Int), regs, false, 0⟩⟩ m).1.t.done = true ∧ (stepsN N ⟨tryL b n k, ⟨((i * (n + 4) + 0 : Nat) : Int), regs, false, 0⟩⟩ m).1.t.ans = 0 ∧
    (stepsN N ⟨tryL b n k, ⟨((i * (n + 4) + 0 : Nat) : Int), regs, false, 0⟩⟩ m).2.2 = d + 1 := by
  induction d with
  | zero =>
    intro i regs N hr hi hN
    obtain ⟨N, rfl⟩ : ∃ p, N = p + 1 := ⟨N - 1, by omega⟩
    obtain ⟨x, hx, e⟩ := (try_step (b := (b : Int)) hn1 hn hk (T := ⟨tryL b n k, ⟨((i * (n + 4) + 0 : Nat) : Int), regs, false, 0⟩⟩) (i := i) (r := 0) ⟨rfl, rfl, rfl, by omega, .inl rfl, hr⟩ hm).1 rfl
    rw [access_get hb] at hx
    rw [stepsN_succ rfl, e]
    simp only
    rw [try_odd hn hk (by omega) _ _ (by rw [getD_set_same _ (by omega), hx]; exact ho), hi, try_none hn hk, stepsN_done rfl]
    exact ⟨rfl, rfl, rfl⟩
  | succ d ih =>
    intro i regs N hr hi hN
    obtain ⟨N, rfl⟩ : ∃ p, N = p + 1 := ⟨N - 1, by omega⟩
    obtain ⟨x, hx, e⟩ := (try_step (b := (b : Int)) hn1 hn hk (T := ⟨tryL b n k, ⟨((i * (n + 4) + 0 : Nat) : Int), regs, false, 0⟩⟩) (i := i) (r := 0) ⟨rfl, rfl, rfl, by omega, .inl rfl, hr⟩ hm).1 rfl
    rw [access_get hb] at hx
    rw [stepsN_succ rfl, e]
    simp only
    rw [try_odd hn hk (by omega) _ _ (by rw [getD_set_same _ (by omega), hx]; exact ho)]
    have hst := try_stay (b := (b : Int)) (n := n) (k := k) (i := i + 1) (r := 0) (by omega) (.inl rfl) (regs.set 0 x) 0
    rw [Nat.add_zero] at hst
    rw [hst]
    obtain ⟨r1, r2, r3⟩ := ih (i + 1) (regs.set 0 x) N (by simp [hr]) (by omega) (by omega)
    rw [Nat.add_zero] at r1 r2 r3
    exact ⟨r1, r2, by rw [r3]⟩
/-- What has been read, from a place of a look on. -/
theorem try_read (hn1 : 1 ≤ n) (hn : n ≤ 28) (hk : k ≤ 6) {m : List Int} (hm : m.length ≤ 256) (hb : b + n < m.length) {i : Nat} (hi : i < k) (d : Nat) : ∀ (r : Nat) (regs : List Int) (N : Nat), regs.length = 32 → r + d = n + 2 → 2 ≤ r → d + 1 ≤ N →
    regs.getD 0 0 = m.getD b 0 → (∀ j, j + 2 < r → regs.getD (1 + j) 0 = m.getD (b + 1 + j) 0) →
    let R := stepsN N ⟨tryL b n k, ⟨((i * (n + 4) + r : Nat) : Int), regs, false, 0⟩⟩ m
    R.1.t.done = true ∧ R.1.t.ans = 1 ∧ R.2.2 = d + 1 ∧ R.1.t.regs.getD 0 0 = m.getD b 0 ∧ R.1.t.regs.length = 32 ∧ ∀ j, j < n → R.1.t.regs.getD (1 + j) 0 = m.getD (b + 1 + j) 0 := by
  induction d with
  | zero =>
    intro r regs N hr hrd hr2 hN h0 hw
    obtain ⟨N, rfl⟩ : ∃ p, N = p + 1 := ⟨N - 1, by omega⟩
    obtain ⟨x, hx, e⟩ := (try_step (b := (b : Int)) hn1 hn hk (T := ⟨tryL b n k, ⟨((i * (n + 4) + r : Nat) : Int), regs, false, 0⟩⟩) (i := i) (r := r) ⟨rfl, rfl, rfl, hi, .inr ⟨hr2, by omega⟩, hr⟩ hm).2.2 (by omega)
    rw [access_get (by omega)] at hx
    have g31 : (regs.set 31 x).getD 31 0 = x := getD_set_same _ (by omega)
    have g0 : (regs.set 31 x).getD 0 0 = m.getD b 0 := by rw [getD_set_other _ (by omega)]; exact h0
    simp only
    rw [stepsN_succ rfl, e]
    simp only
    rw [try_same hn hk hi _ _ (by rw [g31, g0]; exact hx), stepsN_done rfl]
    refine ⟨rfl, rfl, rfl, g0, by simp [hr], fun j hj => ?_⟩
    simp only
    rw [getD_set_other _ (by omega)]
    exact hw j (by omega)
  | succ d ih =>
    intro r regs N hr hrd hr2 hN h0 hw
    obtain ⟨N, rfl⟩ : ∃ p, N = p + 1 := ⟨N - 1, by omega⟩
    obtain ⟨x, hx, e⟩ := (try_step (b := (b : Int)) hn1 hn hk (T := ⟨tryL b n k, ⟨((i * (n + 4) + r : Nat) : Int), regs, false, 0⟩⟩) (i := i) (r := r) ⟨rfl, rfl, rfl, hi, .inr ⟨hr2, by omega⟩, hr⟩ hm).2.1 hr2 (by omega)
    rw [show (b : Int) + ((r : Int) - 1) = ((b + (r - 1) : Nat) : Int) by omega, access_get (by omega)] at hx
    have hrec := ih (r + 1) (regs.set (r - 1) x) N (by simp [hr]) (by omega) (by omega) (by omega) (by rw [getD_set_other _ (by omega)]; exact h0) (fun j hj => by
      by_cases hje : 1 + j = r - 1
      · rw [hje, getD_set_same _ (by omega), hx, show b + (r - 1) = b + 1 + j by omega]
      · rw [getD_set_other _ (by omega)]
        exact hw j (by omega))
    simp only at hrec ⊢
    rw [stepsN_succ rfl, e]
    obtain ⟨r1, r2, r3, r4, r5, r6⟩ := hrec
    exact ⟨r1, r2, by simp only; omega, r4, r5, r6⟩
/-- Where nobody writes a look is enough. -/
theorem try_once (hn1 : 1 ≤ n) (hn : n ≤ 28) (hk1 : 1 ≤ k) (hk : k ≤ 6) {m : List Int} (hm : m.length ≤ 256) (hb : b + n < m.length) (ho : ¬ m.getD b 0 % 2 = 1) :
    let R := stepsT (startT (tryL b n k)) m 999
    R.1.t.done = true ∧ R.1.t.ans = 1 ∧ R.2.2 = n + 2 ∧ R.1.t.regs.getD 0 0 = m.getD b 0 ∧ R.1.t.regs.length = 32 ∧ ∀ j, j < n → R.1.t.regs.getD (1 + j) 0 = m.getD (b + 1 + j) 0 := by
  obtain ⟨N, hN⟩ : ∃ N : Nat, N + 1 = atMost 999 ∧ 29 ≤ N ∧ N ≤ 2000 := ⟨998, by unfold atMost; omega, by omega, by omega⟩
  have e : stepsT (startT (tryL b n k)) m 999 = stepsN (N + 1) (startT (tryL b n k)) m := by
    unfold stepsT; rw [counts_id hm, hN.1]
  have h0 : startT (tryL (b : Int) n k) = ⟨tryL b n k, ⟨((0 * (n + 4) + 0 : Nat) : Int), zeros 32, false, 0⟩⟩ := by
    rw [try_start hn hk1 hk]; simp [tsk0]
  obtain ⟨x, hx, e1⟩ := (try_step (b := (b : Int)) hn1 hn hk (T := ⟨tryL b n k, ⟨((0 * (n + 4) + 0 : Nat) : Int), zeros 32, false, 0⟩⟩) (i := 0) (r := 0) ⟨rfl, rfl, rfl, by omega, .inl rfl, zeros_len 32⟩ hm).1 rfl
  rw [access_get (by omega)] at hx
  have g0 : ((zeros 32).set 0 x).getD 0 0 = x := getD_set_same _ (by simp [zeros])
  rw [try_even hn hk hn1 (by omega) _ _ (by rw [g0, hx]; exact ho)] at e1
  have hrec := try_read (k := k) hn1 hn hk hm hb (i := 0) (by omega) n 2 ((zeros 32).set 0 x) N (by simp [zeros]) (by omega) (by omega) (by omega) (by rw [g0, hx]) (fun j hj => absurd hj (by omega))
  simp only at hrec ⊢
  rw [e, h0, stepsN_succ rfl, e1]
  obtain ⟨r1, r2, r3, r4, r5, r6⟩ := hrec
  exact ⟨r1, r2, by simp only; omega, r4, r5, r6⟩
theorem try_vain_all (hn1 : 1 ≤ n) (hn : n ≤ 28) (hk1 : 1 ≤ k) (hk : k ≤ 6) {m : List Int} (hm : m.length ≤ 256) (hb : b < m.length) (ho : m.getD b 0 % 2 = 1) :
    let R := stepsT (startT (tryL b n k)) m 999
    R.1.t.done = true ∧ R.1.t.ans = 0 ∧ R.2.2 = k := by
  have e : stepsT (startT (tryL b n k)) m 999 = stepsN 999 (startT (tryL b n k)) m := by
    unfold stepsT; rw [counts_id hm, show 999 = atMost 999 by unfold atMost; omega]
  have h0 : startT (tryL (b : Int) n k) = ⟨tryL b n k, ⟨((0 * (n + 4) + 0 : Nat) : Int), zeros 32, false, 0⟩⟩ := by
    rw [try_start hn hk1 hk]; simp [tsk0]
  have := try_vain (b := b) hn1 hn hk hm hb ho (k - 1) 0 (zeros 32) 999 (zeros_len 32) (by omega) (by omega)
  simp only
  rw [e, h0]
  exact ⟨this.1, this.2.1, by rw [this.2.2]; omega⟩
end
end Go.Proofs.Ytpkelneimjmmkaa

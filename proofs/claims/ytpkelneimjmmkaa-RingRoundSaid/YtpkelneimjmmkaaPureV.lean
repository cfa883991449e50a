/- Plain laws of steps: so many and so many more; each is done in time; what is laid is loaded. -/
import Derived.Test.YtpkelneimjmmkaaPureU
namespace Go.Proofs.Ytpkelneimjmmkaa

theorem stepsN_succ {T : FT} (hd : T.t.done = false) (n : Nat) (m : List Int) :
    stepsN (n + 1) T m = ((stepsN n (stepT T m).1 (stepT T m).2).1, (stepsN n (stepT T m).1 (stepT T m).2).2.1, (stepsN n (stepT T m).1 (stepT T m).2).2.2 + 1) := by
  simp only [stepsN]; rw [if_neg (by simp [hd])]
theorem stepsN_add (a : Nat) : ∀ (b : Nat) (T : FT) (m : List Int),
    stepsN (a + b) T m = ((stepsN b (stepsN a T m).1 (stepsN a T m).2.1).1, (stepsN b (stepsN a T m).1 (stepsN a T m).2.1).2.1, (stepsN a T m).2.2 + (stepsN b (stepsN a T m).1 (stepsN a T m).2.1).2.2) := by
  induction a with
  | zero => intro b T m; simp [stepsN]
  | succ a ih =>
    intro b T m
    by_cases hd : T.t.done = true
    · rw [stepsN_done hd (a + 1 + b), stepsN_done hd (a + 1), stepsN_done hd b]; simp
    · have hd' : T.t.done = false := by simpa using hd
      rw [show a + 1 + b = (a + b) + 1 by omega, stepsN_succ hd', stepsN_succ hd', ih]
      refine Prod.ext rfl (Prod.ext rfl ?_)
      simp only
      omega
theorem stepsN_len (n : Nat) : ∀ (T : FT) (m : List Int), m.length ≤ 256 → (stepsN n T m).2.1.length = m.length := by
  induction n with
  | zero => intro T m _; rfl
  | succ n ih =>
    intro T m hm
    simp only [stepsN]
    split
    · rfl
    · have h1 : (stepT T m).2.length = m.length := by rw [step_len, counts_id hm]
      simp only
      rw [ih _ _ (by omega), h1]
theorem stepsN_stop (n : Nat) : ∀ (T : FT) (m : List Int), (stepsN n T m).2.2 = n ∨ (stepsN n T m).1.t.done = true := by
  induction n with
  | zero => intro T m; exact .inl rfl
  | succ n ih =>
    intro T m
    by_cases hd : T.t.done = true
    · rw [stepsN_done hd]; exact .inr hd
    · rw [stepsN_succ (by simpa using hd)]
      rcases ih (stepT T m).1 (stepT T m).2 with h | h
      · left; simp only; omega
      · right; exact h
theorem counts_le (m : List Int) : (counts m).length ≤ 256 := by simp [counts]; omega
theorem steps_parts (T : FT) (m : List Int) {a b : Int} (ha : 0 ≤ a) (ha' : a ≤ 300) (hb : 0 ≤ b) (hb' : b ≤ 300) :
    stepsT T m (a + b) = ((stepsT (stepsT T m a).1 (stepsT T m a).2.1 b).1, (stepsT (stepsT T m a).1 (stepsT T m a).2.1 b).2.1, (stepsT T m a).2.2 + (stepsT (stepsT T m a).1 (stepsT T m a).2.1 b).2.2) := by
  have e : atMost (a + b) = atMost a + atMost b := by unfold atMost; omega
  have h := counts_le m
  have h2 : (stepsN (atMost a) T (counts m)).2.1.length ≤ 256 := by rw [stepsN_len _ _ _ h]; exact h
  unfold stepsT
  rw [e, stepsN_add, counts_id h2]
theorem steps_most (T : FT) (m : List Int) {a : Int} (ha : 0 ≤ a) (ha' : a ≤ 300) : ((stepsT T m a).2.2 : Int) ≤ a ∧ (((stepsT T m a).2.2 : Int) = a ∨ (stepsT T m a).1.t.done = true) := by
  have e : (atMost a : Int) = a := by unfold atMost; omega
  unfold stepsT
  have h1 := stepsN_le (atMost a) T (counts m)
  have h2 := stepsN_stop (atMost a) T (counts m)
  refine ⟨by omega, ?_⟩
  rcases h2 with h2 | h2
  · left; omega
  · exact .inr h2

/-! ### done in time -/
theorem restN_mono {code : List Insn} (hs : Sane code) (n : Nat) : ∀ t : Tsk, (restN code n t).done = false → t.done = false ∧ t.pc ≤ (restN code n t).pc := by
  induction n with
  | zero => intro t h; exact ⟨h, Int.le_refl _⟩
  | succ n ih =>
    intro t
    simp only [restN]
    split
    · rename_i hd; intro h1; rw [hd] at h1; cases h1
    · rename_i hd
      simp only [Bool.not_eq_true] at hd
      split
      · intro h1; simp at h1
      · rename_i hp
        split
        · intro _; exact ⟨hd, Int.le_refl _⟩
        · intro h1
          refine ⟨hd, ?_⟩
          have h2 := (ih _ h1).2
          have hx := hs.1 t.pc.toNat (by omega)
          unfold saneAt at hx
          generalize code.getD t.pc.toNat insn0 = x at *
          have h3 : t.pc ≤ (byItself t x).pc := by
            unfold byItself
            split
            · exact Int.le_refl _
            · split
              · simp only; omega
              · simp only; omega
          omega
theorem rest_mono {code : List Insn} {t : Tsk} (hs : Sane code) (h : (rest code t).done = false) : t.pc ≤ (rest code t).pc := (restN_mono hs _ t h).2
theorem rest_end {code : List Insn} {t : Tsk} (hs : Sane code) (hd : t.done = false) (h0 : 0 ≤ t.pc) (h1 : t.pc < (code.length : Int)) {x : Insn} (hx : code.getD t.pc.toNat insn0 = x) (hk : x.k = 6) :
    rest code t = { t with done := true, ans := s64 x.a } := by
  rw [rest_on hs hd h0 h1 (by rw [hx]; omega), hx]
  unfold byItself
  rw [if_pos hk]
  exact rest_done rfl
theorem stepT_at {code : List Insn} {t : Tsk} {m : List Int} {x : Insn} (hs : Sane code) (hd : t.done = false) (h0 : 0 ≤ t.pc) (h1 : t.pc < (code.length : Int)) (hx : code.getD t.pc.toNat insn0 = x) (hk : x.k ≤ 2) :
    stepT ⟨code, t⟩ m = (⟨code, rest code (moved t x (access (counts m) ⟨kind x.k, x.i, x.a, 0⟩).2)⟩, (access (counts m) ⟨kind x.k, x.i, x.a, 0⟩).1) := by
  unfold stepT
  have e : rest code t = t := rest_at hd h0 h1 (by rw [hx]; exact hk)
  simp only
  rw [if_neg (by simp [hd]), if_neg (by simpa using hs), e, if_neg (by simp [hd]), hx]

/-- A task of a program behind so many steps, whatever the memories. -/
def EndsInv (c : List Insn) (i : Nat) (T : FT) : Prop :=
  (Sane c ∧ T.code = c ∧ (T.t.done = true ∨ (T.t.done = false ∧ (i : Int) ≤ T.t.pc ∧ 0 ≤ T.t.pc ∧ T.t.pc < (c.length : Int) ∧ (c.getD T.t.pc.toNat insn0).k ≤ 2))) ∨
  (¬ Sane c ∧ T.t.done = true ∧ T.t.ans = -1)
theorem ends_rest {c : List Insn} (hs : Sane c) (t : Tsk) (i : Nat) (h : (i : Int) ≤ t.pc) : EndsInv c i ⟨c, rest c t⟩ := by
  refine .inl ⟨hs, rfl, ?_⟩
  by_cases hd : (rest c t).done = true
  · exact .inl hd
  · have hd' : (rest c t).done = false := by simpa using hd
    obtain ⟨p0, p1, p2⟩ := rest_rests hs hd'
    have := rest_mono hs hd'
    exact .inr ⟨hd', by simp only; omega, p0, p1, p2⟩
theorem ends_start (c : List Insn) : EndsInv c 0 (startT c) := by
  unfold startT
  split
  · rename_i hs; exact ends_rest hs _ _ (by simp [tsk0])
  · rename_i hs; exact .inr ⟨hs, rfl, rfl⟩
theorem ends_step {c : List Insn} {i : Nat} {T : FT} (h : EndsInv c i T) (m : List Int) :
    EndsInv c (i + 1) (stepT T m).1 ∧ (T.t.done = false → (stepT T m).1.t.done = false → T.t.pc < (stepT T m).1.t.pc) := by
  rcases h with ⟨hs, hc, hd | ⟨hd, h1, h2, h3, h4⟩⟩ | ⟨hs, hd, ha⟩
  · rw [step_still hd]
    exact ⟨.inl ⟨hs, hc, .inl hd⟩, fun h => by rw [hd] at h; cases h⟩
  · obtain ⟨code, t⟩ := T
    simp only at hc hd h1 h2 h3 h4
    subst hc
    rw [stepT_at hs hd h2 h3 rfl h4]
    have hp : (moved t (code.getD t.pc.toNat insn0) (access (counts m) ⟨kind (code.getD t.pc.toNat insn0).k, (code.getD t.pc.toNat insn0).i, (code.getD t.pc.toNat insn0).a, 0⟩).2).pc = t.pc + 1 := by
      unfold moved; split <;> rfl
    refine ⟨ends_rest hs _ _ (by rw [hp]; omega), fun _ hn => ?_⟩
    have := rest_mono hs hn
    rw [hp] at this
    simp only
    omega
  · rw [step_still hd]
    exact ⟨.inr ⟨hs, hd, ha⟩, fun h => by rw [hd] at h; cases h⟩
theorem ends_all {c : List Insn} {T : FT} (h : EndsInv c c.length T) : T.t.done = true ∧ (¬ Sane c → T.t.ans = -1) := by
  rcases h with ⟨hs, hc, hd | ⟨hd, h1, h2, h3, h4⟩⟩ | ⟨hs, hd, ha⟩
  · exact ⟨hd, fun h => absurd hs h⟩
  · omega
  · exact ⟨hd, fun _ => ha⟩

/-! ### what is laid is loaded -/
def putsC (ws : List Int) (k : Nat) : List Insn := (List.range k).map fun (i : Nat) => ⟨1, (i : Int), 0, (i : Int) + 1, ws.getD i 0⟩
def loadsC (n k : Nat) : List Insn := (List.range k).map fun (i : Nat) => ⟨0, (i : Int), (i : Int), (n : Int) + (i : Int) + 1, 0⟩
def laidC (ws : List Int) (k : Nat) : List Insn := putsC ws k ++ loadsC k k ++ [⟨6, 0, 0, 2 * (k : Int) + 1, 7⟩]
theorem putsC_len (ws : List Int) (k : Nat) : (putsC ws k).length = k := by simp [putsC]
theorem loadsC_len (n k : Nat) : (loadsC n k).length = k := by simp [loadsC]
theorem putsC_succ (ws : List Int) (k : Nat) : putsC ws (k + 1) = putsC ws k ++ [⟨1, (k : Int), 0, (k : Int) + 1, ws.getD k 0⟩] := by simp [putsC, List.range_succ]
theorem loadsC_succ (n k : Nat) : loadsC n (k + 1) = loadsC n k ++ [⟨0, (k : Int), (k : Int), (n : Int) + (k : Int) + 1, 0⟩] := by simp [loadsC, List.range_succ]
theorem laidC_len (ws : List Int) (k : Nat) : (laidC ws k).length = 2 * k + 1 := by simp [laidC, putsC_len, loadsC_len]; omega
theorem laidC_put (ws : List Int) (k j : Nat) (h : j < k) : (laidC ws k).getD j insn0 = ⟨1, (j : Int), 0, (j : Int) + 1, ws.getD j 0⟩ := by
  unfold laidC
  rw [List.getD_eq_getElem?_getD, List.getElem?_append_left (by simp [putsC_len, loadsC_len]; omega), List.getElem?_append_left (by simp [putsC_len]; omega)]
  simp [putsC, h]
theorem laidC_load (ws : List Int) (k j : Nat) (h : j < k) : (laidC ws k).getD (k + j) insn0 = ⟨0, (j : Int), (j : Int), (k : Int) + (j : Int) + 1, 0⟩ := by
  unfold laidC
  rw [List.getD_eq_getElem?_getD, List.getElem?_append_left (by simp [putsC_len, loadsC_len]; omega), List.getElem?_append_right (by simp [putsC_len]), putsC_len]
  simp [loadsC, h]
theorem laidC_end (ws : List Int) (k : Nat) : (laidC ws k).getD (2 * k) insn0 = ⟨6, 0, 0, 2 * (k : Int) + 1, 7⟩ := by
  unfold laidC
  rw [List.getD_eq_getElem?_getD, List.getElem?_append_right (by simp [putsC_len, loadsC_len]; omega)]
  simp [putsC_len, loadsC_len, show 2 * k - (k + k) = 0 by omega]
theorem laidC_sane (ws : List Int) {k : Nat} (hk : k ≤ 20) : Sane (laidC ws k) := by
  refine ⟨fun i hi => ?_, by rw [laidC_len]; omega, by rw [laidC_len]; omega⟩
  rw [laidC_len] at hi ⊢
  unfold saneAt
  by_cases h1 : i < k
  · rw [laidC_put ws k i h1]; simp only; omega
  · by_cases h2 : i < 2 * k
    · obtain ⟨j, rfl⟩ : ∃ j, i = k + j := ⟨i - k, by omega⟩
      rw [laidC_load ws k j (by omega)]; simp only; omega
    · have : i = 2 * k := by omega
      subst this
      rw [laidC_end]; simp only; omega
theorem laidC_ok {ws : List Int} {k : Nat} (hw : ∀ x ∈ ws, W64 x) (hk : k ≤ 20) : ∀ x ∈ laidC ws k, x.ok := by
  intro x hx
  unfold laidC at hx
  rcases List.mem_append.1 hx with hx | hx
  · rcases List.mem_append.1 hx with hx | hx
    · simp only [putsC, List.mem_map, List.mem_range] at hx
      obtain ⟨i, hi, rfl⟩ := hx
      refine ⟨by simp [I64], by simp only [I64]; omega, by simp [I64], by simp only [I64]; omega, ?_⟩
      simp only
      by_cases h : i < ws.length
      · exact hw _ (getD_mem h)
      · rw [List.getD_eq_getElem?_getD, List.getElem?_eq_none (by omega)]; simp [W64]
    · simp only [loadsC, List.mem_map, List.mem_range] at hx
      obtain ⟨i, hi, rfl⟩ := hx
      refine ⟨by simp [I64], by simp only [I64]; omega, by simp only [I64]; omega, by simp only [I64]; omega, by simp [W64]⟩
  · simp only [List.mem_singleton] at hx
    subst hx
    refine ⟨by simp [I64], by simp [I64], by simp [I64], by simp only [I64]; omega, by simp [W64]⟩
/-- What holds behind the steps. -/
def Laid (ws : List Int) (k d : Nat) (R : FT × List Int × Nat) : Prop :=
  R.1.t.done = true ∧ R.1.t.ans = 7 ∧ R.2.2 = d ∧ R.2.1.length = k ∧ (∀ i, i < k → R.2.1.getD i 0 = ws.getD i 0) ∧ (∀ i, i < k → R.1.t.regs.getD i 0 = ws.getD i 0)
theorem laid_run (ws : List Int) {k : Nat} (hk : k ≤ 20) (d : Nat) : ∀ (j : Nat) (regs m : List Int) (n : Nat), j + d = 2 * k → d ≤ n → regs.length = 32 → m.length = k →
    (∀ i, i < j → i < k → m.getD i 0 = ws.getD i 0) → (∀ i, k + i < j → regs.getD i 0 = ws.getD i 0) →
    Laid ws k d (stepsN n ⟨laidC ws k, rest (laidC ws k) ⟨j, regs, false, 0⟩⟩ m) := by
  have hs := laidC_sane ws hk
  have hl := laidC_len ws k
  induction d with
  | zero =>
    intro j regs m n hj hn hr hm h1 h2
    have e : j = 2 * k := by omega
    subst e
    rw [rest_end (t := ⟨((2 * k : Nat) : Int), regs, false, 0⟩) (x := ⟨6, 0, 0, 2 * (k : Int) + 1, 7⟩) hs rfl (by simp only; omega) (by simp only; omega) (by simp only [Int.toNat_natCast]; exact laidC_end ws k) rfl, stepsN_done rfl]
    exact ⟨rfl, by show s64 7 = 7; decide, rfl, hm, fun i hi => h1 i (by omega) hi, fun i hi => h2 i (by omega)⟩
  | succ d ih =>
    intro j regs m n hj hn hr hm h1 h2
    obtain ⟨n, rfl⟩ : ∃ p, n = p + 1 := ⟨n - 1, by omega⟩
    have hc : counts m = m := counts_id (by omega)
    by_cases hjk : j < k
    · have hx := laidC_put ws k j hjk
      rw [rest_at rfl (by simp only; omega) (by simp only; omega) (by simp only [Int.toNat_natCast]; rw [hx]; simp only; omega), stepsN_succ rfl,
        stepT_at hs rfl (by simp only; omega) (by simp only; omega) (by simp only [Int.toNat_natCast]; exact hx) (by simp only; omega), hc]
      have ha : access m ⟨kind 1, (j : Int), ws.getD j 0, 0⟩ = (m.set j (ws.getD j 0), 0) := by
        unfold access kind
        rw [if_neg (by simp only; omega)]
        simp
      have hmv : moved ⟨(j : Int), regs, false, 0⟩ ⟨1, (j : Int), 0, (j : Int) + 1, ws.getD j 0⟩ 0 = ⟨((j + 1 : Nat) : Int), regs, false, 0⟩ := by
        unfold moved; rw [if_neg (by simp)]; simp
      simp only
      rw [ha]
      simp only
      rw [hmv]
      obtain ⟨r1, r2, r3, r4, r5, r6⟩ := ih (j + 1) regs (m.set j (ws.getD j 0)) n (by omega) (by omega) hr (by simp [hm]) (fun i hi hik => by
        by_cases he : i = j
        · subst he; exact getD_set_same _ (by omega)
        · rw [getD_set_other _ (Ne.symm he)]; exact h1 i (by omega) hik) (fun i hi => h2 i (by omega))
      exact ⟨r1, r2, by simp only; omega, r4, r5, r6⟩
    · obtain ⟨i, rfl⟩ : ∃ i, j = k + i := ⟨j - k, by omega⟩
      have hik : i < k := by omega
      have hx := laidC_load ws k i hik
      rw [rest_at rfl (by simp only; omega) (by simp only; omega) (by simp only [Int.toNat_natCast]; rw [hx]; simp only; omega), stepsN_succ rfl,
        stepT_at hs rfl (by simp only; omega) (by simp only; omega) (by simp only [Int.toNat_natCast]; exact hx) (by simp only; omega), hc]
      have ha : access m ⟨kind 0, (i : Int), 0, 0⟩ = (m, m.getD i 0) := by
        unfold access kind
        rw [if_neg (by simp only; omega)]
        simp
      have hmv : moved ⟨((k + i : Nat) : Int), regs, false, 0⟩ ⟨0, (i : Int), (i : Int), (k : Int) + (i : Int) + 1, 0⟩ (m.getD i 0) = ⟨((k + i + 1 : Nat) : Int), regs.set i (m.getD i 0), false, 0⟩ := by
        unfold moved; rw [if_pos rfl]; simp
      simp only
      rw [ha]
      simp only
      rw [hmv]
      obtain ⟨r1, r2, r3, r4, r5, r6⟩ := ih (k + i + 1) (regs.set i (m.getD i 0)) m n (by omega) (by omega) (by simp [hr]) hm (fun q hq hqk => h1 q (by omega) hqk) (fun q hq => by
        by_cases he : q = i
        · subst he; rw [getD_set_same _ (by omega)]; exact h1 q (by omega) hik
        · rw [getD_set_other _ (Ne.symm he)]; exact h2 q (by omega))
      exact ⟨r1, r2, by simp only; omega, r4, r5, r6⟩
theorem laid_steps (ws : List Int) {k : Nat} (hk : k ≤ 20) : Laid ws k (2 * k) (stepsT (startT (laidC ws k)) (zeros k) 100) := by
  have hs := laidC_sane ws hk
  have e1 : startT (laidC ws k) = ⟨laidC ws k, rest (laidC ws k) ⟨((0 : Nat) : Int), zeros 32, false, 0⟩⟩ := by
    unfold startT; rw [if_pos hs]; rfl
  have e2 : stepsT (startT (laidC ws k)) (zeros k) 100 = stepsN 100 (startT (laidC ws k)) (zeros k) := by
    unfold stepsT; rw [counts_id (by rw [zeros_len]; omega)]; rfl
  rw [e2, e1]
  exact laid_run ws hk (2 * k) 0 (zeros 32) (zeros k) 100 (by omega) (by omega) (zeros_len _) (zeros_len _) (fun i hi => absurd hi (by omega)) (fun i hi => absurd hi (by omega))
end Go.Proofs.Ytpkelneimjmmkaa

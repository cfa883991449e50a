/- Plain laws of programs that run: an access, a jump, what never changes. -/
import Derived.Test.YtpkelneimjmmkaaPureV
namespace Go.Proofs.Ytpkelneimjmmkaa

/-- One step more. -/
def bump (R : FT × List Int × Nat) : FT × List Int × Nat := (R.1, R.2.1, R.2.2 + 1)
theorem run_at {c : List Insn} {t : Tsk} {m : List Int} {x : Insn} (hs : Sane c) (hm : m.length ≤ 256) (hd : t.done = false) (h0 : 0 ≤ t.pc) (h1 : t.pc < (c.length : Int)) (hx : c.getD t.pc.toNat insn0 = x) (hk : x.k ≤ 2) (n : Nat) :
    stepsN (n + 1) ⟨c, rest c t⟩ m = bump (stepsN n ⟨c, rest c (moved t x (access m ⟨kind x.k, x.i, x.a, 0⟩).2)⟩ (access m ⟨kind x.k, x.i, x.a, 0⟩).1) := by
  have e : rest c t = t := rest_at hd h0 h1 (by rw [hx]; exact hk)
  rw [e, stepsN_succ hd, stepT_at hs hd h0 h1 hx hk, counts_id hm]
  rfl
theorem rest_jump {c : List Insn} {t : Tsk} {x : Insn} (hs : Sane c) (hd : t.done = false) (h0 : 0 ≤ t.pc) (h1 : t.pc < (c.length : Int)) (hx : c.getD t.pc.toNat insn0 = x) (hk : 3 ≤ x.k) (hk' : x.k ≤ 5) (hj : jumpB t.regs x = true) :
    rest c t = rest c { t with pc := x.to } := by
  rw [rest_on hs hd h0 h1 (by rw [hx]; omega), hx]
  unfold byItself
  rw [if_neg (by omega), if_pos hj]
theorem rest_next {c : List Insn} {t : Tsk} {x : Insn} (hs : Sane c) (hd : t.done = false) (h0 : 0 ≤ t.pc) (h1 : t.pc < (c.length : Int)) (hx : c.getD t.pc.toNat insn0 = x) (hk : 3 ≤ x.k) (hk' : x.k ≤ 5) (hj : jumpB t.regs x = false) :
    rest c t = rest c { t with pc := t.pc + 1 } := by
  rw [rest_on hs hd h0 h1 (by rw [hx]; omega), hx]
  unfold byItself
  rw [if_neg (by omega), if_neg (by simp [hj])]

/-- What no access of the code changes stays. -/
def Keeps (P : List Int → Prop) (c : List Insn) : Prop := ∀ x ∈ c, x.k ≤ 2 → ∀ m : List Int, P m → P (access m ⟨kind x.k, x.i, x.a, 0⟩).1
theorem startT_keeps {P : List Int → Prop} {c : List Insn} (h : Keeps P c) : Keeps P (startT c).code := by
  unfold startT
  split
  · exact h
  · intro x hx; simp at hx
theorem stepT_keeps {P : List Int → Prop} {T : FT} {m : List Int} (h : Keeps P T.code) (hm : P (counts m)) : P (stepT T m).2 ∧ Keeps P (stepT T m).1.code := by
  unfold stepT
  split
  · exact ⟨hm, h⟩
  · split
    · exact ⟨hm, startT_keeps h⟩
    · rename_i hs
      simp only [Decidable.not_not] at hs
      split
      · exact ⟨hm, h⟩
      · rename_i hd
        simp only [Bool.not_eq_true] at hd
        obtain ⟨p0, p1, p2⟩ := rest_rests hs hd
        refine ⟨h _ ?_ p2 _ hm, h⟩
        rw [List.getD_eq_getElem?_getD, List.getElem?_eq_getElem (by omega)]
        exact List.getElem_mem _
theorem stepsN_keeps {P : List Int → Prop} (n : Nat) : ∀ (T : FT) (m : List Int), Keeps P T.code → m.length ≤ 256 → P m → P (stepsN n T m).2.1 := by
  induction n with
  | zero => intro T m _ _ h; exact h
  | succ n ih =>
    intro T m hk hm h
    simp only [stepsN]
    split
    · exact h
    · have h1 : (stepT T m).2.length = m.length := by rw [step_len, counts_id hm]
      have h2 := stepT_keeps (m := m) hk (by rw [counts_id hm]; exact h)
      exact ih _ _ h2.2 (by omega) h2.1
theorem steps_keeps {P : List Int → Prop} {c : List Insn} (h : Keeps P c) {m : List Int} (hm : m.length ≤ 256) (hP : P m) (most : Int) : P (stepsT (startT c) m most).2.1 := by
  unfold stepsT
  rw [counts_id hm]
  exact stepsN_keeps _ _ _ (startT_keeps h) hm hP
/-- Where words may be changed. -/
def SameBut (m0 : List Int) (A : Int → Prop) (m : List Int) : Prop := m.length = m0.length ∧ ∀ i : Nat, ¬ A (i : Int) → m.getD i 0 = m0.getD i 0
theorem sameBut_refl (m0 : List Int) (A : Int → Prop) : SameBut m0 A m0 := ⟨rfl, fun _ _ => rfl⟩
theorem sameBut_access {m0 m : List Int} {A : Int → Prop} (h : SameBut m0 A m) (x : Acc) (hx : x.k = 0 ∨ A x.i) : SameBut m0 A (access m x).1 := by
  refine ⟨by rw [access_len]; exact h.1, fun i hi => ?_⟩
  have key : ∀ y, x.i ≥ 0 → x.k ≠ 0 → (m.set x.i.toNat y).getD i 0 = m0.getD i 0 := fun y h0 hk => by
    rw [getD_set_other _ (fun e => ?_)]
    · exact h.2 i hi
    · have : x.i = (i : Int) := by omega
      rcases hx with hx | hx
      · exact hk hx
      · rw [this] at hx; exact hi hx
  unfold access
  split
  · exact h.2 i hi
  · split
    · exact h.2 i hi
    split
    · exact key _ (by omega) (by assumption)
    split
    · split
      · exact key _ (by omega) (by assumption)
      · exact h.2 i hi
    split
    · exact key _ (by omega) (by assumption)
    · exact h.2 i hi
theorem keeps_sameBut {m0 : List Int} {A : Int → Prop} {c : List Insn} (h : ∀ x ∈ c, x.k ≤ 2 → x.k = 0 ∨ A x.i) : Keeps (SameBut m0 A) c := by
  intro x hx hk m hm
  refine sameBut_access hm _ ?_
  rcases h x hx hk with h | h
  · left; simp only [kind]; rw [if_pos h]
  · right; exact h
end Go.Proofs.Ytpkelneimjmmkaa

/- Plain laws of tasks: instructions, what comes to rest, a step. -/
import Derived.Test.YtpkelneimjmmkaaPureC
namespace Go.Proofs.Ytpkelneimjmmkaa

/-- An instruction. -/
structure Insn where
  k : Int
  i : Int
  r : Int
  to : Int
  a : Int
def Insn.ok (x : Insn) : Prop := I64 x.k ∧ I64 x.i ∧ I64 x.r ∧ I64 x.to ∧ W64 x.a

/-- A task's fields but its code: where it is, its registers, whether it is done, what it answers. -/
structure Tsk where
  pc : Int
  regs : List Int
  done : Bool
  ans : Int
def Tsk.ok (t : Tsk) : Prop := t.regs.length = 32 ∧ (∀ x ∈ t.regs, W64 x) ∧ I64 t.pc ∧ I64 t.ans

/-- Is an instruction at its place one of a program of n instructions? -/
def saneAt (n i : Nat) (x : Insn) : Prop := 0 ≤ x.k ∧ x.k ≤ 6 ∧ 0 ≤ x.r ∧ x.r ≤ 31 ∧ (i : Int) < x.to ∧ x.to ≤ (n : Int)
instance (n i : Nat) (x : Insn) : Decidable (saneAt n i x) := by unfold saneAt; exact inferInstance
def insn0 : Insn := ⟨0, 0, 0, 0, 0⟩
/-- Are these instructions a program? -/
def Sane (l : List Insn) : Prop := (∀ i, i < l.length → saneAt l.length i (l.getD i insn0)) ∧ 1 ≤ l.length ∧ l.length ≤ 200
instance (l : List Insn) : Decidable (Sane l) := by unfold Sane; exact inferInstance

/-- An int's lowest five bits. -/
def low5 (i : Int) : Nat := (i % 32).toNat
theorem low5_lt (i : Int) : low5 i < 32 := by unfold low5; omega
/-- A word as an int. -/
def s64 (a : Int) : Int := (a + 9223372036854775808) % 18446744073709551616 - 9223372036854775808
theorem s64_ok (a : Int) : I64 (s64 a) := by unfold s64 I64; omega

def jumpB (regs : List Int) (x : Insn) : Bool :=
  if x.k = 3 then decide (regs.getD x.r.toNat 0 = x.a)
  else if x.k = 4 then decide (regs.getD x.r.toNat 0 % 2 = 1)
  else decide (regs.getD x.r.toNat 0 = regs.getD (low5 x.i) 0)

/-- One thing that a task does by itself. -/
def byItself (t : Tsk) (x : Insn) : Tsk :=
  if x.k = 6 then { t with done := true, ans := s64 x.a }
  else if jumpB t.regs x then { t with pc := x.to } else { t with pc := t.pc + 1 }

/-- A task goes on by what it does by itself, at most so many times. -/
def restN (code : List Insn) : Nat → Tsk → Tsk
  | 0, t => t
  | n + 1, t =>
    if t.done then t
    else if t.pc < 0 ∨ t.pc ≥ (code.length : Int) then { t with done := true, ans := -1 }
    else if (code.getD t.pc.toNat insn0).k ≤ 2 then t
    else restN code n (byItself t (code.getD t.pc.toNat insn0))
def left (code : List Insn) (t : Tsk) : Nat := if t.done then 0 else ((code.length : Int) - t.pc).toNat
/-- A task come to rest. -/
def rest (code : List Insn) (t : Tsk) : Tsk := restN code (left code t + 2) t

theorem byItself_left {code : List Insn} {t : Tsk} (hs : Sane code) (h0 : 0 ≤ t.pc) (h1 : t.pc < (code.length : Int)) (hd : t.done = false) :
    left code (byItself t (code.getD t.pc.toNat insn0)) < left code t := by
  have hx := hs.1 t.pc.toNat (by omega)
  unfold saneAt at hx
  generalize code.getD t.pc.toNat insn0 = x at *
  unfold byItself left
  rw [hd]
  split
  · simp only [if_true, Bool.false_eq_true, if_false]; omega
  · split
    · simp only [Bool.false_eq_true, if_false]; omega
    · simp only [Bool.false_eq_true, if_false]; omega
theorem restN_enough {code : List Insn} (hs : Sane code) (n : Nat) : ∀ (t : Tsk) (m : Nat), left code t + 2 ≤ n → left code t + 2 ≤ m → restN code n t = restN code m t := by
  induction n with
  | zero => intro t m h; omega
  | succ n ih =>
    intro t m hn hm
    obtain ⟨m, rfl⟩ : ∃ k, m = k + 1 := ⟨m - 1, by omega⟩
    simp only [restN]
    split
    · rfl
    · rename_i hd
      simp only [Bool.not_eq_true] at hd
      split
      · rfl
      · rename_i hp
        split
        · rfl
        · have := byItself_left hs (by omega) (by omega) hd
          by_cases h0 : left code t + 2 ≤ n + 1 ∧ left code t + 2 ≤ m + 1
          · exact ih _ _ (by omega) (by omega)
          · omega
theorem rest_done {code : List Insn} {t : Tsk} (h : t.done = true) : rest code t = t := by
  unfold rest; simp only [restN]; rw [if_pos h]
theorem rest_out {code : List Insn} {t : Tsk} (h : t.done = false) (hp : t.pc < 0 ∨ t.pc ≥ (code.length : Int)) : rest code t = { t with done := true, ans := -1 } := by
  unfold rest; simp only [restN]; rw [if_neg (by simp [h]), if_pos hp]
theorem rest_at {code : List Insn} {t : Tsk} (h : t.done = false) (h0 : 0 ≤ t.pc) (h1 : t.pc < (code.length : Int)) (hk : (code.getD t.pc.toNat insn0).k ≤ 2) : rest code t = t := by
  unfold rest; simp only [restN]; rw [if_neg (by simp [h]), if_neg (by omega), if_pos hk]
theorem rest_on {code : List Insn} {t : Tsk} (hs : Sane code) (h : t.done = false) (h0 : 0 ≤ t.pc) (h1 : t.pc < (code.length : Int)) (hk : ¬ (code.getD t.pc.toNat insn0).k ≤ 2) :
    rest code t = rest code (byItself t (code.getD t.pc.toNat insn0)) := by
  have hl := byItself_left hs h0 h1 h
  conv => lhs; unfold rest; simp only [restN]
  rw [if_neg (by simp [h]), if_neg (by omega), if_neg hk]
  exact restN_enough hs (left code t + 1) (byItself t (code.getD t.pc.toNat insn0)) (left code (byItself t (code.getD t.pc.toNat insn0)) + 2) (by omega) (by omega)
theorem byItself_ok {t : Tsk} {x : Insn} (ht : t.ok) (hx : x.ok) (hp : t.pc < 9223372036854775807) : (byItself t x).ok := by
  obtain ⟨h1, h2, h3, h4⟩ := ht
  unfold byItself
  split
  · exact ⟨h1, h2, h3, s64_ok _⟩
  · split
    · exact ⟨h1, h2, hx.2.2.2.1, h4⟩
    · exact ⟨h1, h2, by unfold I64 at *; constructor <;> (simp only; omega), h4⟩
theorem restN_ok {code : List Insn} (hc : ∀ x ∈ code, x.ok) (hl : (code.length : Int) ≤ 9223372036854775807) (n : Nat) : ∀ t : Tsk, t.ok → (restN code n t).ok := by
  induction n with
  | zero => intro t h; exact h
  | succ n ih =>
    intro t h
    simp only [restN]
    split
    · exact h
    · split
      · exact ⟨h.1, h.2.1, h.2.2.1, by unfold I64; constructor <;> (simp only; omega)⟩
      · split
        · exact h
        · rename_i hp hk
          refine ih _ (byItself_ok h (hc _ ?_) (by omega))
          rw [List.getD_eq_getElem?_getD, List.getElem?_eq_getElem (by omega)]
          exact List.getElem_mem _
theorem rest_ok {code : List Insn} (hc : ∀ x ∈ code, x.ok) (hl : (code.length : Int) ≤ 9223372036854775807) {t : Tsk} (h : t.ok) : (rest code t).ok := restN_ok hc hl _ t h
end Go.Proofs.Ytpkelneimjmmkaa

/- Plain laws of layer 14: what each step of a push and of a pop comes to. -/
import Derived.Test.YtpkelneimjmmkaaRingC
namespace Go.Proofs.Ytpkelneimjmmkaa

theorem put_at {m : List Int} {i : Nat} (h : i < m.length) (a : Int) : access m ⟨1, (i : Int), a, 0⟩ = (m.set i a, 0) := by
  unfold access
  rw [if_neg (by simp only; omega)]
  simp
theorem get_at {m : List Int} {i : Nat} (h : i < m.length) (a c : Int) : (access m ⟨0, (i : Int), a, c⟩).2 = m.getD i 0 := by
  unfold access
  rw [if_neg (by simp only; omega)]
  simp

section
variable {c : List Insn} {m : List Int} {p i : Nat} {r to x : Int}
theorem rest_here (hp : p < c.length) (hk : (c.getD p insn0).k ≤ 2) (regs : List Int) (a : Int) : rest c ⟨(p : Int), regs, false, a⟩ = ⟨(p : Int), regs, false, a⟩ :=
  rest_at rfl (by simp only; omega) (by simp only; omega) (by simp only [Int.toNat_natCast]; exact hk)
theorem rest_stop (hs : Sane c) (hp : p < c.length) {j : Int} (hx : c.getD p insn0 = ⟨6, j, r, to, x⟩) (regs : List Int) (a : Int) : rest c ⟨(p : Int), regs, false, a⟩ = ⟨(p : Int), regs, true, s64 x⟩ :=
  rest_end (x := ⟨6, j, r, to, x⟩) hs rfl (by simp only; omega) (by simp only; omega) (by simp only [Int.toNat_natCast]; exact hx) rfl
theorem rest_if (hs : Sane c) (hp : p < c.length) {j : Int} (hx : c.getD p insn0 = ⟨3, j, r, to, x⟩) (regs : List Int) (a : Int) :
    rest c ⟨(p : Int), regs, false, a⟩ = if regs.getD r.toNat 0 = x then rest c ⟨to, regs, false, a⟩ else rest c ⟨((p + 1 : Nat) : Int), regs, false, a⟩ := by
  split
  · rename_i h
    exact rest_jump (x := ⟨3, j, r, to, x⟩) hs rfl (by simp only; omega) (by simp only; omega) (by simp only [Int.toNat_natCast]; exact hx) (by simp only; omega) (by simp only; omega) (by unfold jumpB; rw [if_pos rfl]; exact decide_eq_true h)
  · rename_i h
    exact rest_next (x := ⟨3, j, r, to, x⟩) hs rfl (by simp only; omega) (by simp only; omega) (by simp only [Int.toNat_natCast]; exact hx) (by simp only; omega) (by simp only; omega) (by unfold jumpB; rw [if_pos rfl]; exact decide_eq_false h)
theorem step_load (hs : Sane c) (hm : m.length ≤ 256) (hp : p < c.length) (hx : c.getD p insn0 = ⟨0, (i : Int), r, to, x⟩) (hi : i < m.length) (regs : List Int) (a : Int) :
    stepT ⟨c, ⟨(p : Int), regs, false, a⟩⟩ m = (⟨c, rest c ⟨((p + 1 : Nat) : Int), regs.set r.toNat (m.getD i 0), false, a⟩⟩, m) := by
  rw [stepT_at hs rfl (by simp only; omega) (by simp only; omega) (by simp only [Int.toNat_natCast]; exact hx) (by simp only; omega), counts_id hm]
  have e : kind 0 = 0 := rfl
  simp only [e]
  rw [access_load, get_at hi]
  unfold moved
  rw [if_pos rfl]
  simp
theorem step_put (hs : Sane c) (hm : m.length ≤ 256) (hp : p < c.length) (hx : c.getD p insn0 = ⟨1, (i : Int), r, to, x⟩) (hi : i < m.length) (regs : List Int) (a : Int) :
    stepT ⟨c, ⟨(p : Int), regs, false, a⟩⟩ m = (⟨c, rest c ⟨((p + 1 : Nat) : Int), regs, false, a⟩⟩, m.set i x) := by
  rw [stepT_at hs rfl (by simp only; omega) (by simp only; omega) (by simp only [Int.toNat_natCast]; exact hx) (by simp only; omega), counts_id hm]
  have e : kind 1 = 1 := rfl
  simp only [e]
  rw [put_at hi]
  unfold moved
  rw [if_neg (by simp)]
  simp
theorem step_add (hs : Sane c) (hm : m.length ≤ 256) (hp : p < c.length) (hx : c.getD p insn0 = ⟨2, (i : Int), r, to, x⟩) (hi : i < m.length) (regs : List Int) (a : Int) :
    stepT ⟨c, ⟨(p : Int), regs, false, a⟩⟩ m = (⟨c, rest c ⟨((p + 1 : Nat) : Int), regs, false, a⟩⟩, m.set i ((m.getD i 0 + x) % 18446744073709551616)) := by
  rw [stepT_at hs rfl (by simp only; omega) (by simp only; omega) (by simp only [Int.toNat_natCast]; exact hx) (by simp only; omega), counts_id hm]
  have e : kind 2 = 3 := rfl
  simp only [e]
  have e2 : access m ⟨3, (i : Int), x, 0⟩ = (m.set i ((m.getD i 0 + x) % 18446744073709551616), (m.getD i 0 + x) % 18446744073709551616) := by
    unfold access
    rw [if_neg (by simp only; omega)]
    simp
  rw [e2]
  unfold moved
  rw [if_neg (by simp)]
  simp
end

/-! ### the two programs -/
def pushL (b c t : Nat) (ws : List Int) : List Insn := tab 12 (pushI b c t ws)
def popL (b c t : Nat) : List Insn := tab 11 (popI b c t)
def slotR (b c t : Nat) : Nat := b + 3 + 6 * (t % c)
theorem atR_slot (b c t : Nat) : atR b c t = ((slotR b c t : Nat) : Int) := by unfold atR slotR; push_cast; rfl
theorem slot_lt {b c t : Nat} (hc : 1 ≤ c) : b + 3 ≤ slotR b c t ∧ slotR b c t + 6 ≤ b + 3 + 6 * c := by
  have := Nat.mod_lt t (show 0 < c by omega)
  unfold slotR
  omega
theorem pushC_is {b c t : Nat} {ws : List Int} (hb : b ≤ 255) (hc : 1 ≤ c) (hc' : c ≤ 8) (hw : ws.length = 6) : pushC b c t ws = pushL b c t ws := by
  unfold pushC
  rw [if_pos ⟨⟨⟨by omega, by omega, by omega, by omega⟩, by omega⟩, hw⟩]
  rfl
theorem popC_is {b c t : Nat} (hb : b ≤ 255) (hc : 1 ≤ c) (hc' : c ≤ 8) : popC b c t = popL b c t := by
  unfold popC
  rw [if_pos ⟨⟨by omega, by omega, by omega, by omega⟩, by omega⟩]
  rfl
section
variable {b c t : Nat} {ws : List Int}
theorem pushL_len : (pushL b c t ws).length = 12 := tab_len _ _
theorem popL_len : (popL b c t).length = 11 := tab_len _ _
theorem pushL_sane : Sane (pushL b c t ws) := by
  refine tab_sane (fun q hq => ?_) (by omega) (by omega)
  unfold saneAt pushI
  repeat' split
  all_goals (simp only; omega)
theorem popL_sane : Sane (popL b c t) := by
  refine tab_sane (fun q hq => ?_) (by omega) (by omega)
  unfold saneAt popI
  repeat' split
  all_goals (simp only; omega)
theorem pushL_0 : (pushL b c t ws).getD 0 insn0 = ⟨0, (b : Int), 0, 1, 0⟩ := by unfold pushL; rw [tab_getD _ (by omega)]; rfl
theorem pushL_1 : (pushL b c t ws).getD 1 insn0 = ⟨3, 0, 0, 10, ((t : Int) - (c : Int)) % 18446744073709551616⟩ := by unfold pushL; rw [tab_getD _ (by omega)]; rfl
theorem pushL_put {j : Nat} (h : j < 6) : (pushL b c t ws).getD (2 + j) insn0 = ⟨1, ((slotR b c t + j : Nat) : Int), 0, ((2 + j : Nat) : Int) + 1, ws.getD j 0⟩ := by
  unfold pushL
  rw [tab_getD _ (by omega)]
  unfold pushI
  rw [if_neg (by omega), if_neg (by omega), if_pos (by omega), atR_slot, show 2 + j - 2 = j by omega]
  congr 1
  omega
theorem pushL_8 : (pushL b c t ws).getD 8 insn0 = ⟨1, ((b + 1 : Nat) : Int), 0, 9, (t : Int) + 1⟩ := by unfold pushL; rw [tab_getD _ (by omega)]; rfl
theorem pushL_9 : (pushL b c t ws).getD 9 insn0 = ⟨6, 0, 0, 10, 1⟩ := by unfold pushL; rw [tab_getD _ (by omega)]; rfl
theorem pushL_10 : (pushL b c t ws).getD 10 insn0 = ⟨2, ((b + 2 : Nat) : Int), 0, 11, 1⟩ := by unfold pushL; rw [tab_getD _ (by omega)]; rfl
theorem pushL_11 : (pushL b c t ws).getD 11 insn0 = ⟨6, 0, 0, 12, 0⟩ := by unfold pushL; rw [tab_getD _ (by omega)]; rfl
theorem popL_0 : (popL b c t).getD 0 insn0 = ⟨0, ((b + 1 : Nat) : Int), 0, 1, 0⟩ := by unfold popL; rw [tab_getD _ (by omega)]; rfl
theorem popL_1 : (popL b c t).getD 1 insn0 = ⟨3, 0, 0, 10, (t : Int)⟩ := by unfold popL; rw [tab_getD _ (by omega)]; rfl
theorem popL_get {j : Nat} (h : j < 6) : (popL b c t).getD (2 + j) insn0 = ⟨0, ((slotR b c t + j : Nat) : Int), ((1 + j : Nat) : Int), ((2 + j : Nat) : Int) + 1, 0⟩ := by
  unfold popL
  rw [tab_getD _ (by omega)]
  unfold popI
  rw [if_neg (by omega), if_neg (by omega), if_pos (by omega), atR_slot]
  congr 1
  · omega
  · omega
theorem popL_8 : (popL b c t).getD 8 insn0 = ⟨1, (b : Int), 0, 9, (t : Int) + 1⟩ := by unfold popL; rw [tab_getD _ (by omega)]; rfl
theorem popL_9 : (popL b c t).getD 9 insn0 = ⟨6, 0, 0, 10, 1⟩ := by unfold popL; rw [tab_getD _ (by omega)]; rfl
theorem popL_10 : (popL b c t).getD 10 insn0 = ⟨6, 0, 0, 11, 0⟩ := by unfold popL; rw [tab_getD _ (by omega)]; rfl

/-- A task of the push, of the pop, at a place. -/
def pushT (b c t : Nat) (ws : List Int) (p : Nat) (regs : List Int) (d : Bool) (a : Int) : FT := ⟨pushL b c t ws, ⟨(p : Int), regs, d, a⟩⟩
def popT (b c t : Nat) (p : Nat) (regs : List Int) (d : Bool) (a : Int) : FT := ⟨popL b c t, ⟨(p : Int), regs, d, a⟩⟩
theorem push_start : startT (pushL b c t ws) = pushT b c t ws 0 (zeros 32) false 0 := by
  unfold startT
  rw [if_pos pushL_sane]
  have := rest_here (c := pushL b c t ws) (p := 0) (by rw [pushL_len]; omega) (by rw [pushL_0]; simp) (zeros 32) 0
  unfold pushT
  congr 1
theorem pop_start : startT (popL b c t) = popT b c t 0 (zeros 32) false 0 := by
  unfold startT
  rw [if_pos popL_sane]
  have := rest_here (c := popL b c t) (p := 0) (by rw [popL_len]; omega) (by rw [popL_0]; simp) (zeros 32) 0
  unfold popT
  congr 1
theorem push_stay {j : Nat} (h : j ≤ 6) (regs : List Int) (a : Int) : rest (pushL b c t ws) ⟨((2 + j : Nat) : Int), regs, false, a⟩ = ⟨((2 + j : Nat) : Int), regs, false, a⟩ := by
  refine rest_here (by rw [pushL_len]; omega) ?_ _ _
  by_cases hj : j < 6
  · rw [pushL_put hj]; simp
  · obtain rfl : j = 6 := by omega
    rw [pushL_8]; simp
theorem pop_stay {j : Nat} (h : j ≤ 6) (regs : List Int) (a : Int) : rest (popL b c t) ⟨((2 + j : Nat) : Int), regs, false, a⟩ = ⟨((2 + j : Nat) : Int), regs, false, a⟩ := by
  refine rest_here (by rw [popL_len]; omega) ?_ _ _
  by_cases hj : j < 6
  · rw [popL_get hj]; simp
  · obtain rfl : j = 6 := by omega
    rw [popL_8]; simp
variable {m : List Int} {regs : List Int} {a : Int}
theorem push_look (hm : m.length ≤ 256) (hb : b + 3 + 6 * c = m.length) (hr : regs.length = 32) :
    stepT (pushT b c t ws 0 regs false a) m = (pushT b c t ws (if m.getD b 0 = ((t : Int) - (c : Int)) % 18446744073709551616 then 10 else 2) (regs.set 0 (m.getD b 0)) false a, m) := by
  unfold pushT
  rw [step_load pushL_sane hm (by rw [pushL_len]; omega) pushL_0 (by omega)]
  have g : (regs.set 0 (m.getD b 0)).getD 0 0 = m.getD b 0 := getD_set_same _ (by omega)
  have e := rest_if (c := pushL b c t ws) (p := 1) pushL_sane (by rw [pushL_len]; omega) pushL_1 (regs.set 0 (m.getD b 0)) a
  simp only [show ((0 : Int)).toNat = 0 from rfl, Nat.zero_add] at e ⊢
  rw [e, g]
  have e10 := rest_here (c := pushL b c t ws) (p := 10) (by rw [pushL_len]; omega) (by rw [pushL_10]; simp) (regs.set 0 (m.getD b 0)) a
  have e2 := push_stay (b := b) (c := c) (t := t) (ws := ws) (j := 0) (by omega) (regs.set 0 (m.getD b 0)) a
  split
  · exact congrArg (fun z => ((⟨pushL b c t ws, z⟩ : FT), m)) e10
  · exact congrArg (fun z => ((⟨pushL b c t ws, z⟩ : FT), m)) e2
theorem push_put (hm : m.length ≤ 256) (hc : 1 ≤ c) (hb : b + 3 + 6 * c = m.length) {j : Nat} (hj : j < 6) :
    stepT (pushT b c t ws (2 + j) regs false a) m = (pushT b c t ws (2 + (j + 1)) regs false a, m.set (slotR b c t + j) (ws.getD j 0)) := by
  have := slot_lt (b := b) (c := c) (t := t) hc
  unfold pushT
  rw [step_put pushL_sane hm (by rw [pushL_len]; omega) (pushL_put hj) (by omega), show 2 + j + 1 = 2 + (j + 1) by omega, push_stay (by omega)]
theorem push_yes (hm : m.length ≤ 256) (hb : b + 3 + 6 * c = m.length) :
    stepT (pushT b c t ws 8 regs false a) m = (pushT b c t ws 9 regs true 1, m.set (b + 1) ((t : Int) + 1)) := by
  unfold pushT
  rw [step_put pushL_sane hm (by rw [pushL_len]; omega) pushL_8 (by omega), rest_stop pushL_sane (by rw [pushL_len]; omega) pushL_9]
  rfl
theorem push_no (hm : m.length ≤ 256) (hb : b + 3 + 6 * c = m.length) :
    stepT (pushT b c t ws 10 regs false a) m = (pushT b c t ws 11 regs true 0, m.set (b + 2) ((m.getD (b + 2) 0 + 1) % 18446744073709551616)) := by
  unfold pushT
  rw [step_add pushL_sane hm (by rw [pushL_len]; omega) pushL_10 (by omega), rest_stop pushL_sane (by rw [pushL_len]; omega) pushL_11]
  rfl
theorem pop_look (hm : m.length ≤ 256) (hb : b + 3 + 6 * c = m.length) (hr : regs.length = 32) :
    stepT (popT b c t 0 regs false a) m = (if m.getD (b + 1) 0 = (t : Int) then popT b c t 10 (regs.set 0 (m.getD (b + 1) 0)) true 0 else popT b c t 2 (regs.set 0 (m.getD (b + 1) 0)) false a, m) := by
  unfold popT
  rw [step_load popL_sane hm (by rw [popL_len]; omega) popL_0 (by omega)]
  have g : (regs.set 0 (m.getD (b + 1) 0)).getD 0 0 = m.getD (b + 1) 0 := getD_set_same _ (by omega)
  have e := rest_if (c := popL b c t) (p := 1) popL_sane (by rw [popL_len]; omega) popL_1 (regs.set 0 (m.getD (b + 1) 0)) a
  simp only [show ((0 : Int)).toNat = 0 from rfl, Nat.zero_add] at e ⊢
  rw [e, g]
  have e10 := rest_stop (c := popL b c t) (p := 10) popL_sane (by rw [popL_len]; omega) popL_10 (regs.set 0 (m.getD (b + 1) 0)) a
  have e2 := pop_stay (b := b) (c := c) (t := t) (j := 0) (by omega) (regs.set 0 (m.getD (b + 1) 0)) a
  split
  · exact congrArg (fun z => ((⟨popL b c t, z⟩ : FT), m)) e10
  · exact congrArg (fun z => ((⟨popL b c t, z⟩ : FT), m)) e2
theorem pop_get (hm : m.length ≤ 256) (hc : 1 ≤ c) (hb : b + 3 + 6 * c = m.length) {j : Nat} (hj : j < 6) :
    stepT (popT b c t (2 + j) regs false a) m = (popT b c t (2 + (j + 1)) (regs.set (1 + j) (m.getD (slotR b c t + j) 0)) false a, m) := by
  have := slot_lt (b := b) (c := c) (t := t) hc
  unfold popT
  rw [step_load popL_sane hm (by rw [popL_len]; omega) (popL_get hj) (by omega), show 2 + j + 1 = 2 + (j + 1) by omega, Int.toNat_natCast, pop_stay (by omega)]
theorem pop_yes (hm : m.length ≤ 256) (hb : b + 3 + 6 * c = m.length) :
    stepT (popT b c t 8 regs false a) m = (popT b c t 9 regs true 1, m.set b ((t : Int) + 1)) := by
  unfold popT
  rw [step_put popL_sane hm (by rw [popL_len]; omega) popL_8 (by omega), rest_stop popL_sane (by rw [popL_len]; omega) popL_9]
  rfl
end
end Go.Proofs.Ytpkelneimjmmkaa

/- Plain laws of layer 15: the programs that write and that try. -/
import Derived.Test.YtpkelneimjmmkaaPureR
namespace Go.Proofs.Ytpkelneimjmmkaa

/-- Instructions by their places. -/
def tab (n : Nat) (f : Nat → Insn) : List Insn := (List.range n).map f
theorem tab_len (n : Nat) (f : Nat → Insn) : (tab n f).length = n := by simp [tab]
theorem tab_getD {n q : Nat} (f : Nat → Insn) (h : q < n) : (tab n f).getD q insn0 = f q := by simp [tab, List.getD_eq_getElem?_getD, h]
theorem tab_succ (n : Nat) (f : Nat → Insn) : tab (n + 1) f = tab n f ++ [f n] := by simp [tab, List.range_succ]
theorem tab_mem {n : Nat} {f : Nat → Insn} {x : Insn} (h : x ∈ tab n f) : ∃ q, q < n ∧ x = f q := by
  simp only [tab, List.mem_map, List.mem_range] at h
  obtain ⟨q, h1, h2⟩ := h
  exact ⟨q, h1, h2.symm⟩
theorem tab_ok {n : Nat} {f : Nat → Insn} (h : ∀ q, q < n → (f q).ok) : ∀ x ∈ tab n f, x.ok := fun x hx => by
  obtain ⟨q, h1, rfl⟩ := tab_mem hx
  exact h q h1
theorem tab_sane {n : Nat} {f : Nat → Insn} (h : ∀ q, q < n → saneAt n q (f q)) (h1 : 1 ≤ n) (h2 : n ≤ 200) : Sane (tab n f) := by
  refine ⟨fun i hi => ?_, by rw [tab_len]; exact h1, by rw [tab_len]; exact h2⟩
  rw [tab_len] at hi ⊢
  rw [tab_getD f hi]
  exact h i hi
theorem tab_eq {n : Nat} {f g : Nat → Insn} (h : ∀ q, q < n → f q = g q) : tab n f = tab n g := by
  unfold tab
  exact List.map_congr_left fun q hq => h q (List.mem_range.1 hq)
/-- An instruction that goes nowhere else goes to the next one. -/
def onI (i : Nat) (x : Insn) : Insn := if x.to = 0 then { x with to := (i : Int) + 1 } else x
def onL (l : List Insn) : List Insn := tab l.length fun i => onI i (l.getD i insn0)
theorem onL_tab {n : Nat} {f g : Nat → Insn} (h : ∀ q, q < n → onI q (f q) = g q) : onL (tab n f) = tab n g := by
  unfold onL
  rw [tab_len]
  exact tab_eq fun q hq => by rw [tab_getD f hq]; exact h q hq

/-- The program that writes: its instruction at a place. -/
def writeI (b ver : Int) (ws : List Int) (q : Nat) : Insn :=
  if q = 0 then ⟨1, b, 0, 1, ver + 1⟩
  else if q ≤ ws.length then ⟨1, b + (q : Int), 0, (q : Int) + 1, ws.getD (q - 1) 0⟩
  else if q = ws.length + 1 then ⟨1, b, 0, (ws.length : Int) + 2, ver + 2⟩
  else ⟨6, 0, 0, (ws.length : Int) + 3, 1⟩
def writeL (b ver : Int) (ws : List Int) : List Insn := tab (ws.length + 3) (writeI b ver ws)
def mayW (b ver : Int) (n : Nat) : Prop := 0 ≤ b ∧ b ≤ 255 ∧ 1 ≤ n ∧ n ≤ 28 ∧ 0 ≤ ver ∧ ver % 2 = 0
instance (b ver : Int) (n : Nat) : Decidable (mayW b ver n) := by unfold mayW; exact inferInstance
def writeC (b ver : Int) (ws : List Int) : List Insn := if mayW b ver ws.length then writeL b ver ws else []
theorem writeI_ok {b ver : Int} {ws : List Int} (h : mayW b ver ws.length) (hv : I64 ver) (hw : ∀ x ∈ ws, W64 x) (q : Nat) (_ : q < ws.length + 3) : (writeI b ver ws q).ok := by
  obtain ⟨h1, h2, h3, h4, h5, h6⟩ := h
  unfold I64 at hv
  unfold writeI
  split
  · exact ⟨by simp [I64], by simp only [I64]; omega, by simp [I64], by simp [I64], by simp only [W64]; omega⟩
  · split
    · refine ⟨by simp [I64], by simp only [I64]; omega, by simp [I64], by simp only [I64]; omega, ?_⟩
      exact hw _ (getD_mem (by omega))
    · split
      · exact ⟨by simp [I64], by simp only [I64]; omega, by simp [I64], by simp only [I64]; omega, by simp only [W64]; omega⟩
      · exact ⟨by simp [I64], by simp [I64], by simp [I64], by simp only [I64]; omega, by simp [W64]⟩
theorem writeC_ok {b ver : Int} {ws : List Int} (hv : I64 ver) (hw : ∀ x ∈ ws, W64 x) : ∀ x ∈ writeC b ver ws, x.ok := by
  unfold writeC
  split
  · rename_i h; exact tab_ok (writeI_ok h hv hw)
  · simp
theorem writeL_sane {b ver : Int} {ws : List Int} (h3 : 1 ≤ ws.length) (h4 : ws.length ≤ 28) : Sane (writeL b ver ws) := by
  refine tab_sane (fun q hq => ?_) (by omega) (by omega)
  unfold saneAt writeI
  split
  · simp only; omega
  · split
    · simp only; omega
    · split
      · simp only; omega
      · simp only; omega

/-- The program that tries: its instruction at a place of a look; at a place. -/
def lookI (b : Int) (n e p r : Nat) : Insn :=
  if r = 0 then ⟨0, b, 0, (p : Int) + 1, 0⟩
  else if r = 1 then ⟨4, 0, 0, (p : Int) + ((n : Int) + 4), 0⟩
  else if r ≤ n + 1 then ⟨0, b + ((r : Int) - 1), (r : Int) - 1, (p : Int) + (r : Int) + 1, 0⟩
  else if r = n + 2 then ⟨0, b, 31, (p : Int) + (r : Int) + 1, 0⟩
  else ⟨5, 0, 31, (e : Int) + 1, 0⟩
def tryI (b : Int) (n k q : Nat) : Insn :=
  if q < k * (n + 4) then lookI b n (k * (n + 4)) (q / (n + 4) * (n + 4)) (q % (n + 4))
  else if q = k * (n + 4) then ⟨6, 0, 0, ((k * (n + 4) : Nat) : Int) + 1, 0⟩
  else ⟨6, 0, 0, ((k * (n + 4) : Nat) : Int) + 2, 1⟩
def tryL (b : Int) (n k : Nat) : List Insn := tab (k * (n + 4) + 2) (tryI b n k)
def mayT (b n k : Int) : Prop := 0 ≤ b ∧ b ≤ 255 ∧ 1 ≤ n ∧ n ≤ 28 ∧ 1 ≤ k ∧ k ≤ 6
instance (b n k : Int) : Decidable (mayT b n k) := by unfold mayT; exact inferInstance
def tryC (b n k : Int) : List Insn := if mayT b n k then tryL b n.toNat k.toNat else []
theorem look_lt {n k i r : Nat} (hi : i < k) (hr : r < n + 4) : i * (n + 4) + r < k * (n + 4) := by
  have : (i + 1) * (n + 4) ≤ k * (n + 4) := Nat.mul_le_mul_right _ hi
  rw [Nat.succ_mul] at this
  omega
theorem tryI_look (b : Int) {n k i r : Nat} (hi : i < k) (hr : r < n + 4) : tryI b n k (i * (n + 4) + r) = lookI b n (k * (n + 4)) (i * (n + 4)) r := by
  unfold tryI
  rw [if_pos (look_lt hi hr)]
  have h1 : (i * (n + 4) + r) / (n + 4) = i := by rw [Nat.add_comm, Nat.add_mul_div_right _ _ (by omega), Nat.div_eq_of_lt hr]; omega
  have h2 : (i * (n + 4) + r) % (n + 4) = r := by rw [Nat.add_comm, Nat.add_mul_mod_self_right]; exact Nat.mod_eq_of_lt hr
  rw [h1, h2]
theorem try_split {n k q : Nat} (h : q < k * (n + 4)) : ∃ i r, i < k ∧ r < n + 4 ∧ q = i * (n + 4) + r := by
  refine ⟨q / (n + 4), q % (n + 4), Nat.div_lt_of_lt_mul (by rw [Nat.mul_comm]; exact h), Nat.mod_lt _ (by omega), ?_⟩
  have := Nat.div_add_mod q (n + 4)
  rw [Nat.mul_comm] at this
  exact this.symm
theorem try_size {n k : Nat} (hn : n ≤ 28) (hk : k ≤ 6) : k * (n + 4) ≤ 192 := by
  have := Nat.mul_le_mul hk (show n + 4 ≤ 32 by omega)
  omega
theorem tryL_sane {b : Int} {n k : Nat} (hn : n ≤ 28) (hk : k ≤ 6) : Sane (tryL b n k) := by
  have hE := try_size hn hk
  refine tab_sane (fun q hq => ?_) (by omega) (by omega)
  by_cases h : q < k * (n + 4)
  · obtain ⟨i, r, hi, hr, rfl⟩ := try_split h
    rw [tryI_look b hi hr]
    have h1 := look_lt hi hr
    have h2 := look_lt hi (show n + 3 < n + 4 by omega)
    generalize k * (n + 4) = e at *
    generalize i * (n + 4) = p at *
    unfold saneAt lookI
    split
    · simp only; omega
    · split
      · simp only; omega
      · split
        · simp only; omega
        · split
          · simp only; omega
          · simp only; omega
  · generalize he : k * (n + 4) = e at *
    unfold saneAt tryI
    rw [he, if_neg h]
    split
    · simp only; omega
    · simp only; omega
theorem tryL_ok {b : Int} {n k : Nat} (hb : 0 ≤ b) (hb' : b ≤ 255) (hn : n ≤ 28) (hk : k ≤ 6) : ∀ x ∈ tryL b n k, x.ok := by
  have hE := try_size hn hk
  refine tab_ok fun q hq => ?_
  by_cases h : q < k * (n + 4)
  · obtain ⟨i, r, hi, hr, rfl⟩ := try_split h
    rw [tryI_look b hi hr]
    have h1 := look_lt hi hr
    generalize k * (n + 4) = e at *
    generalize i * (n + 4) = p at *
    unfold lookI
    repeat' split
    all_goals exact ⟨by simp [I64], by simp only [I64]; omega, by simp only [I64]; omega, by simp only [I64]; omega, by simp [W64]⟩
  · generalize he : k * (n + 4) = e at *
    unfold tryI
    rw [he, if_neg h]
    split
    all_goals exact ⟨by simp [I64], by simp [I64], by simp [I64], by simp only [I64]; omega, by simp [W64]⟩
theorem tryC_ok {b n k : Int} : ∀ x ∈ tryC b n k, x.ok := by
  unfold tryC
  split
  · rename_i h
    obtain ⟨h1, h2, h3, h4, h5, h6⟩ := h
    exact tryL_ok h1 h2 (by omega) (by omega)
  · simp
/-- A try changes nothing. -/
theorem tryL_loads {b : Int} {n k : Nat} : ∀ x ∈ tryL b n k, x.k ≤ 2 → x.k = 0 := by
  intro x hx
  obtain ⟨q, hq, rfl⟩ := tab_mem hx
  unfold tryI lookI
  repeat' split
  all_goals simp
theorem writeL_board {b ver : Int} {ws : List Int} : ∀ x ∈ writeL b ver ws, x.k ≤ 2 → b ≤ x.i ∧ x.i ≤ b + (ws.length : Int) := by
  intro x hx
  obtain ⟨q, hq, rfl⟩ := tab_mem hx
  unfold writeI
  split
  · simp only; omega
  · split
    · simp only; omega
    · split
      · simp only; omega
      · simp
theorem try_still {b n k : Int} {m : List Int} (hm : m.length ≤ 256) (most : Int) : (stepsT (startT (tryC b n k)) m most).2.1 = m := by
  have hk : Keeps (fun x => x = m) (tryC b n k) := by
    unfold tryC
    split
    · intro x hx hk m' hm'
      have := tryL_loads x hx hk
      have e : kind x.k = 0 := by unfold kind; rw [if_pos this]
      rw [e, access_load]; exact hm'
    · intro x hx; simp at hx
  exact steps_keeps hk hm rfl most
theorem write_apart {b ver : Int} {ws : List Int} {m : List Int} (hm : m.length ≤ 256) (most : Int) :
    SameBut m (fun i => b ≤ i ∧ i ≤ b + (ws.length : Int)) (stepsT (startT (writeC b ver ws)) m most).2.1 := by
  have hk : Keeps (SameBut m (fun i => b ≤ i ∧ i ≤ b + (ws.length : Int))) (writeC b ver ws) := by
    unfold writeC
    split
    · exact keeps_sameBut fun x hx hk => .inr (writeL_board x hx hk)
    · intro x hx; simp at hx
  exact steps_keeps hk hm (sameBut_refl _ _) most
end Go.Proofs.Ytpkelneimjmmkaa

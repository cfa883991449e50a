/- The contracts of task.jumps and of the reference's jump. -/
import Derived.Test.YtpkelneimjmmkaaTaskB
namespace Go.Proofs.Ytpkelneimjmmkaa
open Go.RowKit

/-- 'i & 31' of an int. -/
theorem and_31 (i : Int) : bits .and .i64 i 31 = (low5 i : Int) := by
  have hb : (BitVec.ofInt 64 31).toNat = 31 := rfl
  have h1 : (BitVec.ofInt 64 i &&& BitVec.ofInt 64 31).toNat = low5 i := by
    rw [BitVec.toNat_and, hb, show (31 : Nat) = 2 ^ 5 - 1 from rfl, Nat.and_two_pow_sub_one_eq_mod, BitVec.toNat_ofInt]
    unfold low5
    omega
  show IntKind.i64.wrap (((BitVec.ofInt 64 i &&& BitVec.ofInt 64 31).toNat : Nat) : Int) = _
  rw [h1, IntKind.wrap_i64]
  have := low5_lt i
  omega

set_option maxHeartbeats 4000000 in
/-- task.jumps, where the task lies at g. -/
theorem jumps_call {g : Nat} {cv : Value} {t : Tsk} {x : Insn} {w : World} (hB : Box w g 42 (tcells cv t)) (ht : t.ok) (hx : x.ok) (hr0 : 0 ≤ x.r) (hr1 : x.r ≤ 31) (hk : 3 ≤ x.k) (hk5 : x.k ≤ 5) :
    Calls Try.prog 96 #[.pointer (some ⟨g, 0, none⟩), x.val] w (BoolPost (jumpB t.regs x) w) := by
  obtain ⟨xk, xi, xr, xto, xa⟩ := x
  obtain ⟨r, hr⟩ := Int.eq_ofNat_of_zero_le hr0
  simp only at hr hr0 hr1 hk hk5
  subst hr
  have hrl : r < 32 := by omega
  obtain ⟨h32, hw, _, _⟩ := ht
  obtain ⟨_, _, _, _, ha⟩ := hx
  have hlow := low5_lt xi
  have c0 := (hB.cell (2 + r)).trans (tcells_reg h32 hrl)
  have c1 := (hB.cell (2 + low5 xi)).trans (tcells_reg h32 hlow)
  have hw0 : W64 (t.regs.getD r 0) := hw _ (getD_mem (by omega))
  have hlt := hB.lt
  have hlt1 : g < w.heap.size + 1 := by omega
  have hand := and_31 xi
  have hli : ((low5 xi : Nat) : Int) < 32 := by omega
  have hri : (r : Int) < 32 := by omega
  have F : Hid (∀ n o, Below w.heap.size w ((w.alloc o).drewN n)) := Lib.hid fun n o => below_drewN ((Below.refl _ w).alloc (Nat.le_refl _) _) n
  have hj : jumpB t.regs ⟨xk, xi, r, xto, xa⟩ = (if xk = 3 then decide (t.regs.getD r 0 = xa) else if xk = 4 then decide (t.regs.getD r 0 % 2 = 1) else decide (t.regs.getD r 0 = t.regs.getD (low5 xi) 0)) := by
    unfold jumpB; simp only [Int.toNat_natCast]
  generalize jumpB t.regs ⟨xk, xi, r, xto, xa⟩ = jb at *
  generalize t.regs.getD r 0 = p at *
  generalize t.regs.getD (low5 xi) 0 = q at *
  generalize low5 xi = lw at *
  obtain ⟨hp0, hp1⟩ := hw0
  have HJ := Lib.hid hj
  clear hj hB hw h32 ha
  unfold Insn.val
  have hcase : xk = 3 ∨ xk = 4 ∨ xk = 5 := by omega
  rcases hcase with rfl | rfl | rfl
  · by_cases he : p = xa
    · have hq : (p == xa) = true := by simp [he]
      have hjb : jb = true := by rw [HJ.out]; simp [he]
      subst hjb
      clear he
      go_enter Try.func96, Try.ntmps96
      go_wp2_with fail
      go_quiet (fail)
      go_wp2_with fail
      go_quiet (fail)
      go_wp2
      go_ret
      exact ⟨rfl, below_drewN (F.out _ _) _⟩
    · have hq : (p == xa) = false := by simpa using he
      have hjb : jb = false := by rw [HJ.out]; simp [he]
      subst hjb
      clear he
      go_enter Try.func96, Try.ntmps96
      go_wp2_with fail
      go_quiet (fail)
      go_wp2_with fail
      go_quiet (fail)
      go_wp2
      go_ret
      exact ⟨rfl, below_drewN (F.out _ _) _⟩
  · by_cases he : p % 2 = 1
    · have hq : (p % 2 == 1) = true := by simp [he]
      have hjb : jb = true := by rw [HJ.out]; simp [he]
      subst hjb
      clear he
      go_enter Try.func96, Try.ntmps96
      go_wp2_with fail
      go_quiet (fail)
      go_wp2_with fail
      go_quiet (fail)
      go_wp2
      go_ret
      exact ⟨rfl, below_drewN (F.out _ _) _⟩
    · have hq : (p % 2 == 1) = false := by simpa using he
      have hjb : jb = false := by rw [HJ.out]; simp [he]
      subst hjb
      clear he
      go_enter Try.func96, Try.ntmps96
      go_wp2_with fail
      go_quiet (fail)
      go_wp2_with fail
      go_quiet (fail)
      go_wp2
      go_ret
      exact ⟨rfl, below_drewN (F.out _ _) _⟩
  · by_cases he : p = q
    · have hq : (p == q) = true := by simp [he]
      have hjb : jb = true := by rw [HJ.out]; simp [he]
      subst hjb
      clear he
      go_enter Try.func96, Try.ntmps96
      go_wp2_with fail
      go_quiet (fail)
      go_wp2_with fail
      go_quiet (fail)
      go_wp2
      go_ret
      exact ⟨rfl, below_drewN (F.out _ _) _⟩
    · have hq : (p == q) = false := by simpa using he
      have hjb : jb = false := by rw [HJ.out]; simp [he]
      subst hjb
      clear he
      go_enter Try.func96, Try.ntmps96
      go_wp2_with fail
      go_quiet (fail)
      go_wp2_with fail
      go_quiet (fail)
      go_wp2
      go_ret
      exact ⟨rfl, below_drewN (F.out _ _) _⟩

/-- 'x & 1' of a word. -/
theorem and_1 {p : Int} (h0 : 0 ≤ p) (h1 : p < 18446744073709551616) : bits .and .u64 p 1 = p % 2 := by
  obtain ⟨n, rfl⟩ := Int.eq_ofNat_of_zero_le h0
  have hb : (BitVec.ofInt 64 1).toNat = 1 := rfl
  have h2 : (BitVec.ofInt 64 (n : Int) &&& BitVec.ofInt 64 1).toNat = n % 2 := by
    rw [BitVec.toNat_and, hb, show (1 : Nat) = 2 ^ 1 - 1 from rfl, Nat.and_two_pow_sub_one_eq_mod, BitVec.ofInt_natCast, BitVec.toNat_ofNat]
    omega
  show IntKind.u64.wrap (((BitVec.ofInt 64 (n : Int) &&& BitVec.ofInt 64 1).toNat : Nat) : Int) = _
  rw [h2, IntKind.wrap_u64]
  omega

set_option maxHeartbeats 4000000 in
/-- The reference's jump. -/
theorem refJump_call {cv : Value} {t : Tsk} {x : Insn} {w : World} (ht : t.ok) (hr0 : 0 ≤ x.r) (hr1 : x.r ≤ 31) (hk : 3 ≤ x.k) (hk5 : x.k ≤ 5) :
    Calls Try.prog 97 #[.agg (tcells cv t), x.val] w (BoolPost (jumpB t.regs x) w) := by
  obtain ⟨xk, xi, xr, xto, xa⟩ := x
  obtain ⟨r, hr⟩ := Int.eq_ofNat_of_zero_le hr0
  simp only at hr hr0 hr1 hk hk5
  subst hr
  have hrl : r < 32 := by omega
  obtain ⟨h32, hw, _, _⟩ := ht
  have hlow := low5_lt xi
  have c0 := tcells_reg (cv := cv) h32 hrl
  have c1 := tcells_reg (cv := cv) h32 hlow
  have hw0 : W64 (t.regs.getD r 0) := hw _ (getD_mem (by omega))
  have hand := and_31 xi
  have hli : ((low5 xi : Nat) : Int) < 32 := by omega
  have hri : (r : Int) < 32 := by omega
  have F : Hid (∀ o o', Below w.heap.size w ((w.alloc o).alloc o')) := Lib.hid fun o o' => ((Below.refl _ w).alloc (Nat.le_refl _) _).alloc (by simp) _
  have hj : jumpB t.regs ⟨xk, xi, r, xto, xa⟩ = (if xk = 3 then decide (t.regs.getD r 0 = xa) else if xk = 4 then decide (t.regs.getD r 0 % 2 = 1) else decide (t.regs.getD r 0 = t.regs.getD (low5 xi) 0)) := by
    unfold jumpB; simp only [Int.toNat_natCast]
  generalize jumpB t.regs ⟨xk, xi, r, xto, xa⟩ = jb at *
  generalize t.regs.getD r 0 = p at *
  generalize t.regs.getD (low5 xi) 0 = q at *
  generalize low5 xi = lw at *
  generalize tcells cv t = C at *
  obtain ⟨hp0, hp1⟩ := hw0
  have hand1 := and_1 hp0 hp1
  have HJ := Lib.hid hj
  clear hj hw h32
  unfold Insn.val
  have hcase : xk = 3 ∨ xk = 4 ∨ xk = 5 := by omega
  rcases hcase with rfl | rfl | rfl
  · by_cases he : p = xa
    · have hq : (p == xa) = true := by simp [he]
      have hjb : jb = true := by rw [HJ.out]; simp [he]
      subst hjb
      clear he
      go_enter Try.func97, Try.ntmps97
      go_wp2
      go_ret
      exact ⟨rfl, F.out _ _⟩
    · have hq : (p == xa) = false := by simpa using he
      have hjb : jb = false := by rw [HJ.out]; simp [he]
      subst hjb
      clear he
      go_enter Try.func97, Try.ntmps97
      go_wp2
      go_ret
      exact ⟨rfl, F.out _ _⟩
  · by_cases he : p % 2 = 1
    · have hq : (p % 2 == 1) = true := by simp [he]
      have hjb : jb = true := by rw [HJ.out]; simp [he]
      subst hjb
      clear he
      go_enter Try.func97, Try.ntmps97
      go_wp2
      go_ret
      exact ⟨rfl, F.out _ _⟩
    · have hq : (p % 2 == 1) = false := by simpa using he
      have hjb : jb = false := by rw [HJ.out]; simp [he]
      subst hjb
      clear he
      go_enter Try.func97, Try.ntmps97
      go_wp2
      go_ret
      exact ⟨rfl, F.out _ _⟩
  · by_cases he : p = q
    · have hq : (p == q) = true := by simp [he]
      have hjb : jb = true := by rw [HJ.out]; simp [he]
      subst hjb
      clear he
      go_enter Try.func97, Try.ntmps97
      go_wp2
      go_ret
      exact ⟨rfl, F.out _ _⟩
    · have hq : (p == q) = false := by simpa using he
      have hjb : jb = false := by rw [HJ.out]; simp [he]
      subst hjb
      clear he
      go_enter Try.func97, Try.ntmps97
      go_wp2
      go_ret
      exact ⟨rfl, F.out _ _⟩
end Go.Proofs.Ytpkelneimjmmkaa

/- The contracts of ring.six with both closures, of ring.Push and ring.Pop. -/
import Derived.Test.YtpkelneimjmmkaaRingB
namespace Go.Proofs.Ytpkelneimjmmkaa
open Go.RowKit

def atR (b c t : Int) : Int := b + 3 + 6 * (t % c)
def pushI (b c t : Int) (ws : List Int) (q : Nat) : Insn :=
  if q = 0 then ⟨0, b, 0, 1, 0⟩ else if q = 1 then ⟨3, 0, 0, 10, (t - c) % 18446744073709551616⟩ else if q ≤ 7 then ⟨1, atR b c t + ((q : Int) - 2), 0, (q : Int) + 1, ws.getD (q - 2) 0⟩
  else if q = 8 then ⟨1, b + 1, 0, 9, t + 1⟩ else if q = 9 then ⟨6, 0, 0, 10, 1⟩ else if q = 10 then ⟨2, b + 2, 0, 11, 1⟩ else ⟨6, 0, 0, 12, 0⟩
def popI (b c h : Int) (q : Nat) : Insn :=
  if q = 0 then ⟨0, b + 1, 0, 1, 0⟩ else if q = 1 then ⟨3, 0, 0, 10, h⟩ else if q ≤ 7 then ⟨0, atR b c h + ((q : Int) - 2), (q : Int) - 1, (q : Int) + 1, 0⟩
  else if q = 8 then ⟨1, b, 0, 9, h + 1⟩ else if q = 9 then ⟨6, 0, 0, 10, 1⟩ else ⟨6, 0, 0, 11, 0⟩
def mayP (b c t : Int) : Prop := mayR b c ∧ 0 ≤ t
instance (b c t : Int) : Decidable (mayP b c t) := by unfold mayP; exact inferInstance
def pushC (b c t : Int) (ws : List Int) : List Insn := if mayP b c t ∧ ws.length = 6 then tab 12 (pushI b c t ws) else []
def popC (b c h : Int) : List Insn := if mayP b c h then tab 11 (popI b c h) else []
theorem atR_in {b c t : Int} (h : mayP b c t) : 0 ≤ t % c ∧ t % c < c ∧ 0 ≤ atR b c t ∧ atR b c t ≤ 300 := by
  obtain ⟨⟨h1, h2, h3, h4⟩, h5⟩ := h
  have := Int.emod_nonneg t (show c ≠ 0 by omega)
  have := Int.emod_lt_of_pos t (show 0 < c by omega)
  unfold atR
  omega
theorem pushI_ok {b c t : Int} {ws : List Int} (h : mayP b c t) (ht : I64 t) (hl : ws.length = 6) (hw : ∀ x ∈ ws, W64 x) (q : Nat) (hq : q < 12) : (pushI b c t ws q).ok := by
  obtain ⟨_, _, a1, a2⟩ := atR_in h
  obtain ⟨⟨h1, h2, h3, h4⟩, h5⟩ := h
  unfold I64 at ht
  unfold pushI
  generalize atR b c t = a at *
  split
  · exact ⟨by simp [I64], by simp only [I64]; omega, by simp [I64], by simp [I64], by simp [W64]⟩
  split
  · exact ⟨by simp [I64], by simp [I64], by simp [I64], by simp [I64], by simp only [W64]; omega⟩
  split
  · exact ⟨by simp [I64], by simp only [I64]; omega, by simp [I64], by simp only [I64]; omega, hw _ (getD_mem (by omega))⟩
  split
  · exact ⟨by simp [I64], by simp only [I64]; omega, by simp [I64], by simp [I64], by simp only [W64]; omega⟩
  split
  · exact ⟨by simp [I64], by simp [I64], by simp [I64], by simp [I64], by simp [W64]⟩
  split
  · exact ⟨by simp [I64], by simp only [I64]; omega, by simp [I64], by simp [I64], by simp [W64]⟩
  · exact ⟨by simp [I64], by simp [I64], by simp [I64], by simp [I64], by simp [W64]⟩
theorem popI_ok {b c t : Int} (h : mayP b c t) (ht : I64 t) (q : Nat) (hq : q < 11) : (popI b c t q).ok := by
  obtain ⟨_, _, a1, a2⟩ := atR_in h
  obtain ⟨⟨h1, h2, h3, h4⟩, h5⟩ := h
  unfold I64 at ht
  unfold popI
  generalize atR b c t = a at *
  split
  · exact ⟨by simp [I64], by simp only [I64]; omega, by simp [I64], by simp [I64], by simp [W64]⟩
  split
  · exact ⟨by simp [I64], by simp [I64], by simp [I64], by simp [I64], by simp only [W64]; omega⟩
  split
  · exact ⟨by simp [I64], by simp only [I64]; omega, by simp only [I64]; omega, by simp only [I64]; omega, by simp [W64]⟩
  split
  · exact ⟨by simp [I64], by simp only [I64]; omega, by simp [I64], by simp [I64], by simp only [W64]; omega⟩
  split
  · exact ⟨by simp [I64], by simp [I64], by simp [I64], by simp [I64], by simp [W64]⟩
  · exact ⟨by simp [I64], by simp [I64], by simp [I64], by simp [I64], by simp [W64]⟩
theorem OwnI.kept {w w' : World} {B : Nat} {v : Value} {l : List Insn} (h : OwnI w B v l) (hb : Below w.heap.size w w') : OwnI w' B v l := by
  obtain ⟨⟨h1, h2⟩, h3⟩ := h
  refine ⟨⟨h1, ?_⟩, h3⟩
  rcases h2 with h2 | ⟨g', cap, cur, e, hg', hh, r⟩
  · exact .inl h2
  · exact .inr ⟨g', cap, cur, e, hg', (hb.block g' (Array.getElem?_eq_some_iff.1 hh).1).trans hh, r⟩
theorem InsRel.kept {w wr w' : World} {v : Value} {l : List Insn} (h : InsRel w l v wr) (hb : Below wr.heap.size wr w') : InsRel w l v w' := ⟨h.1.kept hb, below_call h.2 hb h.2.size⟩
theorem atLoad_at {P : Program} {ops : Array Oper} {Q : Exit → Act → World → Prop} {rest : List Oper} {o : Oper} {ty : TypeId} {x : Operand} {a : Act} {W : World} (h : ∀ W0, W0 = W → AtLoad P ops Q rest o ty x a W0) : AtLoad P ops Q rest o ty x a W := h W rfl
theorem size_ins : (Try.prog.info? 55).map (·.size) = some (#[Value.int .i64 0, .int .i64 0, .int .i64 0, .int .i64 0, .int .u64 0] : Array Value).size := by kernel_rfl
theorem pop1_call (i : Nat) (hi : i < 6) (w : World) : Calls Try.prog 89 #[.int .i64 (i : Int)] w (fun e w' => e = .returned (.agg #[.int .i64 0, .int .i64 0, .int .i64 (1 + (i : Int)), .int .i64 0, .int .u64 0]) ∧ Below w.heap.size w w') := by
  have hw : IntKind.i64.wrap (1 + (i : Int)) = 1 + (i : Int) := by rw [IntKind.wrap_i64]; omega
  have hw2 : wrap64 (1 + (i : Int)) = 1 + (i : Int) := by unfold wrap64; omega
  have F : Hid (∀ o, Below w.heap.size w (w.alloc o)) := Lib.hid fun o => (Below.refl _ w).alloc (Nat.le_refl _) o
  have F2 : Hid (∀ W, Below w.heap.size w W → ∀ j u, Below w.heap.size w (W.setCell ⟨w.heap.size, j, none⟩ u)) := Lib.hid fun W h j u => h.setCell (p := ⟨w.heap.size, j, none⟩) (Nat.le_refl _) u
  go_enter Try.func89, Try.ntmps89
  go_wp2
  exact bodyPost_ret (results_cell_row Try.results89 _ _ w.heap.size 55 _ (0, 0) _ rfl (Box.new w _ _) Try.underlying55 rfl size_ins) rfl ⟨rfl, F.out _⟩
theorem push1_call (i : Nat) (hi : i < 6) {g : Nat} {v : Value} {ws : List Int} {w : World} (hv : Words w v ws) (hl : ws.length = 6) (hg : w.cell? ⟨g, 0, none⟩ = some v) :
    Calls Try.prog 88 #[.int .i64 (i : Int), .pointer (some ⟨g, 0, none⟩)] w (fun e w' => e = .returned (.agg #[.int .i64 1, .int .i64 0, .int .i64 0, .int .i64 0, .int .u64 (ws.getD i 0)]) ∧ Below w.heap.size w w') := by
  obtain ⟨A, c, rfl, hc1, hc2, _⟩ := hv.1.form
  obtain ⟨b, o, rfl, hb, p0⟩ := hv.at_ rfl (show i < ws.length by omega)
  unfold maxLen at hc2
  rw [hl] at hg
  have hgl := World.block_lt_of_cell? w _ hg
  have hi6 : (i : Int) < 6 := by omega
  have hi60 : (i : Int) < ((6 : Nat) : Int) := by omega
  have F : Hid (∀ o, Below w.heap.size w (w.alloc o)) := Lib.hid fun o => (Below.refl _ w).alloc (Nat.le_refl _) o
  generalize ws.getD i 0 = x at *
  simp only at hgl
  clear hv
  go_enter Try.func88, Try.ntmps88
  go_wp2
  exact bodyPost_ret (results_cell_row Try.results88 _ _ w.heap.size 55 _ (0, 0) _ rfl (Box.new w _ _) Try.underlying55 rfl size_ins) rfl ⟨rfl, F.out _⟩

set_option maxHeartbeats 4000000 in
set_option maxRecDepth 20000 in
theorem sixPop_call {b c t : Int} (hm : mayP b c t) {w : World}  : Calls Try.prog 87 #[.int .i64 b, .int .i64 c, .int .i64 t, .func (.func 89) #[] #[]] w (fun e w' => ∃ v, e = .returned v ∧ OwnI w' w.heap.size v (tab 6 (fun q : Nat => (⟨0, atR b c t + (q : Int), 1 + (q : Int), 0, 0⟩ : Insn))) ∧ Below w.heap.size w w') := by
  obtain ⟨a1, a2, a3, a4⟩ := atR_in hm
  obtain ⟨⟨h1, h2, h3, h4⟩, h5⟩ := hm
  have htm : t.tmod c = t % c := Int.tmod_eq_emod_of_nonneg h5
  have hw1 : IntKind.i64.wrap (t % c) = t % c := by rw [IntKind.wrap_i64]; omega
  have hw2 : IntKind.i64.wrap (6 * (t % c)) = 6 * (t % c) := by rw [IntKind.wrap_i64]; omega
  have hw3 : IntKind.i64.wrap (b + 3) = b + 3 := by rw [IntKind.wrap_i64]; omega
  have hw4 : IntKind.i64.wrap (b + 3 + 6 * (t % c)) = atR b c t := by unfold atR; rw [IntKind.wrap_i64]; omega
  have hc0 : ¬ c = 0 := by omega
  have hw5 : ∀ k : Nat, k < 6 → IntKind.i64.wrap (atR b c t + (k : Int)) = atR b c t + (k : Int) := fun k hk => by rw [IntKind.wrap_i64]; omega
  have HW5 := Lib.hid hw5
  have HOK : Hid (∀ q, q < 6 → ((fun q : Nat => (⟨0, atR b c t + (q : Int), 1 + (q : Int), 0, 0⟩ : Insn)) q).ok) := Lib.hid (by intro q hq; exact ⟨by simp [I64], by simp only [I64]; omega, by simp only [I64]; omega, by simp [I64], by simp [W64]⟩)
  have HR0 : Hid (InsRel w (tab 0 (fun q : Nat => (⟨0, atR b c t + (q : Int), 1 + (q : Int), 0, 0⟩ : Insn))) (.slice none 0 0) w) := Lib.hid ⟨by simpa [tab] using OwnI.nil w _, Below.refl _ _⟩
  clear hw5
  go_enter Try.func87, Try.ntmps87
  go_wp2_with fail
  go_loopw [9, 12] (fun v9 q wr => ∃ k : Nat, k ≤ 6 ∧ q = .int .i64 (k : Int) ∧ Hid (InsRel w (tab k (fun q : Nat => (⟨0, atR b c t + (q : Int), 1 + (q : Int), 0, 0⟩ : Insn))) v9 wr)) (fun _ q _ => 6 - (intOf q).toNat)
  case atStart => exact ⟨0, Nat.zero_le _, rfl, HR0⟩
  case round =>
    clear HR0
    obtain ⟨k, hk, rfl, HR⟩ := hrel
    obtain ⟨A9, c9, hv9⟩ := HR.out.1.form
    rw [tab_len] at hv9
    subst hv9
    by_cases hlt : k < 6
    · have hki : (k : Int) < 6 := by omega
      have hwk := HW5.out k hlt
      have hok := HOK.out k hlt
      have hsucc := tab_succ k (fun q : Nat => (⟨0, atR b c t + (q : Int), 1 + (q : Int), 0, 0⟩ : Insn))
      have HS := Lib.hid hsucc
      have HOKK := Lib.hid hok
      clear hsucc hok
      go_wp2_with fail
      refine (pop1_call k hlt wr).mono ?_
      rintro e wc ⟨rfl, hbc⟩
      have HALL : Hid (∀ W, Below wc.heap.size wc W → InsRel w (tab k (fun q : Nat => (⟨0, atR b c t + (q : Int), 1 + (q : Int), 0, 0⟩ : Insn))) (.slice A9 k c9) W) := Lib.hid fun W hW => (HR.out.kept hbc).kept hW
      have HOC : Hid (∀ x ∈ ([⟨0, atR b c t + (k : Int), 1 + (k : Int), 0, 0⟩] : List Insn), x.ok) := Lib.hid (one_ok HOKK.out)
      clear hbc HR HOKK
      skip
      go_wp2_with (first | with_reducible refine load_stop rfl 55 _ rfl ?_)
      refine atLoad_at fun W5 hW5 => ?_
      have HB5 : Hid (Box W5 wc.heap.size 55 #[.int .i64 0, .int .i64 (atR b c t + (k : Int)), .int .i64 (1 + (k : Int)), .int .i64 0, .int .u64 0]) := Lib.hid (by rw [hW5]; exact Box.new _ _ _)
      have HI5 : Hid (InsRel w (tab k (fun q : Nat => (⟨0, atR b c t + (q : Int), 1 + (q : Int), 0, 0⟩ : Insn))) (.slice A9 k c9) W5) := Lib.hid (HALL.out W5 (by rw [hW5]; exact (Below.refl _ wc).alloc (Nat.le_refl _) _))
      clear hW5 HALL
      refine AtLoad.go wc.heap.size rfl HB5.out Try.underlying55 rfl size_ins ?_
      go_wp2_with (at_builtin; refine ins_append HI5.out [⟨0, atR b c t + (k : Int), 1 + (k : Int), 0, 0⟩] HOC.out (k + 1) (by rw [tab_len]; rfl) (by omega) rfl _ _ rfl rfl rfl ?_)
      intro A8 c8 w3 R30
      have R3 : Hid (InsRel w (tab (k + 1) (fun q : Nat => (⟨0, atR b c t + (q : Int), 1 + (q : Int), 0, 0⟩ : Insn))) (.slice A8 (k + 1) c8) w3) := Lib.hid (by rw [HS.out]; exact R30)
      clear R30
      go_wp2
      go_roundw
      case rel => exact ⟨k + 1, by omega, by go_num, R3⟩
      case measure => simp [intOf]; omega
    · have hki : ¬ (k : Int) < 6 := by omega
      have hke : k = 6 := by omega
      subst hke
      go_wp2
      go_ret
      exact ⟨_, rfl, HR.out.1, HR.out.2⟩

set_option maxHeartbeats 4000000 in
set_option maxRecDepth 20000 in
theorem sixPush_call {b c t : Int} {g : Nat} {v : Value} {ws : List Int} (hl : ws.length = 6) (hm : mayP b c t) {w : World} (hv : Words w v ws) (hg : w.cell? ⟨g, 0, none⟩ = some v) : Calls Try.prog 87 #[.int .i64 b, .int .i64 c, .int .i64 t, .func (.func 88) #[] #[.pointer (some ⟨g, 0, none⟩)]] w (fun e w' => ∃ v, e = .returned v ∧ OwnI w' w.heap.size v (tab 6 (fun q : Nat => (⟨1, atR b c t + (q : Int), 0, 0, ws.getD q 0⟩ : Insn))) ∧ Below w.heap.size w w') := by
  have HV := Lib.hid hv
  have HLL := Lib.hid hl
  have HG := Lib.hid hg
  have HGL := Lib.hid (World.block_lt_of_cell? w _ hg)
  clear hv hl hg
  obtain ⟨a1, a2, a3, a4⟩ := atR_in hm
  obtain ⟨⟨h1, h2, h3, h4⟩, h5⟩ := hm
  have htm : t.tmod c = t % c := Int.tmod_eq_emod_of_nonneg h5
  have hw1 : IntKind.i64.wrap (t % c) = t % c := by rw [IntKind.wrap_i64]; omega
  have hw2 : IntKind.i64.wrap (6 * (t % c)) = 6 * (t % c) := by rw [IntKind.wrap_i64]; omega
  have hw3 : IntKind.i64.wrap (b + 3) = b + 3 := by rw [IntKind.wrap_i64]; omega
  have hw4 : IntKind.i64.wrap (b + 3 + 6 * (t % c)) = atR b c t := by unfold atR; rw [IntKind.wrap_i64]; omega
  have hc0 : ¬ c = 0 := by omega
  have hw5 : ∀ k : Nat, k < 6 → IntKind.i64.wrap (atR b c t + (k : Int)) = atR b c t + (k : Int) := fun k hk => by rw [IntKind.wrap_i64]; omega
  have HW5 := Lib.hid hw5
  have HOK : Hid (∀ q, q < 6 → ((fun q : Nat => (⟨1, atR b c t + (q : Int), 0, 0, ws.getD q 0⟩ : Insn)) q).ok) := Lib.hid (by intro q hq; exact ⟨by simp [I64], by simp only [I64]; omega, by simp [I64], by simp [I64], HV.out.2 _ (getD_mem (by rw [HLL.out]; exact hq))⟩)
  have HR0 : Hid (InsRel w (tab 0 (fun q : Nat => (⟨1, atR b c t + (q : Int), 0, 0, ws.getD q 0⟩ : Insn))) (.slice none 0 0) w) := Lib.hid ⟨by simpa [tab] using OwnI.nil w _, Below.refl _ _⟩
  clear hw5
  go_enter Try.func87, Try.ntmps87
  go_wp2_with fail
  go_loopw [9, 12] (fun v9 q wr => ∃ k : Nat, k ≤ 6 ∧ q = .int .i64 (k : Int) ∧ Hid (InsRel w (tab k (fun q : Nat => (⟨1, atR b c t + (q : Int), 0, 0, ws.getD q 0⟩ : Insn))) v9 wr)) (fun _ q _ => 6 - (intOf q).toNat)
  case atStart => exact ⟨0, Nat.zero_le _, rfl, HR0⟩
  case round =>
    clear HR0
    obtain ⟨k, hk, rfl, HR⟩ := hrel
    obtain ⟨A9, c9, hv9⟩ := HR.out.1.form
    rw [tab_len] at hv9
    subst hv9
    by_cases hlt : k < 6
    · have hki : (k : Int) < 6 := by omega
      have hwk := HW5.out k hlt
      have hok := HOK.out k hlt
      have hsucc := tab_succ k (fun q : Nat => (⟨1, atR b c t + (q : Int), 0, 0, ws.getD q 0⟩ : Insn))
      have HS := Lib.hid hsucc
      have HOKK := Lib.hid hok
      clear hsucc hok
      go_wp2_with fail
      refine (push1_call k hlt (HV.out.below HR.out.2) HLL.out ((HR.out.2.cell (p := ⟨g, 0, none⟩) HGL.out).trans HG.out)).mono ?_
      rintro e wc ⟨rfl, hbc⟩
      have HALL : Hid (∀ W, Below wc.heap.size wc W → InsRel w (tab k (fun q : Nat => (⟨1, atR b c t + (q : Int), 0, 0, ws.getD q 0⟩ : Insn))) (.slice A9 k c9) W) := Lib.hid fun W hW => (HR.out.kept hbc).kept hW
      have HOC : Hid (∀ x ∈ ([⟨1, atR b c t + (k : Int), 0, 0, ws.getD k 0⟩] : List Insn), x.ok) := Lib.hid (one_ok HOKK.out)
      clear hbc HR HOKK
      generalize ws.getD k 0 = x at *
      go_wp2_with (first | with_reducible refine load_stop rfl 55 _ rfl ?_)
      refine atLoad_at fun W5 hW5 => ?_
      have HB5 : Hid (Box W5 wc.heap.size 55 #[.int .i64 1, .int .i64 (atR b c t + (k : Int)), .int .i64 0, .int .i64 0, .int .u64 x]) := Lib.hid (by rw [hW5]; exact Box.new _ _ _)
      have HI5 : Hid (InsRel w (tab k (fun q : Nat => (⟨1, atR b c t + (q : Int), 0, 0, ws.getD q 0⟩ : Insn))) (.slice A9 k c9) W5) := Lib.hid (HALL.out W5 (by rw [hW5]; exact (Below.refl _ wc).alloc (Nat.le_refl _) _))
      clear hW5 HALL
      refine AtLoad.go wc.heap.size rfl HB5.out Try.underlying55 rfl size_ins ?_
      go_wp2_with (at_builtin; refine ins_append HI5.out [⟨1, atR b c t + (k : Int), 0, 0, x⟩] HOC.out (k + 1) (by rw [tab_len]; rfl) (by omega) rfl _ _ rfl rfl rfl ?_)
      intro A8 c8 w3 R30
      have R3 : Hid (InsRel w (tab (k + 1) (fun q : Nat => (⟨1, atR b c t + (q : Int), 0, 0, ws.getD q 0⟩ : Insn))) (.slice A8 (k + 1) c8) w3) := Lib.hid (by rw [HS.out]; exact R30)
      clear R30
      go_wp2
      go_roundw
      case rel => exact ⟨k + 1, by omega, by go_num, R3⟩
      case measure => simp [intOf]; omega
    · have hki : ¬ (k : Int) < 6 := by omega
      have hke : k = 6 := by omega
      subst hke
      go_wp2
      go_ret
      exact ⟨_, rfl, HR.out.1, HR.out.2⟩
end Go.Proofs.Ytpkelneimjmmkaa

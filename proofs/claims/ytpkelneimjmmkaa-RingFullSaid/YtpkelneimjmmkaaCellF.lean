/- The contract of cell.Run. -/
import Derived.Test.YtpkelneimjmmkaaCellE
namespace Go.Proofs.Ytpkelneimjmmkaa
open Go.RowKit

def Acc.cells (x : Acc) : List Value := [.int .i64 x.k, .int .i64 x.i, .int .u64 x.a, .int .u64 x.b]
/-- A slice value that reads as these accesses. -/
def Accs (w : World) (v : Value) (l : List Acc) : Prop := Sl w v 4 l.length (l.flatMap Acc.cells) ∧ ∀ x ∈ l, x.ok
theorem Accs.below {w w' : World} {v : Value} {l : List Acc} (h : Accs w v l) (hb : Below w.heap.size w w') : Accs w' v l := ⟨h.1.below hb, h.2⟩

theorem flat_get {α : Type} (f : α → List Value) (n : Nat) (l : List α) (hf : ∀ x ∈ l, (f x).length = n) (k j : Nat) (hk : k < l.length) (hj : j < n) : (l.flatMap f)[k * n + j]? = (f l[k])[j]? := by
  induction l generalizing k with
  | nil => simp at hk
  | cons x l ih =>
    rw [List.flatMap_cons]
    cases k with
    | zero =>
      rw [List.getElem?_append_left (by rw [hf x (by simp)]; omega)]
      simp
    | succ k =>
      have e : (k + 1) * n + j = n + (k * n + j) := by rw [Nat.add_mul]; omega
      rw [List.getElem?_append_right (by rw [hf x (by simp)]; omega), hf x (by simp), e, Nat.add_sub_cancel_left, ih (fun y hy => hf y (by simp [hy])) k (by simpa using hk)]
      simp

/-- The cells of one access of a list in memory. -/
theorem Accs.at_ {w : World} {A : Option Addr} {c : Nat} {l : List Acc} {k : Nat} (h : Accs w (.slice A l.length c) l) (hk : k < l.length) :
    ∃ b off, A = some ⟨b, off, none⟩ ∧ b < w.heap.size ∧ w.cell? ⟨b, off + k * 4, none⟩ = some (.int .i64 l[k].k) ∧ w.cell? ⟨b, off + k * 4 + 1, none⟩ = some (.int .i64 l[k].i) ∧
      w.cell? ⟨b, off + k * 4 + 2, none⟩ = some (.int .u64 l[k].a) ∧ w.cell? ⟨b, off + k * 4 + 3, none⟩ = some (.int .u64 l[k].b) := by
  obtain ⟨b, off, rfl, hb, hc⟩ := h.1.at_ (by omega) (by omega)
  have hg := fun j hj => flat_get Acc.cells 4 l (fun _ _ => rfl) k j hk hj
  refine ⟨b, off, rfl, hb, ?_, ?_, ?_, ?_⟩
  · have := hc (k * 4 + 0) _ (by rw [hg 0 (by omega)]; rfl); simpa using this
  · have := hc (k * 4 + 1) _ (by rw [hg 1 (by omega)]; rfl); rw [Nat.add_assoc]; exact this
  · have := hc (k * 4 + 2) _ (by rw [hg 2 (by omega)]; rfl); rw [Nat.add_assoc]; exact this
  · have := hc (k * 4 + 3) _ (by rw [hg 3 (by omega)]; rfl); rw [Nat.add_assoc]; exact this

/-- What Run answers. -/
def RunAns (ms told : List Int) (w : World) (e : Ending) (w' : World) : Prop := ∃ v1 v2, e = .returned (.tuple #[v1, v2]) ∧ Own w' w.heap.size v1 ms ∧ Own w' w.heap.size v2 told ∧ Below w.heap.size w w'

/-- What holds between two rounds of Run. -/
def RunRel (ms : List Int) (l : List Acc) (w : World) (vn : Value) (k : Nat) (vt : Value) (wr : World) : Prop :=
  Own wr w.heap.size vn (accesses ms (l.take k)).1 ∧ Own wr w.heap.size vt (accesses ms (l.take k)).2 ∧ (vt.ownBlock = none ∨ vt.ownBlock ≠ vn.ownBlock) ∧ Below w.heap.size w wr

/-- Behind the access of a round: the told row is as it was. -/
theorem run_step {ms : List Int} {l : List Acc} {w wr w2 : World} {vn vt : Value} {k : Nat} {o : Obj} (h : RunRel ms l w vn k vt wr) (hk : k < l.length)
    (ho : Own w2 w.heap.size vn (access (accesses ms (l.take k)).1 l[k]).1) (hg : (wr.alloc o).grownBy w2 vn.ownBlock) :
    w2.ownsRow w.heap.size 30 1 vt (accesses ms (l.take k)).2.length (u64s (accesses ms (l.take k)).2) ∧ Own w2 w.heap.size vn (accesses ms (l.take (k + 1))).1 ∧ Below w.heap.size w w2 := by
  obtain ⟨h1, h2, h3, h4⟩ := h
  refine ⟨(h2.1.alloc o).kept hg h3, ?_, ?_⟩
  · rw [take_snoc l k hk, (accesses_snoc _ _ _).1]; exact ho
  · exact (h4.alloc h4.size _).grown hg (by have := h4.size; simp; omega) (fun j hj => (h1.1.lt j hj).1)

theorem ne_of_other {a b : Option Nat} (h : a = none ∨ a ≠ b) : b = none ∨ b ≠ a := by
  rcases h with h | h
  · subst h; cases b <;> simp
  · exact .inr (Ne.symm h)
/-- Behind a round's append. -/
theorem run_round {ms : List Int} {l : List Acc} {w wr w2 w3 : World} {vn vt v' : Value} {k : Nat} {o : Obj} (h : RunRel ms l w vn k vt wr) (hk : k < l.length) (hx : (l[k]).ok)
    (S : w2.ownsRow w.heap.size 30 1 vt (accesses ms (l.take k)).2.length (u64s (accesses ms (l.take k)).2) ∧ Own w2 w.heap.size vn (accesses ms (l.take (k + 1))).1 ∧ Below w.heap.size w w2)
    (ho : w3.ownsRow w.heap.size 30 1 v' ((accesses ms (l.take k)).2.length + 1) (u64s (accesses ms (l.take k)).2 ++ [.int .u64 (access (accesses ms (l.take k)).1 l[k]).2]))
    (hg : (w2.alloc o).grownBy w3 vt.ownBlock) (hat : v'.ownBlock = vt.ownBlock ∨ v'.ownBlock = some (w2.heap.size + 1)) : RunRel ms l w vn (k + 1) v' w3 := by
  obtain ⟨h1, h2, h3, h4⟩ := h
  obtain ⟨s1, s2, s3⟩ := S
  have hs : (accesses ms (l.take (k + 1))).2 = (accesses ms (l.take k)).2 ++ [(access (accesses ms (l.take k)).1 l[k]).2] := by rw [take_snoc l k hk, (accesses_snoc _ _ _).2]
  refine ⟨⟨(s2.1.alloc o).kept hg (ne_of_other h3), s2.2⟩, ?_, ?_, ?_⟩
  · refine ⟨?_, ?_⟩
    · rw [hs]; simpa [u64s] using ho
    · rw [hs]
      intro y hy
      rcases List.mem_append.1 hy with hy | hy
      · exact h2.2 y hy
      · simp at hy; subst hy; exact (access_ok h1.2 hx).2
  · rcases hat with e | e
    · rw [e]; exact h3
    · right
      rw [e]
      intro e2
      have := (s2.1.lt _ e2.symm).2
      omega
  · exact (s3.alloc s3.size _).grown hg (by have := s3.size; simp; omega) (fun j hj => (s1.lt j hj).1)

set_option maxHeartbeats 1000000 in
theorem run_call {v vl : Value} {ms : List Int} {l : List Acc} {w : World} (h : Words w v ms) (hl : Accs w vl l) (hsz : l.length ≤ 4096) :
    Calls Try.prog 26 #[v, vl] w (RunAns (accesses (counts ms) l).1 (accesses (counts ms) l).2 w) := by
  obtain ⟨i0, hi, hz0, hz1, hz2⟩ := info_parts info_u64
  obtain ⟨A, c, rfl, hc1, hc2, hA⟩ := hl.1.form
  have H := Lib.hid h
  have L := Lib.hid hl
  clear h hl hA hc1 hc2
  go_enter Try.func26, Try.ntmps26
  go_wp2_with fail
  refine (known_any H.out).mono ?_
  rintro e w1 ⟨vn, rfl, ho, hb⟩
  have L1 := Lib.hid (L.out.below hb)
  have R : RunRel (counts ms) l w vn 0 (.slice none 0 0) w1 := ⟨by simpa [accesses] using ho, ⟨by simpa [accesses, u64s] using World.ownsRow_nil _ _ _ _, by simp [accesses]⟩, .inl rfl, hb⟩
  have HB := Lib.hid hb
  have HR := Lib.hid R
  clear ho hb R
  go_wp2_with fail
  have hlen : (l.length : Int) ≤ 4096 := by omega
  go_loopw [7, 14] (fun vt i wr => ∃ k : Nat, k ≤ l.length ∧ i = .int .i64 (k : Int) ∧ RunRel (counts ms) l w vn k vt wr) (fun _ i _ => l.length - (intOf i).toNat)
  case atStart => exact ⟨0, Nat.zero_le _, rfl, HR.out⟩
  case round =>
    obtain ⟨k, hk, rfl, hR⟩ := hrel
    have HRk := Lib.hid hR
    clear hR HR H HB L1
    by_cases hlt : k < l.length
    · obtain ⟨b, off, rfl, hbl, c0, c1, c2, c3⟩ := (L.out.below HRk.out.2.2.2).at_ hlt
      have hki : (k : Int) < (l.length : Int) := by omega
      have hok := L.out.2 l[k] (List.getElem_mem hlt)
      have X := Lib.hid hok
      clear hok
      go_wp2_with fail
      refine (do_any (x := l[k]) (ms := (accesses (counts ms) (l.take k)).1) (base := w.heap.size) X.out ⟨HRk.out.1.1.alloc _, HRk.out.1.2⟩).mono ?_
      rintro e w2 ⟨rfl, ho2, hg2⟩
      have S := Lib.hid (run_step HRk.out hlt ho2 hg2)
      clear ho2 hg2
      go_wp2_with (at_builtin; refine wpList_append_sl _ rfl _ _ 22 rfl w.heap.size 30 i0 _ 1 8 Try.underlying22 hi hz0 hz1 hz2 rfl (by decide) _ _ _ rfl (S.out.1.alloc _) _ 1 [.int .u64 (access (accesses (counts ms) (l.take k)).1 l[k]).2] rfl (Sl.of_own (own_new _ _ 1 #[.int .u64 (access (accesses (counts ms) (l.take k)).1 l[k]).2] 1 rfl (by decide))) ?qc2 ?qc3 ?qc4 ?qc5 ?_)
      case qc2 => intro u hu; simp at hu; subst hu; rfl
      case qc3 => simp only [maxLen]; rw [(accesses_len _ _).2]; simp only [List.length_take]; omega
      case qc4 => rw [(accesses_len _ _).2]; simp only [List.length_take]; omega
      case qc5 => have := S.out.2.2.size; simp; omega
      intro v' w3 hown3 hgrow3 hat3
      have R3 := Lib.hid (run_round HRk.out hlt X.out S.out hown3 hgrow3 hat3)
      clear hown3 hgrow3 hat3
      go_wp2
      go_roundw
      case rel => exact ⟨k + 1, by omega, by go_num, R3.out⟩
      case measure => simp [intOf]; omega
    · have hki : ¬ (k : Int) < (l.length : Int) := by omega
      have he : k = l.length := by omega
      have HE := Lib.hid he
      clear he
      go_wp2
      go_ret2
      have hR := HRk.out
      unfold RunRel at hR
      rw [HE.out, List.take_length] at hR
      exact ⟨vn, _, rfl, hR.1, hR.2.1, hR.2.2.2⟩
end Go.Proofs.Ytpkelneimjmmkaa

/- The contract of the reference's Run. -/
import Derived.Test.YtpkelneimjmmkaaCellI
namespace Go.Proofs.Ytpkelneimjmmkaa
open Go.RowKit

/-- What holds between two rounds of the reference's Run: the memory is words in whatever memory, what was told is a row of the call's own. -/
def RefRel (ms : List Int) (l : List Acc) (w : World) (k : Nat) (vn vt : Value) (wr : World) : Prop :=
  Own wr w.heap.size vn (accesses ms (l.take k)).1 ∧ Own wr w.heap.size vt (accesses ms (l.take k)).2 ∧ (vt.ownBlock = none ∨ vt.ownBlock ≠ vn.ownBlock) ∧ Below w.heap.size w wr

theorem ref_step {ms : List Int} {l : List Acc} {w wr w2 : World} {vn vt v' : Value} {k : Nat} (h : RefRel ms l w k vn vt wr) (hk : k < l.length) (hms : ms.length ≤ 256)
    (ho : Own w2 wr.heap.size v' (access (counts (accesses ms (l.take k)).1) l[k]).1) (hb : Below wr.heap.size wr w2) :
    w2.ownsRow w.heap.size 30 1 vt (accesses ms (l.take k)).2.length (u64s (accesses ms (l.take k)).2) ∧ Own w2 w.heap.size v' (accesses ms (l.take (k + 1))).1 ∧ Below w.heap.size w w2 ∧ (vt.ownBlock = none ∨ vt.ownBlock ≠ v'.ownBlock) := by
  obtain ⟨h1, h2, h3, h4⟩ := h
  rw [counts_id (by rw [(accesses_len _ _).1]; exact hms)] at ho
  have hs := h4.size
  refine ⟨?_, ?_, h4.trans (hb.mono hs), ?_⟩
  · exact h2.1.kept (row := none) ⟨hb.os, hb.tape, hb.output, hb.size, fun k hk _ => hb.block k hk⟩ (by cases vt.ownBlock <;> simp)
  · rw [take_snoc l k hk, (accesses_snoc _ _ _).1]; exact own_base ho hs
  · cases e : vt.ownBlock with
    | none => exact .inl rfl
    | some t =>
      right
      intro e2
      have h5 := (h2.1.lt t e).2
      have h6 := (ho.1.lt t e2.symm).1
      omega

theorem ref_round {ms : List Int} {l : List Acc} {w wr w2 w3 : World} {vn vt vt' v' : Value} {k : Nat} {o : Obj} (h : RefRel ms l w k vn vt wr) (hk : k < l.length) (hx : (l[k]).ok)
    (S : w2.ownsRow w.heap.size 30 1 vt (accesses ms (l.take k)).2.length (u64s (accesses ms (l.take k)).2) ∧ Own w2 w.heap.size v' (accesses ms (l.take (k + 1))).1 ∧ Below w.heap.size w w2 ∧ (vt.ownBlock = none ∨ vt.ownBlock ≠ v'.ownBlock))
    (ho : w3.ownsRow w.heap.size 30 1 vt' ((accesses ms (l.take k)).2.length + 1) (u64s (accesses ms (l.take k)).2 ++ [.int .u64 (access (accesses ms (l.take k)).1 l[k]).2]))
    (hg : (w2.alloc o).grownBy w3 vt.ownBlock) (hat : vt'.ownBlock = vt.ownBlock ∨ vt'.ownBlock = some (w2.heap.size + 1)) : RefRel ms l w (k + 1) v' vt' w3 := by
  obtain ⟨h1, h2, h3, h4⟩ := h
  obtain ⟨s1, s2, s3, s4⟩ := S
  have hs : (accesses ms (l.take (k + 1))).2 = (accesses ms (l.take k)).2 ++ [(access (accesses ms (l.take k)).1 l[k]).2] := by rw [take_snoc l k hk, (accesses_snoc _ _ _).2]
  refine ⟨⟨(s2.1.alloc o).kept hg (ne_of_other s4), s2.2⟩, ⟨?_, ?_⟩, ?_, (s3.alloc s3.size _).grown hg (by have := s3.size; simp; omega) (fun j hj => (s1.lt j hj).1)⟩
  · rw [hs]; simpa [u64s] using ho
  · rw [hs]
    intro y hy
    rcases List.mem_append.1 hy with hy | hy
    · exact h2.2 y hy
    · simp at hy; subst hy; exact (access_ok h1.2 hx).2
  · rcases hat with e | e
    · rw [e]; exact s4
    · right
      rw [e]
      intro e2
      have := (s2.1.lt _ e2.symm).2
      omega

set_option maxHeartbeats 1000000 in
theorem refRun_call {v vl : Value} {ms : List Int} {l : List Acc} {w : World} (h : Words w v ms) (hl : Accs w vl l) (hsz : l.length ≤ 4096) :
    Calls Try.prog 27 #[v, vl] w (RunAns (accesses (counts ms) l).1 (accesses (counts ms) l).2 w) := by
  obtain ⟨i0, hi, hz0, hz1, hz2⟩ := info_parts info_u64
  obtain ⟨A, c, rfl, hc1, hc2, hA⟩ := hl.1.form
  have H := Lib.hid h
  have L := Lib.hid hl
  clear h hl hA hc1 hc2
  go_enter Try.func27, Try.ntmps27
  go_wp2_with fail
  refine (as_call H.out).mono ?_
  rintro e w1 ⟨vn, rfl, ho, hb⟩
  have R : RefRel (counts ms) l w 0 vn (.slice none 0 0) w1 := ⟨by simpa [accesses] using ho, ⟨by simpa [accesses, u64s] using World.ownsRow_nil _ _ _ _, by simp [accesses]⟩, .inl rfl, hb⟩
  have HR := Lib.hid R
  have HC : (counts ms).length ≤ 256 := by rw [counts_len]; omega
  clear ho hb R
  have hlen : (l.length : Int) ≤ 4096 := by omega
  go_wp2_with fail
  go_loopw [6, 7, 8] (fun vn vt i wr => ∃ k : Nat, k ≤ l.length ∧ i = .int .i64 (k : Int) ∧ RefRel (counts ms) l w k vn vt wr) (fun _ _ i _ => l.length - (intOf i).toNat)
  case atStart => exact ⟨0, Nat.zero_le _, rfl, HR.out⟩
  case round =>
    obtain ⟨k, hk, rfl, hR⟩ := hrel
    have HRk := Lib.hid hR
    clear hR HR H
    by_cases hlt : k < l.length
    · obtain ⟨b, off, rfl, hbl, c0, c1, c2, c3⟩ := (L.out.below HRk.out.2.2.2).at_ hlt
      have hki : (k : Int) < (l.length : Int) := by omega
      have hok := L.out.2 l[k] (List.getElem_mem hlt)
      have X := Lib.hid hok
      clear hok
      go_wp2_with fail
      refine (refDo_call (x := l[k]) (ms := (accesses (counts ms) (l.take k)).1) X.out HRk.out.1.words).mono ?_
      rintro e w2 ⟨v', rfl, ho2, hb2⟩
      have S := Lib.hid (ref_step HRk.out hlt HC ho2 hb2)
      have hid : counts (accesses (counts ms) (l.take k)).1 = (accesses (counts ms) (l.take k)).1 := counts_id (by rw [(accesses_len _ _).1]; exact HC)
      rw [hid]
      clear ho2 hb2 hid
      go_wp2_with (at_builtin; refine wpList_append_sl _ rfl _ _ 22 rfl w.heap.size 30 i0 _ 1 8 Try.underlying22 hi hz0 hz1 hz2 rfl (by decide) _ _ _ rfl (S.out.1.alloc _) _ 1 [.int .u64 (access (accesses (counts ms) (l.take k)).1 l[k]).2] rfl (Sl.of_own (own_new _ _ 1 #[.int .u64 (access (accesses (counts ms) (l.take k)).1 l[k]).2] 1 rfl (by decide))) ?qc2 ?qc3 ?qc4 ?qc5 ?_)
      case qc2 => intro u hu; simp at hu; subst hu; rfl
      case qc3 => simp only [maxLen]; rw [(accesses_len _ _).2]; simp only [List.length_take]; omega
      case qc4 => rw [(accesses_len _ _).2]; simp only [List.length_take]; omega
      case qc5 => have := S.out.2.2.1.size; simp; omega
      intro vt' w3 hown3 hgrow3 hat3
      have R3 := Lib.hid (ref_round HRk.out hlt X.out S.out hown3 hgrow3 hat3)
      clear hown3 hgrow3 hat3
      go_wp2
      go_roundw
      case rel => exact ⟨k + 1, by omega, by go_num, R3.out⟩
      case measure => simp [intOf]; omega
    · have hki : ¬ (k : Int) < (l.length : Int) := by omega
      have he : k = l.length := by omega
      have HE := Lib.hid he
      clear he
      go_wp2
      go_ret2
      have hR := HRk.out
      unfold RefRel at hR
      rw [HE.out, List.take_length] at hR
      exact ⟨_, _, rfl, hR.1, hR.2.1, hR.2.2.2⟩
end Go.Proofs.Ytpkelneimjmmkaa

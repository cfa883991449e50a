/- The contract of task.Steps. -/
import Derived.Test.YtpkelneimjmmkaaTaskH
import Derived.Laws.Small
namespace Go.Proofs.Ytpkelneimjmmkaa
open Go.RowKit

/-- What steps hand back. -/
def StepsAns (v : Value) (T T' : FT) (ms : List Int) (n : Nat) (w : World) (e : Ending) (w' : World) : Prop :=
  ∃ v1 v2, e = .returned (.tuple #[v1, v2, .int .i64 (n : Int)]) ∧ (∀ W, IsTask W v T → IsTask W v1 T') ∧ Own w' w.heap.size v2 ms ∧ Below w.heap.size w w'

/-- Between two steps. -/
structure StepsRel (w : World) (v : Value) (T : FT) (R : FT × List Int × Nat) (N : Nat) (z : Array Value) (k : Nat) (vm : Value) (T' : FT) (ms : List Int) (cs : Array Value) (wr : World) : Prop where
  box : Box wr w.heap.size 42 cs
  size : cs.size = 36
  res : Box wr (w.heap.size + 1) 42 z
  task : ∀ W, IsTask W v T → IsTask W (.agg cs) T'
  own : Own wr (w.heap.size + 2) vm ms
  below : Below w.heap.size w wr
  le : k ≤ N
  same : (stepsN (N - k) T' ms).1 = R.1 ∧ (stepsN (N - k) T' ms).2.1 = R.2.1 ∧ k + (stepsN (N - k) T' ms).2.2 = R.2.2

theorem IsTask.size {w : World} {cs : Array Value} {T : FT} (h : IsTask w (.agg cs) T) : cs.size = 36 ∧ cs.all (·.oneCell') = true ∧ cs[34]? = some (.bool T.t.done) := by
  obtain ⟨cv, e, _, ht, hc⟩ := h
  injection e with e
  subst e
  exact ⟨tcells_size ht.1, tcells_one hc, tcells_34 ht.1⟩

set_option maxHeartbeats 4000000 in
theorem steps_call {v vm : Value} {T : FT} {ms : List Int} {most : Int} {w : World} (h : IsTask w v T) (hm : Words w vm ms) :
    Calls Try.prog 37 #[v, vm, .int .i64 most] w (StepsAns v T (stepsT T ms most).1 (stepsT T ms most).2.1 (stepsT T ms most).2.2 w) := by
  have hv : ∃ cs, v = .agg cs := by obtain ⟨cv, rfl, _⟩ := h; exact ⟨_, rfl⟩
  obtain ⟨cs, rfl⟩ := hv
  obtain ⟨hsz, hone, h34⟩ := h.size
  have H := Lib.hid h
  have HM := Lib.hid hm
  have HSZ := Lib.hid hsz
  clear h hm hsz hone h34
  go_enter Try.func37, Try.ntmps37
  go_wp2_with fail
  refine calls_at fun W0 hW0 => ?_
  have bx : Box W0 w.heap.size 42 cs := by rw [hW0]; exact (Box.new _ _ _).alloc _
  have br : ∃ z, Box W0 (w.heap.size + 1) 42 z ∧ z.size = 36 := by rw [hW0]; exact ⟨_, Box.at_ (by simp) _ _, rfl⟩
  have hb0 : Below w.heap.size w W0 := by rw [hW0]; exact ((Below.refl _ w).alloc (Nat.le_refl _) _).alloc (by simp) _
  have hs0 : W0.heap.size = w.heap.size + 2 := by rw [hW0]; simp
  obtain ⟨z, br, hz⟩ := br
  clear hW0
  refine (tknown_call (HM.out.below hb0)).mono ?_
  rintro e w1 ⟨v1, rfl, ho, hb1⟩
  have hR : StepsRel w (.agg cs) T (stepsT T ms most) (atMost most) z 0 v1 T (counts ms) cs w1 :=
    ⟨bx.kept hb1, HSZ.out, br.kept hb1, fun _ h => h, own_base ho (by omega), below_call hb0 hb1 hb0.size, Nat.zero_le _, rfl, rfl, by simp [stepsT]⟩
  have HR := Lib.hid hR
  generalize stepsT T ms most = R at *
  clear hR bx br hb0 hb1 ho hs0 HM
  go_wp2_with fail
  go_loopw [1, 9] (fun m i wr => ∃ (k : Nat) (T' : FT) (ms' : List Int) (cs' : Array Value), i = .int .i64 (k : Int) ∧ Hid (StepsRel w (.agg cs) T R (atMost most) z k m T' ms' cs' wr)) (fun m i _ => atMost most - (intOf i).toNat)
  case atStart => exact ⟨0, T, _, cs, rfl, HR⟩
  case round =>
    obtain ⟨k, T', ms', cs', rfl, HK⟩ := hrel
    have hT' : IsTask wr (.agg cs') T' := HK.out.task wr (H.out.below HK.out.below)
    obtain ⟨hsz', hone', h34'⟩ := hT'.size
    have e34 := (HK.out.box.cell 34).trans h34'
    have HT' := Lib.hid hT'
    have HSZ' := Lib.hid hsz'
    have HONE' := Lib.hid hone'
    have hle := HK.out.le
    have hkm : (k : Int) ≤ 1000 := by unfold atMost at hle; omega
    clear hT' hsz' hone' h34'
    have hmin : ∀ (w : World) (ts : Array TypeId) (t : TypeId), (Builtin.min_ ts t #[.int .i64 most, .int .i64 1000]).run Try.prog w = .ok (.int .i64 (if (1000 : Int) < most then 1000 else most)) w := fun w ts t => run_min_int2 w ts t _ _ _ _
    have hml : (k : Int) < (if (1000 : Int) < most then 1000 else most) ↔ k < atMost most := by unfold atMost; split <;> omega
    generalize (if (1000 : Int) < most then 1000 else most) = M at *
    have hfin : (stepsN (atMost most - k) T' ms') = (T', ms', 0) → StepsAns (.agg cs) T R.1 R.2.1 R.2.2 w (.returned (.tuple #[.agg cs', u1, .int .i64 (k : Int)])) (wr.setRow (w.heap.size + 1) cs') := fun hz => by
      obtain ⟨s1, s2, s3⟩ := HK.out.same
      rw [hz] at s1 s2 s3
      refine ⟨_, _, by rw [← s3]; rfl, fun W hW => ?_, ?_, below_row HK.out.below (by omega) _⟩
      · rw [← s1]; exact HK.out.task W hW
      · rw [← s2]; exact own_base (own_set_far HK.out.own (by omega) _) (by omega)
    have HFI := Lib.hid hfin
    have HML := Lib.hid hml
    clear hfin hml
    by_cases hlt : k < atMost most
    · have hm : (k : Int) < M := HML.out.2 hlt
      have HLT := Lib.hid hlt
      have HLE := Lib.hid hle
      clear hlt hle
      by_cases hd : T'.t.done = true
      · rw [hd] at e34
        have HF := Lib.hid (HFI.out (stepsN_done hd _ _))
        clear hd
        go_wp2_with (first | with_reducible refine load_stop rfl 42 _ rfl ?_ | with_reducible refine store_stop rfl 42 _ _ rfl ?_)
        refine AtLoad.go w.heap.size rfl HK.out.box Try.underlying42 rfl (size_task' HSZ'.out) ?_
        go_wp2_with (first | with_reducible refine load_stop rfl 42 _ rfl ?_ | with_reducible refine store_stop rfl 42 _ _ rfl ?_)
        refine AtStore.go (w.heap.size + 1) rfl rfl HK.out.res (size_task' HSZ'.out) (by rw [hz, HSZ'.out]) HONE'.out ?_
        go_wp2
        exact bodyPost_ret (results_row_tmp2 Try.results37 _ _ (w.heap.size + 1) 42 _ _ rfl (HK.out.res.row _) Try.underlying42 rfl (size_task' HSZ'.out)) rfl HF.out
      · have hd' : T'.t.done = false := by simpa using hd
        rw [hd'] at e34
        have HD := Lib.hid hd'
        clear hd hd'
        go_wp2_with (first | with_reducible refine load_stop rfl 42 _ rfl ?_ | with_reducible refine store_stop rfl 42 _ _ rfl ?_)
        refine AtLoad.go w.heap.size rfl HK.out.box Try.underlying42 rfl (size_task' HSZ'.out) ?_
        go_wp2_with (first | with_reducible refine load_stop rfl 42 _ rfl ?_ | with_reducible refine store_stop rfl 42 _ _ rfl ?_)
        refine (step_call HT'.out HK.out.own.words).mono ?_
        rintro e w2 ⟨v2, v3, rfl, ht2, ho2, hb2⟩
        have hT2 := ht2 wr HT'.out
        have hv2 : ∃ cs2, v2 = .agg cs2 := by obtain ⟨cv, rfl, _⟩ := hT2; exact ⟨_, rfl⟩
        obtain ⟨cs2, rfl⟩ := hv2
        obtain ⟨hsz2, hone2, _⟩ := hT2.size
        have hsame : stepsN (atMost most - k) T' ms' = ((stepsN (atMost most - (k + 1)) (stepT T' ms').1 (stepT T' ms').2).1, (stepsN (atMost most - (k + 1)) (stepT T' ms').1 (stepT T' ms').2).2.1, (stepsN (atMost most - (k + 1)) (stepT T' ms').1 (stepT T' ms').2).2.2 + 1) := by
          have e : atMost most - k = (atMost most - (k + 1)) + 1 := by have := HLT.out; omega
          rw [e]; simp only [stepsN]; rw [if_neg (by rw [HD.out]; simp)]
        have hs2 : w.heap.size + 2 ≤ wr.heap.size := by have := HK.out.res.lt; omega
        have hR2 : StepsRel w (.agg cs) T R (atMost most) z (k + 1) v3 (stepT T' ms').1 (stepT T' ms').2 cs2 (w2.setRow w.heap.size cs2) := by
          have hbb := below_call HK.out.below hb2 HK.out.below.size
          obtain ⟨s1, s2, s3⟩ := HK.out.same
          rw [hsame] at s1 s2 s3
          refine ⟨(HK.out.box.kept hb2).row _, hsz2, (HK.out.res.kept hb2).row_far (by omega) _, fun W hW => ht2 W (HK.out.task W hW), own_set_far (own_base ho2 hs2) (by omega) _, below_row hbb (Nat.le_refl _) _, HLT.out, s1, s2, by rw [← s3]; simp only; omega⟩
        have HR2 := Lib.hid hR2
        have HSZ2 := Lib.hid hsz2
        have HONE2 := Lib.hid hone2
        have HBX2 := Lib.hid (HK.out.box.kept hb2)
        clear hR2 hsz2 hone2 hsame ht2 hT2 ho2 hb2 hs2
        go_wp2_with (first | with_reducible refine load_stop rfl 42 _ rfl ?_ | with_reducible refine store_stop rfl 42 _ _ rfl ?_)
        refine AtStore.go w.heap.size rfl rfl HBX2.out (size_task' HSZ2.out) (by rw [HSZ'.out, HSZ2.out]) HONE2.out ?_
        go_wp2
        go_roundw
        case rel => exact ⟨k + 1, _, _, cs2, by go_num, HR2⟩
        case measure => have := HLT.out; simp [intOf]; omega
    · have hm : ¬ (k : Int) < M := fun h => hlt (HML.out.1 h)
      have HF := Lib.hid (HFI.out (by rw [show atMost most - k = 0 by omega]; rfl))
      clear hlt hle
      go_wp2_with (first | with_reducible refine load_stop rfl 42 _ rfl ?_ | with_reducible refine store_stop rfl 42 _ _ rfl ?_)
      refine AtLoad.go w.heap.size rfl HK.out.box Try.underlying42 rfl (size_task' HSZ'.out) ?_
      go_wp2_with (first | with_reducible refine load_stop rfl 42 _ rfl ?_ | with_reducible refine store_stop rfl 42 _ _ rfl ?_)
      refine AtStore.go (w.heap.size + 1) rfl rfl HK.out.res (size_task' HSZ'.out) (by rw [hz, HSZ'.out]) HONE'.out ?_
      go_wp2
      exact bodyPost_ret (results_row_tmp2 Try.results37 _ _ (w.heap.size + 1) 42 _ _ rfl (HK.out.res.row _) Try.underlying42 rfl (size_task' HSZ'.out)) rfl HF.out
end Go.Proofs.Ytpkelneimjmmkaa

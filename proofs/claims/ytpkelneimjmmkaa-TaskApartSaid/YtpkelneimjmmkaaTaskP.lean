/- Slices of ints of the call's own; picks by their lowest bits. -/
import Derived.Test.YtpkelneimjmmkaaRefF
import Derived.Test.YtpkelneimjmmkaaCellRunsW
namespace Go.Proofs.Ytpkelneimjmmkaa
open Go.RowKit

theorem info_int : (Try.prog.info? 3).map (fun i => (i.zero, i.size, i.bytes)) = some (some (.int .i64 0), 1, 8) := by kernel_rfl
def OwnN (w : World) (base : Nat) (v : Value) (l : List Int) : Prop := w.ownsRow base 3 1 v l.length (l.map (Value.int .i64)) ∧ ∀ x ∈ l, I64 x
theorem OwnN.ints {w : World} {base : Nat} {v : Value} {l : List Int} (h : OwnN w base v l) : Ints w v l := ⟨Sl.of_own h.1, h.2⟩
theorem OwnN.nil (w : World) (base : Nat) : OwnN w base (.slice none 0 0) [] := ⟨by simpa using World.ownsRow_nil _ _ _ _, by simp⟩
/-- Two slices of ints: one grows. -/
theorem two_more {w wr w3 : World} {B : Nat} {v u v' : Value} {l m : List Int} {x : Int} {o : Obj} (hv : OwnN wr B v l) (hu : OwnN wr B u m) (sep : v.ownBlock = none ∨ v.ownBlock ≠ u.ownBlock)
    (hb : Below B w wr) (hB : B ≤ wr.heap.size) (hx : I64 x) (ho : w3.ownsRow B 3 1 v' (l.length + 1) (l.map (Value.int .i64) ++ [.int .i64 x])) (hg : (wr.alloc o).grownBy w3 v.ownBlock)
    (hat : v'.ownBlock = v.ownBlock ∨ v'.ownBlock = some (wr.heap.size + 1)) :
    OwnN w3 B v' (l ++ [x]) ∧ OwnN w3 B u m ∧ (v'.ownBlock = none ∨ v'.ownBlock ≠ u.ownBlock) ∧ Below B w w3 := by
  refine ⟨⟨by simpa using ho, fun y hy => ?_⟩, ⟨(hu.1.alloc o).kept hg (ne_of_other sep), hu.2⟩, ?_, (hb.alloc hB _).grown hg (by simp; omega) (fun j hj => (hv.1.lt j hj).1)⟩
  · rcases List.mem_append.1 hy with h | h
    · exact hv.2 y h
    · simp at h; subst h; exact hx
  · rcases hat with e | e
    · rw [e]; exact sep
    · right
      rw [e]
      intro e2
      have := (hu.1.lt _ e2.symm).2
      omega
/-- One taken first, where the temporaries are laid out: its slot is read off ahead. -/
theorem take_at {P : Program} {md : Region.Mode} {ops : Array Oper} {Q : Exit → Act → World → Prop} {S : World → Prop} {i d : Nat} {oi : Oper} {v : Value} {fuel : Nat} {listed : Array Bool} {tmps : Array Value} {ds : List Deferred} {w : World} (hi : ops[i]? = some oi) (hd : oi.dst = some d)
    (hs : Region.noSelect ops = true) (hf : Region.free md ops listed i = true) (hr : (Region.ready md ops listed).contains i = true)
    (hQ : ∀ c a w, Q (.panic c) (a.put oi.dst v) w → Q (.panic c) a w) (hy : YieldsIf P ops S oi v ⟨tmps, ds⟩) (hS : S w)
    (h : wpAnyH P md ops Q S fuel (listed.setIfInBounds i true) ⟨tmps.setIfInBounds d v, ds⟩ w) : wpAnyH P md ops Q S (fuel + 1) listed ⟨tmps, ds⟩ w :=
  wpAnyH_take hi hs hf hr hQ hy hS (by rw [hd]; exact h)
/-- An int's lowest sixteen bits. -/
def low16 (x : Int) : Nat := (bits .and .i64 x 65535).toNat
theorem low16_eq (x : Int) : bits .and .i64 x 65535 = (low16 x : Int) := by
  obtain ⟨q, _, hq⟩ := and_mask x 65535 (by omega)
  have e65 : ((65535 : Nat) : Int) = 65535 := rfl
  rw [e65] at hq
  unfold low16
  rw [hq]; rfl
theorem low16_le (x : Int) : low16 x ≤ 65535 := by
  obtain ⟨q, h, hq⟩ := and_mask x 65535 (by omega)
  have e65 : ((65535 : Nat) : Int) = 65535 := rfl
  rw [e65] at hq
  unfold low16
  rw [hq]; exact h
theorem low16_tmod (x : Int) {n : Nat} (hn : 0 < n) : ((low16 x : Int)).tmod (n : Int) = ((low16 x % n : Nat) : Int) := by
  obtain ⟨k, rfl⟩ : ∃ k, n = k + 1 := ⟨n - 1, by omega⟩
  exact tmod_nat (low16 x) k
theorem pickAt_nat {n r : Nat} (h : r < n) : pickAt n (r : Int) = r := by
  unfold pickAt
  have : (r : Int) % (n : Int) = ((r % n : Nat) : Int) := by push_cast; rfl
  rw [this, Nat.mod_eq_of_lt h]; rfl
/-- Between two rounds of the parting of the picks. -/
structure PartRel (w : World) (n i k : Nat) (v u : Value) (lo lw : List Int) (wr : World) : Prop where
  others : OwnN wr w.heap.size v lo
  own : OwnN wr w.heap.size u lw
  sep : v.ownBlock = none ∨ v.ownBlock ≠ u.ownBlock
  below : Below w.heap.size w wr
  not : ∀ x ∈ lo, pickAt n x ≠ i
  is : ∀ x ∈ lw, pickAt n x = i
  lenO : lo.length ≤ k
  lenW : lw.length ≤ k
end Go.Proofs.Ytpkelneimjmmkaa

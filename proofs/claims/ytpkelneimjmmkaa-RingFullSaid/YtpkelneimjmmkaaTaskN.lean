/- Slices of tasks. -/
import Derived.Test.YtpkelneimjmmkaaTaskM
import Derived.Test.YtpkelneimjmmkaaPureM
namespace Go.Proofs.Ytpkelneimjmmkaa
open Go.RowKit

/-- The tasks' cells, one behind the other. -/
abbrev TV := List Value × FT
/-- Each is the task that it is said to be. -/
def AllT (w : World) (l : List TV) : Prop := ∀ p ∈ l, IsTask w (.agg p.1.toArray) p.2
theorem AllT.below {w w' : World} {l : List TV} (h : AllT w l) (hb : Below w.heap.size w w') : AllT w' l := fun p hp => (h p hp).below hb
theorem AllT.len {w : World} {l : List TV} (h : AllT w l) : ∀ p ∈ l, p.1.length = 36 := fun p hp => by have := (h p hp).size.1; simpa using this
theorem AllT.at_ {w : World} {l : List TV} (h : AllT w l) {k : Nat} (hk : k < l.length) : IsTask w (.agg (l[k]).1.toArray) (l[k]).2 := h _ (List.getElem_mem hk)
theorem AllT.set {w : World} {l : List TV} (h : AllT w l) (k : Nat) {p : TV} (hp : IsTask w (.agg p.1.toArray) p.2) : AllT w (l.set k p) := fun q hq => by
  rcases List.mem_or_eq_of_mem_set hq with h' | h'
  · exact h q h'
  · rw [h']; exact hp
/-- A slice that reads as these tasks' cells. -/
def SlT (w : World) (v : Value) (l : List TV) : Prop := Sl w v 36 l.length (l.flatMap (·.1))
theorem SlT.at_ {w : World} {A : Option Addr} {n c : Nat} {l : List TV} {k : Nat} (h : SlT w (.slice A n c) l) (hn : n = l.length) (hl : ∀ p ∈ l, p.1.length = 36) (hk : k < l.length) :
    ∃ b off, A = some ⟨b, off, none⟩ ∧ b < w.heap.size ∧ w.rangeAt b (off + k * 36) (l[k]).1 := by
  subst hn
  obtain ⟨b, off, rfl, hb, hc⟩ := Sl.at_ h (by omega) (by omega)
  refine ⟨b, off, rfl, hb, fun j u hu => ?_⟩
  have hj : j < (l[k]).1.length := (List.getElem?_eq_some_iff.1 hu).1
  have hg := flat_get (fun p : TV => p.1) 36 l hl k j hk (by rw [hl _ (List.getElem_mem hk)] at hj; exact hj)
  rw [Nat.add_assoc]
  exact hc (k * 36 + j) u (by rw [hg]; exact hu)
/-- A slice of tasks that reads, and whose codes read. -/
def Tasks (w : World) (v : Value) (l : List TV) : Prop := SlT w v l ∧ AllT w l
theorem Tasks.below {w w' : World} {v : Value} {l : List TV} (h : Tasks w v l) (hb : Below w.heap.size w w') : Tasks w' v l := ⟨Sl.below h.1 hb, h.2.below hb⟩
/-- A slice of tasks of the call's own. -/
def OwnT (w : World) (base : Nat) (v : Value) (l : List TV) : Prop := w.ownsRow base 42 36 v l.length (l.flatMap (·.1))
theorem OwnT.slt {w : World} {base : Nat} {v : Value} {l : List TV} (h : OwnT w base v l) : SlT w v l := Sl.of_own h
theorem OwnT.kept {w w' : World} {base : Nat} {v : Value} {l : List TV} (h : OwnT w base v l) (hb : Below w.heap.size w w') : OwnT w' base v l := by
  obtain ⟨h1, h2⟩ := h
  refine ⟨h1, ?_⟩
  rcases h2 with h2 | ⟨g', cap, cur, e, hg', hh, r⟩
  · exact .inl h2
  · exact .inr ⟨g', cap, cur, e, hg', (hb.block g' (Array.getElem?_eq_some_iff.1 hh).1).trans hh, r⟩
theorem OwnT.base {w : World} {base base' : Nat} {v : Value} {l : List TV} (h : OwnT w base v l) (hb : base' ≤ base) : OwnT w base' v l := by
  obtain ⟨h1, h2⟩ := h
  refine ⟨h1, ?_⟩
  rcases h2 with h2 | ⟨g', cap, cur, e, hg', r⟩
  · exact .inl h2
  · exact .inr ⟨g', cap, cur, e, by omega, r⟩
theorem Below.setCells {B : Nat} {a w : World} (h : Below B a w) (hB : B ≤ w.heap.size) {g : Nat} (hg : B ≤ g) (o : Nat) (vs : List Value) : Below B a (w.setCells g o vs) :=
  h.grown (grown_setCells g vs o w) hB (fun k e => by cases e; omega)

theorem flat_set {α : Type} (f : α → List Value) (n : Nat) (x : α) : ∀ (l : List α) (k : Nat), (∀ y ∈ l, (f y).length = n) → (f x).length = n → k < l.length →
    ∀ j, ((l.set k x).flatMap f)[j]? = if k * n ≤ j ∧ j < k * n + n then (f x)[j - k * n]? else (l.flatMap f)[j]? := by
  intro l
  induction l with
  | nil => intro k _ _ hk; simp at hk
  | cons y l ih =>
    intro k hl hx hk j
    have hy : (f y).length = n := hl y (by simp)
    cases k with
    | zero =>
      simp only [List.set_cons_zero, List.flatMap_cons]
      by_cases hj : j < n
      · rw [if_pos (by omega), List.getElem?_append_left (by omega)]; simp
      · rw [if_neg (by omega), List.getElem?_append_right (by omega), List.getElem?_append_right (by omega), hx, hy]
    | succ k =>
      simp only [List.set_cons_succ, List.flatMap_cons]
      by_cases hj : j < n
      · rw [if_neg (by rw [Nat.succ_mul]; omega), List.getElem?_append_left (by omega), List.getElem?_append_left (by omega)]
      · rw [List.getElem?_append_right (by omega), ih k (fun z hz => hl z (by simp [hz])) hx (by simpa using hk), hy]
        by_cases hin : k * n ≤ j - n ∧ j - n < k * n + n
        · rw [if_pos hin, if_pos (by rw [Nat.succ_mul]; omega)]
          congr 1
          rw [Nat.succ_mul]; omega
        · rw [if_neg hin, if_neg (by rw [Nat.succ_mul]; omega), List.getElem?_append_right (by omega), hy]
theorem flat_len' {α : Type} (f : α → List Value) (n : Nat) : ∀ (l : List α), (∀ y ∈ l, (f y).length = n) → (l.flatMap f).length = l.length * n
  | [], _ => by simp
  | y :: l, h => by
    rw [List.flatMap_cons, List.length_append, flat_len' f n l (fun z hz => h z (by simp [hz])), h y (by simp), List.length_cons, Nat.succ_mul]; omega

theorem setCells_heap {w : World} {g : Nat} {t : TypeId} : ∀ (vs : List Value) (o : Nat) (cur : Array Value), Box w g t cur → o + vs.length ≤ cur.size →
    ∃ cur', Box (w.setCells g o vs) g t cur' ∧ cur'.size = cur.size ∧ ∀ j, cur'[j]? = if o ≤ j ∧ j < o + vs.length then vs[j - o]? else cur[j]? := by
  intro vs
  induction vs generalizing w with
  | nil => intro o cur h _; exact ⟨cur, h, rfl, fun j => by rw [if_neg (by simp)]⟩
  | cons v vs ih =>
    intro o cur h hl
    obtain ⟨cur', h1, h2, h3⟩ := ih (o + 1) (cur.setIfInBounds o v) (h.set_ o v) (by simp at hl ⊢; omega)
    refine ⟨cur', h1, by rw [h2]; simp, fun j => ?_⟩
    rw [h3 j]
    by_cases hj : j = o
    · subst hj
      rw [if_neg (by omega), if_pos (by simp)]
      simp at hl
      simp [Array.getElem?_setIfInBounds]
      omega
    · by_cases hin : o + 1 ≤ j ∧ j < o + 1 + vs.length
      · rw [if_pos hin, if_pos (by simp; omega)]
        rw [show j - o = (j - (o + 1)) + 1 by omega]; rfl
      · rw [if_neg hin, if_neg (by simp; omega)]
        rw [Array.getElem?_setIfInBounds, if_neg (fun e => hj e.symm)]
/-- A task of a list of the call's own is written anew. -/
theorem OwnT.store {w : World} {base g cap : Nat} {l : List TV} {k : Nat} {p : TV} (h : OwnT w base (.slice (some ⟨g, 0, none⟩) l.length cap) l) (hl : ∀ q ∈ l, q.1.length = 36) (hk : k < l.length) (hp : p.1.length = 36) :
    w.there g (k * 36) 36 ∧ OwnT (w.setCells g (k * 36) p.1) base (.slice (some ⟨g, 0, none⟩) l.length cap) (l.set k p) := by
  obtain ⟨h1, h2⟩ := h
  rcases h2 with ⟨h2, _⟩ | ⟨g', cap', cur, e, hg, hh, hnc, hcm, hcs, htk⟩
  · cases h2
  · injection e with e1 e2 e3
    injection e1 with e1
    injection e1 with e1
    subst e1 e3
    have hkk : k * 36 + 36 ≤ cap * 36 := by omega
    have hbox : Box w g 42 cur := hh
    have hthere : w.there g (k * 36) 36 := fun j hj => ⟨by rw [hbox.cell, Array.getElem?_eq_getElem (by omega)]; rfl, hbox.frozen _⟩
    obtain ⟨cur', hb', hs', hc'⟩ := setCells_heap p.1 (k * 36) cur hbox (by omega)
    refine ⟨hthere, ?_, .inr ⟨g, cap, cur', by rw [List.length_set], hg, hb', ?_, hcm, by rw [hs', hcs], ?_⟩⟩
    · rw [flat_len' (·.1) 36 (l.set k p) (fun q hq => ?_)]
      rcases List.mem_or_eq_of_mem_set hq with h | h
      · exact hl q h
      · rw [h]; exact hp
    · rw [List.length_set]; exact hnc
    · apply List.ext_getElem?
      intro j
      rw [List.length_set, flat_set (·.1) 36 p l k hl hp hk j]
      rw [List.getElem?_take]
      by_cases hj : j < l.length * 36
      · rw [if_pos hj, Array.getElem?_toList, hc' j]
        rw [hp]
        split
        · rfl
        · rw [← htk, List.getElem?_take, if_pos hj, Array.getElem?_toList]
      · rw [if_neg hj]
        rw [if_neg (by omega)]
        rw [List.getElem?_eq_none (by rw [h1]; omega)]
/-- A store of a row into the middle of a block, where the walk stopped at it. -/
theorem AtStore.mid {P : Program} {w : World} {ops : Array Oper} {rest : List Oper} {o : Oper} {a : Act} {Q : Exit → Act → World → Prop} (hgd : o.guard = none) (ty : TypeId) (x y : Operand) (ho : o.op = .store ty x y)
    (g off : Nat) {cs : List Value} (hx : a.eval x = .pointer (some ⟨g, off, none⟩)) (hy : a.eval y = .agg cs.toArray) (ht : w.there g off cs.length) (hi : (P.info? ty).map (·.size) = some cs.length) (h1 : cs.toArray.all (·.oneCell') = true)
    (h : wpList P ops Q rest (a.put o.dst undef) (w.setCells g off cs)) : wpList P ops Q (o :: rest) a w :=
  wpList_store_mid hgd ty x y ho g off cs.toArray hx hy (by simpa using ht) (by simpa using hi) h1 (by simpa using h)
/-- Where the walk stops at a store of a row, wherever it goes. -/
def AtStoreM (P : Program) (ops : Array Oper) (Q : Exit → Act → World → Prop) (rest : List Oper) (o : Oper) (ty : TypeId) (x y : Operand) (a : Act) (w : World) : Prop :=
  ∃ (g off : Nat) (cs : List Value), a.eval x = .pointer (some ⟨g, off, none⟩) ∧ a.eval y = .agg cs.toArray ∧ w.there g off cs.length ∧ (P.info? ty).map (·.size) = some cs.length ∧ cs.toArray.all (·.oneCell') = true ∧
    wpList P ops Q rest (a.put o.dst undef) (w.setCells g off cs)
theorem storeM_stop {P : Program} {w : World} {ops : Array Oper} {rest : List Oper} {o : Oper} {a : Act} {Q : Exit → Act → World → Prop} (hgd : o.guard = none) (ty : TypeId) (x y : Operand) (ho : o.op = .store ty x y)
    (h : AtStoreM P ops Q rest o ty x y a w) : wpList P ops Q (o :: rest) a w := by
  obtain ⟨g, off, cs, hx, hy, ht, hi, h1, h⟩ := h
  exact AtStore.mid hgd ty x y ho g off hx hy ht hi h1 h
theorem AtStoreM.go {P : Program} {w : World} {ops : Array Oper} {rest : List Oper} {o : Oper} {a : Act} {Q : Exit → Act → World → Prop} {ty : TypeId} {x y : Operand} (g off : Nat) {cs : List Value} (hx : a.eval x = .pointer (some ⟨g, off, none⟩)) (hy : a.eval y = .agg cs.toArray)
    (ht : w.there g off cs.length) (hi : (P.info? ty).map (·.size) = some cs.length) (h1 : cs.toArray.all (·.oneCell') = true) (h : wpList P ops Q rest (a.put o.dst undef) (w.setCells g off cs)) : AtStoreM P ops Q rest o ty x y a w :=
  ⟨g, off, cs, hx, hy, ht, hi, h1, h⟩
end Go.Proofs.Ytpkelneimjmmkaa

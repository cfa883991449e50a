/- The closed facts of the rows that hang on the program alone, each proved by itself, so that no single declaration grows too great. The head of the dump names all roots, and the kernel does not read so long a text word by word: it is read by a lemma. -/
import Derived.Test.YtpkelneimjmmkaaRows
import Derived.Test.YtpkelneimjmmkaaChecked
import Derived.JoinedOf
import Derived.KernelRfl
namespace Go.Proofs.Ytpkelneimjmmkaa

theorem and_tt {a b : Bool} (ha : a = true) (hb : b = true) : (a && b) = true := by rw [ha, hb]; rfl

def spc : Char := Char.ofNat 32
theorem words_one (a r : List Char) (h : ∀ c ∈ a, c ≠ spc) : wordsSigns (a ++ spc :: r) = a :: wordsSigns r := by
  induction a with
  | nil => rfl
  | cons c a ih =>
    have hc : c ≠ spc := h c (by simp)
    rw [List.cons_append, wordsSigns.eq_3 _ _ (fun e => hc e), ih (fun x hx => h x (by simp [hx]))]
theorem words_three (a b c d : String) (ha : a.toList.all (· != spc) = true) (hb : b.toList.all (· != spc) = true) (hc : c.toList.all (· != spc) = true) :
    wordsSigns (a ++ " " ++ b ++ " " ++ c ++ " " ++ d).toList = a.toList :: b.toList :: c.toList :: wordsSigns d.toList := by
  have hs : (" " : String).toList = [spc] := rfl
  have hne : ∀ s : String, s.toList.all (· != spc) = true → ∀ x ∈ s.toList, x ≠ spc := fun s h x hx => by
    have := List.all_eq_true.1 h x hx
    simpa using this
  simp only [String.toList_append, hs, List.append_assoc, List.cons_append, List.nil_append]
  rw [words_one _ _ (hne a ha), words_one _ _ (hne b hb), words_one _ _ (hne c hc)]

theorem head_eq : Try.checked.prog.initOrder = "harness" ++ " " ++ "a01801c0ba84468175e7c0f96f8538fde880e1bda57ea60504ee054e471d865c" ++ " " ++ "cut" ++ " " ++ "at outrigger/outriggerlaw11.CellIs outrigger/outriggerlaw11.CellOne outrigger/outriggerlaw11.CellSwap outrigger/outriggerlaw11.CellMore outrigger/outriggerlaw11.CellApart outrigger/outriggerlaw11.CellRuns outrigger/outriggerlaw12.TaskOne outrigger/outriggerlaw12.TaskEnds outrigger/outriggerlaw12.TaskParts outrigger/outriggerlaw12.TaskLoads outrigger/outriggerlaw12.TaskIs outrigger/outriggerlaw12.TaskApart outrigger/outriggerlaw15.SeqIs outrigger/outriggerlaw15.SeqWhole outrigger/outriggerlaw15.SeqAlone outrigger/outriggerlaw15.SeqEnds outrigger/outriggerlaw15.SeqApart outrigger/outriggerlaw14.RingIs outrigger/outriggerlaw14.RingTurns outrigger/outriggerlaw14.RingFull outrigger/outriggerlaw14.RingApart outrigger/outriggerlaw14.RingRound" := by kernel_rfl
theorem head_words : ∃ r, wordsSigns Try.checked.prog.initOrder.toList = "harness".toList :: "a01801c0ba84468175e7c0f96f8538fde880e1bda57ea60504ee054e471d865c".toList :: "cut".toList :: r :=
  ⟨_, by rw [head_eq]; exact words_three _ _ _ _ (by kernel_rfl) (by kernel_rfl) (by kernel_rfl)⟩
theorem head_cut : ∃ r, behindMainWord (wordsSigns Try.checked.prog.initOrder.toList) = "cut".toList :: r := by
  obtain ⟨r, h⟩ := head_words
  exact ⟨r, by rw [h]; kernel_rfl⟩

theorem pf_laidOut : laidOutB Try.checked.prog = true := by kernel_rfl
theorem pf_mapsRowed : mapsRowed Try.checked.prog = true := by kernel_rfl
theorem pf_stops : (Try.checked.prog.stops == []) = true := by kernel_rfl
theorem pf_stopKnobs : (Try.checked.prog.stopKnobs == []) = true := by kernel_rfl
theorem pf_stopsHeard : Try.checked.prog.stopsHeard = true := by kernel_rfl
theorem pf_laysLater : Try.checked.prog.laysLater = false := by kernel_rfl
theorem pf_bearsReflect : Try.checked.prog.bearsReflect = false := by kernel_rfl
theorem pf_doorFits : Try.checked.prog.doorFits [] = true := by kernel_rfl
theorem strip_cut (r : List (List Char)) : stripLifts liftWords ("cut".toList :: r) = ([], "cut".toList :: r) := by kernel_rfl
theorem mayEnter_of (P : Program) (h : ∃ r, behindMainWord (wordsSigns P.initOrder.toList) = "cut".toList :: r) (h1 : P.laysLater = false) (h2 : P.bearsReflect = false) (h3 : P.doorFits [] = true) : P.mayEnter = true := by
  obtain ⟨r, h⟩ := h
  unfold Program.mayEnter
  rw [h]
  simp only [strip_cut, h1, h2, h3]
  simp
theorem headLifts_of (P : Program) (h : ∃ r, behindMainWord (wordsSigns P.initOrder.toList) = "cut".toList :: r) : P.headLifts = [] := by
  obtain ⟨r, h⟩ := h
  unfold Program.headLifts
  simp only [h, strip_cut]
  simp
theorem cut_ne_carried : (some "cut".toList == some "carried".toList) = false := by kernel_rfl
theorem liftsFinal_of (P : Program) (h : ∃ r, behindMainWord (wordsSigns P.initOrder.toList) = "cut".toList :: r) : P.liftsFinal = false := by
  have hl := headLifts_of P h
  obtain ⟨r, h⟩ := h
  unfold Program.liftsFinal
  simp only [h, hl, List.head?_cons, cut_ne_carried]
  simp
theorem cut_facts : ("cut".toList == "gc".toList) = false ∧ ("cut".toList == "spec".toList) = false ∧ ("cut".toList == "cut".toList) = true := ⟨by kernel_rfl, by kernel_rfl, by kernel_rfl⟩
theorem make_of (P : Program) (h : ∃ r, behindMainWord (wordsSigns P.initOrder.toList) = "cut".toList :: r) : P.make = some .cut := by
  obtain ⟨r, h⟩ := h
  unfold Program.make
  simp only [h, cut_facts]
  simp
theorem pf_mayEnter : Try.checked.prog.mayEnter = true := mayEnter_of _ head_cut pf_laysLater pf_bearsReflect pf_doorFits
theorem pf_lifted : (false == Try.checked.prog.liftsFinal) = true := by rw [liftsFinal_of _ head_cut]; rfl
theorem pf_make : (Try.checked.prog.make == some .cut) = true := by rw [make_of _ head_cut]; rfl
theorem pf_plainKeys : (true == Try.checked.prog.plainKeys) = true := by kernel_rfl
end Go.Proofs.Ytpkelneimjmmkaa

/-
  No cell of these rows narrows 'for every input' (looked for: loops, veiled, ifaces, maps, wideKeys, modest, calm, conditions, laid).
  DERIVED. THE GIVEN ROWS OF THIS SEAT. 22 by the template 'for every input the law returns true; each argument reads behind the call as it read before'; 0 by the template 'total and deterministic' (their statements: YtpkelneimjmmkaaTotals.lean).
  GIVEN WITH THE SEED: the statements are not yours to turn. If you find one false, say at which input.
  Laid BY PROGRAM, IN A SANDBOX (cutbox-rows.mjs): the forced cells as the released guide's own fill.sh prints them over the translation 11044aa0cdeb876e… (all of the seat's roots in one cut). By AI agents, Wed Nov 11 2026. No macro, syntax, notation, axiom, sorry.
-/
import Derived.Test.YtpkelneimjmmkaaChecked
import GoSem.Claim
import GoSem.ClaimJoined
import GoSem.ClaimMapViews
import Derived.JoinedTies
import Derived.KernelRfl
namespace Go.Proofs.Ytpkelneimjmmkaa
/- THE CELL 'sum', in the pinned program and in every row, IS THE sha256 OF THE DUMP (.gsa) THAT YtpkelneimjmmkaaProg.lean LOADS. Nothing in Lean hashes anything: it is a label: what it is worth is what the hold of that sum in a sandbox is worth. -/
noncomputable def Try.pinned : Pinned := { name := "ytpkelneimjmmkaa", sum := "11044aa0cdeb876e04ec0776955637f258559434c452126faecad77c6315ad8b", checked := Try.checked }
namespace Rows
def none {H : Type} : Left H := { results := [], args := [] }

/-- 'outriggerlaw11.CellIs': WHATEVER THE INPUT: true; the input reads as it did. -/
def cellIsSpec : ChangeSpec := { name := "cellIs", fn := fun _ => fun
  | [d1, d2, d3] => { results := [.lit (.bool true)], args := [d1, d2, d3] }
  | _ => none }
def cellIsRow : OpenClaim := { program := "ytpkelneimjmmkaa", sum := "11044aa0cdeb876e04ec0776955637f258559434c452126faecad77c6315ad8b", func := "outrigger/outriggerlaw11.CellIs", spec := "cellIs", unfollowed := true, recurses := true, apart := false }
def CellIsSaid : Prop := cellIsRow.holds Try.pinned (OpenSpec.ofChange cellIsSpec)

/-- ITS FALSE NEIGHBOUR: 'it returns false'. Refute it at one input. -/
def cellIsWrong : ChangeSpec := { name := "cellIs", fn := fun _ => fun
  | [d1, d2, d3] => { results := [.lit (.bool false)], args := [d1, d2, d3] }
  | _ => none }
def CellIsWrongFalsely : Prop := cellIsRow.holds Try.pinned (OpenSpec.ofChange cellIsWrong)

/-- 'outriggerlaw11.CellOne': WHATEVER THE INPUT: true; the input reads as it did. -/
def cellOneSpec : ChangeSpec := { name := "cellOne", fn := fun _ => fun
  | [d1, d2] => { results := [.lit (.bool true)], args := [d1, d2] }
  | _ => none }
def cellOneRow : OpenClaim := { program := "ytpkelneimjmmkaa", sum := "11044aa0cdeb876e04ec0776955637f258559434c452126faecad77c6315ad8b", func := "outrigger/outriggerlaw11.CellOne", spec := "cellOne", unfollowed := true, recurses := true, apart := false }
def CellOneSaid : Prop := cellOneRow.holds Try.pinned (OpenSpec.ofChange cellOneSpec)

/-- ITS FALSE NEIGHBOUR: 'it returns false'. Refute it at one input. -/
def cellOneWrong : ChangeSpec := { name := "cellOne", fn := fun _ => fun
  | [d1, d2] => { results := [.lit (.bool false)], args := [d1, d2] }
  | _ => none }
def CellOneWrongFalsely : Prop := cellOneRow.holds Try.pinned (OpenSpec.ofChange cellOneWrong)

/-- 'outriggerlaw11.CellSwap': WHATEVER THE INPUT: true; the input reads as it did. -/
def cellSwapSpec : ChangeSpec := { name := "cellSwap", fn := fun _ => fun
  | [d1, d2, d3, d4, d5] => { results := [.lit (.bool true)], args := [d1, d2, d3, d4, d5] }
  | _ => none }
def cellSwapRow : OpenClaim := { program := "ytpkelneimjmmkaa", sum := "11044aa0cdeb876e04ec0776955637f258559434c452126faecad77c6315ad8b", func := "outrigger/outriggerlaw11.CellSwap", spec := "cellSwap", unfollowed := true, recurses := true, apart := false }
def CellSwapSaid : Prop := cellSwapRow.holds Try.pinned (OpenSpec.ofChange cellSwapSpec)

/-- ITS FALSE NEIGHBOUR: 'it returns false'. Refute it at one input. -/
def cellSwapWrong : ChangeSpec := { name := "cellSwap", fn := fun _ => fun
  | [d1, d2, d3, d4, d5] => { results := [.lit (.bool false)], args := [d1, d2, d3, d4, d5] }
  | _ => none }
def CellSwapWrongFalsely : Prop := cellSwapRow.holds Try.pinned (OpenSpec.ofChange cellSwapWrong)

/-- 'outriggerlaw11.CellMore': WHATEVER THE INPUT: true; the input reads as it did. -/
def cellMoreSpec : ChangeSpec := { name := "cellMore", fn := fun _ => fun
  | [d1, d2, d3, d4] => { results := [.lit (.bool true)], args := [d1, d2, d3, d4] }
  | _ => none }
def cellMoreRow : OpenClaim := { program := "ytpkelneimjmmkaa", sum := "11044aa0cdeb876e04ec0776955637f258559434c452126faecad77c6315ad8b", func := "outrigger/outriggerlaw11.CellMore", spec := "cellMore", unfollowed := true, recurses := true, apart := false }
def CellMoreSaid : Prop := cellMoreRow.holds Try.pinned (OpenSpec.ofChange cellMoreSpec)

/-- ITS FALSE NEIGHBOUR: 'it returns false'. Refute it at one input. -/
def cellMoreWrong : ChangeSpec := { name := "cellMore", fn := fun _ => fun
  | [d1, d2, d3, d4] => { results := [.lit (.bool false)], args := [d1, d2, d3, d4] }
  | _ => none }
def CellMoreWrongFalsely : Prop := cellMoreRow.holds Try.pinned (OpenSpec.ofChange cellMoreWrong)

/-- 'outriggerlaw11.CellApart': WHATEVER THE INPUT: true; the input reads as it did. -/
def cellApartSpec : ChangeSpec := { name := "cellApart", fn := fun _ => fun
  | [d1, d2, d3] => { results := [.lit (.bool true)], args := [d1, d2, d3] }
  | _ => none }
def cellApartRow : OpenClaim := { program := "ytpkelneimjmmkaa", sum := "11044aa0cdeb876e04ec0776955637f258559434c452126faecad77c6315ad8b", func := "outrigger/outriggerlaw11.CellApart", spec := "cellApart", unfollowed := true, recurses := true, apart := false }
def CellApartSaid : Prop := cellApartRow.holds Try.pinned (OpenSpec.ofChange cellApartSpec)

/-- ITS FALSE NEIGHBOUR: 'it returns false'. Refute it at one input. -/
def cellApartWrong : ChangeSpec := { name := "cellApart", fn := fun _ => fun
  | [d1, d2, d3] => { results := [.lit (.bool false)], args := [d1, d2, d3] }
  | _ => none }
def CellApartWrongFalsely : Prop := cellApartRow.holds Try.pinned (OpenSpec.ofChange cellApartWrong)

/-- 'outriggerlaw11.CellRuns': WHATEVER THE INPUT: true; the input reads as it did. -/
def cellRunsSpec : ChangeSpec := { name := "cellRuns", fn := fun _ => fun
  | [d1, d2, d3] => { results := [.lit (.bool true)], args := [d1, d2, d3] }
  | _ => none }
def cellRunsRow : OpenClaim := { program := "ytpkelneimjmmkaa", sum := "11044aa0cdeb876e04ec0776955637f258559434c452126faecad77c6315ad8b", func := "outrigger/outriggerlaw11.CellRuns", spec := "cellRuns", unfollowed := true, recurses := true, apart := false }
def CellRunsSaid : Prop := cellRunsRow.holds Try.pinned (OpenSpec.ofChange cellRunsSpec)

/-- ITS FALSE NEIGHBOUR: 'it returns false'. Refute it at one input. -/
def cellRunsWrong : ChangeSpec := { name := "cellRuns", fn := fun _ => fun
  | [d1, d2, d3] => { results := [.lit (.bool false)], args := [d1, d2, d3] }
  | _ => none }
def CellRunsWrongFalsely : Prop := cellRunsRow.holds Try.pinned (OpenSpec.ofChange cellRunsWrong)

/-- 'outriggerlaw12.TaskOne': WHATEVER THE INPUT: true; the input reads as it did. -/
def taskOneSpec : ChangeSpec := { name := "taskOne", fn := fun _ => fun
  | [d1, d2] => { results := [.lit (.bool true)], args := [d1, d2] }
  | _ => none }
def taskOneRow : OpenClaim := { program := "ytpkelneimjmmkaa", sum := "11044aa0cdeb876e04ec0776955637f258559434c452126faecad77c6315ad8b", func := "outrigger/outriggerlaw12.TaskOne", spec := "taskOne", unfollowed := true, recurses := true, apart := false }
def TaskOneSaid : Prop := taskOneRow.holds Try.pinned (OpenSpec.ofChange taskOneSpec)

/-- ITS FALSE NEIGHBOUR: 'it returns false'. Refute it at one input. -/
def taskOneWrong : ChangeSpec := { name := "taskOne", fn := fun _ => fun
  | [d1, d2] => { results := [.lit (.bool false)], args := [d1, d2] }
  | _ => none }
def TaskOneWrongFalsely : Prop := taskOneRow.holds Try.pinned (OpenSpec.ofChange taskOneWrong)

/-- 'outriggerlaw12.TaskEnds': WHATEVER THE INPUT: true; the input reads as it did. -/
def taskEndsSpec : ChangeSpec := { name := "taskEnds", fn := fun _ => fun
  | [d1, d2] => { results := [.lit (.bool true)], args := [d1, d2] }
  | _ => none }
def taskEndsRow : OpenClaim := { program := "ytpkelneimjmmkaa", sum := "11044aa0cdeb876e04ec0776955637f258559434c452126faecad77c6315ad8b", func := "outrigger/outriggerlaw12.TaskEnds", spec := "taskEnds", unfollowed := true, recurses := true, apart := false }
def TaskEndsSaid : Prop := taskEndsRow.holds Try.pinned (OpenSpec.ofChange taskEndsSpec)

/-- ITS FALSE NEIGHBOUR: 'it returns false'. Refute it at one input. -/
def taskEndsWrong : ChangeSpec := { name := "taskEnds", fn := fun _ => fun
  | [d1, d2] => { results := [.lit (.bool false)], args := [d1, d2] }
  | _ => none }
def TaskEndsWrongFalsely : Prop := taskEndsRow.holds Try.pinned (OpenSpec.ofChange taskEndsWrong)

/-- 'outriggerlaw12.TaskParts': WHATEVER THE INPUT: true; the input reads as it did. -/
def taskPartsSpec : ChangeSpec := { name := "taskParts", fn := fun _ => fun
  | [d1, d2, d3, d4] => { results := [.lit (.bool true)], args := [d1, d2, d3, d4] }
  | _ => none }
def taskPartsRow : OpenClaim := { program := "ytpkelneimjmmkaa", sum := "11044aa0cdeb876e04ec0776955637f258559434c452126faecad77c6315ad8b", func := "outrigger/outriggerlaw12.TaskParts", spec := "taskParts", unfollowed := true, recurses := true, apart := false }
def TaskPartsSaid : Prop := taskPartsRow.holds Try.pinned (OpenSpec.ofChange taskPartsSpec)

/-- ITS FALSE NEIGHBOUR: 'it returns false'. Refute it at one input. -/
def taskPartsWrong : ChangeSpec := { name := "taskParts", fn := fun _ => fun
  | [d1, d2, d3, d4] => { results := [.lit (.bool false)], args := [d1, d2, d3, d4] }
  | _ => none }
def TaskPartsWrongFalsely : Prop := taskPartsRow.holds Try.pinned (OpenSpec.ofChange taskPartsWrong)

/-- 'outriggerlaw12.TaskLoads': WHATEVER THE INPUT: true; the input reads as it did. -/
def taskLoadsSpec : ChangeSpec := { name := "taskLoads", fn := fun _ => fun
  | [d] => { results := [.lit (.bool true)], args := [d] }
  | _ => none }
def taskLoadsRow : OpenClaim := { program := "ytpkelneimjmmkaa", sum := "11044aa0cdeb876e04ec0776955637f258559434c452126faecad77c6315ad8b", func := "outrigger/outriggerlaw12.TaskLoads", spec := "taskLoads", unfollowed := true, recurses := true, apart := false }
def TaskLoadsSaid : Prop := taskLoadsRow.holds Try.pinned (OpenSpec.ofChange taskLoadsSpec)

/-- ITS FALSE NEIGHBOUR: 'it returns false'. Refute it at one input. -/
def taskLoadsWrong : ChangeSpec := { name := "taskLoads", fn := fun _ => fun
  | [d] => { results := [.lit (.bool false)], args := [d] }
  | _ => none }
def TaskLoadsWrongFalsely : Prop := taskLoadsRow.holds Try.pinned (OpenSpec.ofChange taskLoadsWrong)

/-- 'outriggerlaw12.TaskIs': WHATEVER THE INPUT: true; the input reads as it did. -/
def taskIsSpec : ChangeSpec := { name := "taskIs", fn := fun _ => fun
  | [d1, d2, d3, d4, d5] => { results := [.lit (.bool true)], args := [d1, d2, d3, d4, d5] }
  | _ => none }
def taskIsRow : OpenClaim := { program := "ytpkelneimjmmkaa", sum := "11044aa0cdeb876e04ec0776955637f258559434c452126faecad77c6315ad8b", func := "outrigger/outriggerlaw12.TaskIs", spec := "taskIs", unfollowed := true, recurses := true, apart := false }
def TaskIsSaid : Prop := taskIsRow.holds Try.pinned (OpenSpec.ofChange taskIsSpec)

/-- ITS FALSE NEIGHBOUR: 'it returns false'. Refute it at one input. -/
def taskIsWrong : ChangeSpec := { name := "taskIs", fn := fun _ => fun
  | [d1, d2, d3, d4, d5] => { results := [.lit (.bool false)], args := [d1, d2, d3, d4, d5] }
  | _ => none }
def TaskIsWrongFalsely : Prop := taskIsRow.holds Try.pinned (OpenSpec.ofChange taskIsWrong)

/-- 'outriggerlaw12.TaskApart': WHATEVER THE INPUT: true; the input reads as it did. -/
def taskApartSpec : ChangeSpec := { name := "taskApart", fn := fun _ => fun
  | [d1, d2, d3, d4] => { results := [.lit (.bool true)], args := [d1, d2, d3, d4] }
  | _ => none }
def taskApartRow : OpenClaim := { program := "ytpkelneimjmmkaa", sum := "11044aa0cdeb876e04ec0776955637f258559434c452126faecad77c6315ad8b", func := "outrigger/outriggerlaw12.TaskApart", spec := "taskApart", unfollowed := true, recurses := true, apart := false }
def TaskApartSaid : Prop := taskApartRow.holds Try.pinned (OpenSpec.ofChange taskApartSpec)

/-- ITS FALSE NEIGHBOUR: 'it returns false'. Refute it at one input. -/
def taskApartWrong : ChangeSpec := { name := "taskApart", fn := fun _ => fun
  | [d1, d2, d3, d4] => { results := [.lit (.bool false)], args := [d1, d2, d3, d4] }
  | _ => none }
def TaskApartWrongFalsely : Prop := taskApartRow.holds Try.pinned (OpenSpec.ofChange taskApartWrong)

/-- 'outriggerlaw15.SeqIs': WHATEVER THE INPUT: true; the input reads as it did. -/
def seqIsSpec : ChangeSpec := { name := "seqIs", fn := fun _ => fun
  | [d1, d2, d3, d4, d5] => { results := [.lit (.bool true)], args := [d1, d2, d3, d4, d5] }
  | _ => none }
def seqIsRow : OpenClaim := { program := "ytpkelneimjmmkaa", sum := "11044aa0cdeb876e04ec0776955637f258559434c452126faecad77c6315ad8b", func := "outrigger/outriggerlaw15.SeqIs", spec := "seqIs", unfollowed := true, recurses := true, apart := false }
def SeqIsSaid : Prop := seqIsRow.holds Try.pinned (OpenSpec.ofChange seqIsSpec)

/-- ITS FALSE NEIGHBOUR: 'it returns false'. Refute it at one input. -/
def seqIsWrong : ChangeSpec := { name := "seqIs", fn := fun _ => fun
  | [d1, d2, d3, d4, d5] => { results := [.lit (.bool false)], args := [d1, d2, d3, d4, d5] }
  | _ => none }
def SeqIsWrongFalsely : Prop := seqIsRow.holds Try.pinned (OpenSpec.ofChange seqIsWrong)

/-- 'outriggerlaw15.SeqWhole': WHATEVER THE INPUT: true; the input reads as it did. -/
def seqWholeSpec : ChangeSpec := { name := "seqWhole", fn := fun _ => fun
  | [d1, d2, d3] => { results := [.lit (.bool true)], args := [d1, d2, d3] }
  | _ => none }
def seqWholeRow : OpenClaim := { program := "ytpkelneimjmmkaa", sum := "11044aa0cdeb876e04ec0776955637f258559434c452126faecad77c6315ad8b", func := "outrigger/outriggerlaw15.SeqWhole", spec := "seqWhole", unfollowed := true, recurses := true, apart := false }
def SeqWholeSaid : Prop := seqWholeRow.holds Try.pinned (OpenSpec.ofChange seqWholeSpec)

/-- ITS FALSE NEIGHBOUR: 'it returns false'. Refute it at one input. -/
def seqWholeWrong : ChangeSpec := { name := "seqWhole", fn := fun _ => fun
  | [d1, d2, d3] => { results := [.lit (.bool false)], args := [d1, d2, d3] }
  | _ => none }
def SeqWholeWrongFalsely : Prop := seqWholeRow.holds Try.pinned (OpenSpec.ofChange seqWholeWrong)

/-- 'outriggerlaw15.SeqAlone': WHATEVER THE INPUT: true; the input reads as it did. -/
def seqAloneSpec : ChangeSpec := { name := "seqAlone", fn := fun _ => fun
  | [d1, d2, d3, d4] => { results := [.lit (.bool true)], args := [d1, d2, d3, d4] }
  | _ => none }
def seqAloneRow : OpenClaim := { program := "ytpkelneimjmmkaa", sum := "11044aa0cdeb876e04ec0776955637f258559434c452126faecad77c6315ad8b", func := "outrigger/outriggerlaw15.SeqAlone", spec := "seqAlone", unfollowed := true, recurses := true, apart := false }
def SeqAloneSaid : Prop := seqAloneRow.holds Try.pinned (OpenSpec.ofChange seqAloneSpec)

/-- ITS FALSE NEIGHBOUR: 'it returns false'. Refute it at one input. -/
def seqAloneWrong : ChangeSpec := { name := "seqAlone", fn := fun _ => fun
  | [d1, d2, d3, d4] => { results := [.lit (.bool false)], args := [d1, d2, d3, d4] }
  | _ => none }
def SeqAloneWrongFalsely : Prop := seqAloneRow.holds Try.pinned (OpenSpec.ofChange seqAloneWrong)

/-- 'outriggerlaw15.SeqEnds': WHATEVER THE INPUT: true; the input reads as it did. -/
def seqEndsSpec : ChangeSpec := { name := "seqEnds", fn := fun _ => fun
  | [d1, d2, d3] => { results := [.lit (.bool true)], args := [d1, d2, d3] }
  | _ => none }
def seqEndsRow : OpenClaim := { program := "ytpkelneimjmmkaa", sum := "11044aa0cdeb876e04ec0776955637f258559434c452126faecad77c6315ad8b", func := "outrigger/outriggerlaw15.SeqEnds", spec := "seqEnds", unfollowed := true, recurses := true, apart := false }
def SeqEndsSaid : Prop := seqEndsRow.holds Try.pinned (OpenSpec.ofChange seqEndsSpec)

/-- ITS FALSE NEIGHBOUR: 'it returns false'. Refute it at one input. -/
def seqEndsWrong : ChangeSpec := { name := "seqEnds", fn := fun _ => fun
  | [d1, d2, d3] => { results := [.lit (.bool false)], args := [d1, d2, d3] }
  | _ => none }
def SeqEndsWrongFalsely : Prop := seqEndsRow.holds Try.pinned (OpenSpec.ofChange seqEndsWrong)

/-- 'outriggerlaw15.SeqApart': WHATEVER THE INPUT: true; the input reads as it did. -/
def seqApartSpec : ChangeSpec := { name := "seqApart", fn := fun _ => fun
  | [d1, d2, d3, d4, d5] => { results := [.lit (.bool true)], args := [d1, d2, d3, d4, d5] }
  | _ => none }
def seqApartRow : OpenClaim := { program := "ytpkelneimjmmkaa", sum := "11044aa0cdeb876e04ec0776955637f258559434c452126faecad77c6315ad8b", func := "outrigger/outriggerlaw15.SeqApart", spec := "seqApart", unfollowed := true, recurses := true, apart := false }
def SeqApartSaid : Prop := seqApartRow.holds Try.pinned (OpenSpec.ofChange seqApartSpec)

/-- ITS FALSE NEIGHBOUR: 'it returns false'. Refute it at one input. -/
def seqApartWrong : ChangeSpec := { name := "seqApart", fn := fun _ => fun
  | [d1, d2, d3, d4, d5] => { results := [.lit (.bool false)], args := [d1, d2, d3, d4, d5] }
  | _ => none }
def SeqApartWrongFalsely : Prop := seqApartRow.holds Try.pinned (OpenSpec.ofChange seqApartWrong)

/-- 'outriggerlaw14.RingIs': WHATEVER THE INPUT: true; the input reads as it did. -/
def ringIsSpec : ChangeSpec := { name := "ringIs", fn := fun _ => fun
  | [d1, d2, d3, d4, d5] => { results := [.lit (.bool true)], args := [d1, d2, d3, d4, d5] }
  | _ => none }
def ringIsRow : OpenClaim := { program := "ytpkelneimjmmkaa", sum := "11044aa0cdeb876e04ec0776955637f258559434c452126faecad77c6315ad8b", func := "outrigger/outriggerlaw14.RingIs", spec := "ringIs", unfollowed := true, recurses := true, apart := false }
def RingIsSaid : Prop := ringIsRow.holds Try.pinned (OpenSpec.ofChange ringIsSpec)

/-- ITS FALSE NEIGHBOUR: 'it returns false'. Refute it at one input. -/
def ringIsWrong : ChangeSpec := { name := "ringIs", fn := fun _ => fun
  | [d1, d2, d3, d4, d5] => { results := [.lit (.bool false)], args := [d1, d2, d3, d4, d5] }
  | _ => none }
def RingIsWrongFalsely : Prop := ringIsRow.holds Try.pinned (OpenSpec.ofChange ringIsWrong)

/-- 'outriggerlaw14.RingTurns': WHATEVER THE INPUT: true; the input reads as it did. -/
def ringTurnsSpec : ChangeSpec := { name := "ringTurns", fn := fun _ => fun
  | [d1, d2, d3] => { results := [.lit (.bool true)], args := [d1, d2, d3] }
  | _ => none }
def ringTurnsRow : OpenClaim := { program := "ytpkelneimjmmkaa", sum := "11044aa0cdeb876e04ec0776955637f258559434c452126faecad77c6315ad8b", func := "outrigger/outriggerlaw14.RingTurns", spec := "ringTurns", unfollowed := true, recurses := true, apart := false }
def RingTurnsSaid : Prop := ringTurnsRow.holds Try.pinned (OpenSpec.ofChange ringTurnsSpec)

/-- ITS FALSE NEIGHBOUR: 'it returns false'. Refute it at one input. -/
def ringTurnsWrong : ChangeSpec := { name := "ringTurns", fn := fun _ => fun
  | [d1, d2, d3] => { results := [.lit (.bool false)], args := [d1, d2, d3] }
  | _ => none }
def RingTurnsWrongFalsely : Prop := ringTurnsRow.holds Try.pinned (OpenSpec.ofChange ringTurnsWrong)

/-- 'outriggerlaw14.RingFull': WHATEVER THE INPUT: true; the input reads as it did. -/
def ringFullSpec : ChangeSpec := { name := "ringFull", fn := fun _ => fun
  | [d1, d2, d3] => { results := [.lit (.bool true)], args := [d1, d2, d3] }
  | _ => none }
def ringFullRow : OpenClaim := { program := "ytpkelneimjmmkaa", sum := "11044aa0cdeb876e04ec0776955637f258559434c452126faecad77c6315ad8b", func := "outrigger/outriggerlaw14.RingFull", spec := "ringFull", unfollowed := true, recurses := true, apart := false }
def RingFullSaid : Prop := ringFullRow.holds Try.pinned (OpenSpec.ofChange ringFullSpec)

/-- ITS FALSE NEIGHBOUR: 'it returns false'. Refute it at one input. -/
def ringFullWrong : ChangeSpec := { name := "ringFull", fn := fun _ => fun
  | [d1, d2, d3] => { results := [.lit (.bool false)], args := [d1, d2, d3] }
  | _ => none }
def RingFullWrongFalsely : Prop := ringFullRow.holds Try.pinned (OpenSpec.ofChange ringFullWrong)

/-- 'outriggerlaw14.RingApart': WHATEVER THE INPUT: true; the input reads as it did. -/
def ringApartSpec : ChangeSpec := { name := "ringApart", fn := fun _ => fun
  | [d1, d2, d3, d4] => { results := [.lit (.bool true)], args := [d1, d2, d3, d4] }
  | _ => none }
def ringApartRow : OpenClaim := { program := "ytpkelneimjmmkaa", sum := "11044aa0cdeb876e04ec0776955637f258559434c452126faecad77c6315ad8b", func := "outrigger/outriggerlaw14.RingApart", spec := "ringApart", unfollowed := true, recurses := true, apart := false }
def RingApartSaid : Prop := ringApartRow.holds Try.pinned (OpenSpec.ofChange ringApartSpec)

/-- ITS FALSE NEIGHBOUR: 'it returns false'. Refute it at one input. -/
def ringApartWrong : ChangeSpec := { name := "ringApart", fn := fun _ => fun
  | [d1, d2, d3, d4] => { results := [.lit (.bool false)], args := [d1, d2, d3, d4] }
  | _ => none }
def RingApartWrongFalsely : Prop := ringApartRow.holds Try.pinned (OpenSpec.ofChange ringApartWrong)

/-- 'outriggerlaw14.RingRound': WHATEVER THE INPUT: true; the input reads as it did. -/
def ringRoundSpec : ChangeSpec := { name := "ringRound", fn := fun _ => fun
  | [d1, d2, d3] => { results := [.lit (.bool true)], args := [d1, d2, d3] }
  | _ => none }
def ringRoundRow : OpenClaim := { program := "ytpkelneimjmmkaa", sum := "11044aa0cdeb876e04ec0776955637f258559434c452126faecad77c6315ad8b", func := "outrigger/outriggerlaw14.RingRound", spec := "ringRound", unfollowed := true, recurses := true, apart := false }
def RingRoundSaid : Prop := ringRoundRow.holds Try.pinned (OpenSpec.ofChange ringRoundSpec)

/-- ITS FALSE NEIGHBOUR: 'it returns false'. Refute it at one input. -/
def ringRoundWrong : ChangeSpec := { name := "ringRound", fn := fun _ => fun
  | [d1, d2, d3] => { results := [.lit (.bool false)], args := [d1, d2, d3] }
  | _ => none }
def RingRoundWrongFalsely : Prop := ringRoundRow.holds Try.pinned (OpenSpec.ofChange ringRoundWrong)

/- THE SECOND FORM. 'bulk': how many values and letters a reading holds, each counted each time it is reached (what is shared counts as often as it is met; a slice's spare places count too). A statement '..UptoSaid' is the law's where the arguments, and the package variables that the reading takes, are together of bulk at most 1048576: NARROWER than '..Said'. Prove '..Said' where nothing that the law and all that it calls make is longer than what came in: it says more and counts as full. Else prove '..UptoSaid'. A law counts once. -/
mutual
def uptoBulk {H : Type} : DataW H → Nat
  | .lit (.string bytes) => bytes.length + 1
  | .lit _ => 1
  | .nil => 1
  | .ptr d => uptoBulk d + 1
  | .slice elems spare => uptoBulkAll elems + uptoBulkAll spare + 1
  | .agg parts => uptoBulkAll parts + 1
  | .iface _ d => uptoBulk d + 1
  | .map entries => uptoBulkEntries entries + 1
  | .held _ => 1
def uptoBulkAll {H : Type} : List (DataW H) → Nat
  | [] => 0
  | d :: r => uptoBulk d + uptoBulkAll r
def uptoBulkEntries {H : Type} : List (Lit × DataW H) → Nat
  | [] => 0
  | x :: r => uptoBulkEntry x + uptoBulkEntries r
def uptoBulkEntry {H : Type} : Lit × DataW H → Nat
  | (.string bytes, d) => bytes.length + uptoBulk d + 1
  | (_, d) => uptoBulk d + 1
 end
def uptoSmall : (H : Type) → List (DataW H) → Bool := fun _ ds => decide (uptoBulkAll ds ≤ 1048576)
def OpenSpec.upto (s : _root_.Go.ChangeSpec) : _root_.Go.OpenSpec := { _root_.Go.OpenSpec.ofChange s with cond := some uptoSmall }

/-- 'outriggerlaw11.CellIs', WHERE WHAT IT READS IS OF BULK AT MOST 1048576: true; the input reads as it did. -/
def cellIsUptoRow : OpenClaim := { program := "ytpkelneimjmmkaa", sum := "11044aa0cdeb876e04ec0776955637f258559434c452126faecad77c6315ad8b", func := "outrigger/outriggerlaw11.CellIs", spec := "cellIs", unfollowed := true, recurses := true, apart := false, narrowed := true }
def CellIsUptoSaid : Prop := cellIsUptoRow.holds Try.pinned (OpenSpec.upto cellIsSpec)

/-- 'outriggerlaw11.CellOne', WHERE WHAT IT READS IS OF BULK AT MOST 1048576: true; the input reads as it did. -/
def cellOneUptoRow : OpenClaim := { program := "ytpkelneimjmmkaa", sum := "11044aa0cdeb876e04ec0776955637f258559434c452126faecad77c6315ad8b", func := "outrigger/outriggerlaw11.CellOne", spec := "cellOne", unfollowed := true, recurses := true, apart := false, narrowed := true }
def CellOneUptoSaid : Prop := cellOneUptoRow.holds Try.pinned (OpenSpec.upto cellOneSpec)

/-- 'outriggerlaw11.CellSwap', WHERE WHAT IT READS IS OF BULK AT MOST 1048576: true; the input reads as it did. -/
def cellSwapUptoRow : OpenClaim := { program := "ytpkelneimjmmkaa", sum := "11044aa0cdeb876e04ec0776955637f258559434c452126faecad77c6315ad8b", func := "outrigger/outriggerlaw11.CellSwap", spec := "cellSwap", unfollowed := true, recurses := true, apart := false, narrowed := true }
def CellSwapUptoSaid : Prop := cellSwapUptoRow.holds Try.pinned (OpenSpec.upto cellSwapSpec)

/-- 'outriggerlaw11.CellMore', WHERE WHAT IT READS IS OF BULK AT MOST 1048576: true; the input reads as it did. -/
def cellMoreUptoRow : OpenClaim := { program := "ytpkelneimjmmkaa", sum := "11044aa0cdeb876e04ec0776955637f258559434c452126faecad77c6315ad8b", func := "outrigger/outriggerlaw11.CellMore", spec := "cellMore", unfollowed := true, recurses := true, apart := false, narrowed := true }
def CellMoreUptoSaid : Prop := cellMoreUptoRow.holds Try.pinned (OpenSpec.upto cellMoreSpec)

/-- 'outriggerlaw11.CellApart', WHERE WHAT IT READS IS OF BULK AT MOST 1048576: true; the input reads as it did. -/
def cellApartUptoRow : OpenClaim := { program := "ytpkelneimjmmkaa", sum := "11044aa0cdeb876e04ec0776955637f258559434c452126faecad77c6315ad8b", func := "outrigger/outriggerlaw11.CellApart", spec := "cellApart", unfollowed := true, recurses := true, apart := false, narrowed := true }
def CellApartUptoSaid : Prop := cellApartUptoRow.holds Try.pinned (OpenSpec.upto cellApartSpec)

/-- 'outriggerlaw11.CellRuns', WHERE WHAT IT READS IS OF BULK AT MOST 1048576: true; the input reads as it did. -/
def cellRunsUptoRow : OpenClaim := { program := "ytpkelneimjmmkaa", sum := "11044aa0cdeb876e04ec0776955637f258559434c452126faecad77c6315ad8b", func := "outrigger/outriggerlaw11.CellRuns", spec := "cellRuns", unfollowed := true, recurses := true, apart := false, narrowed := true }
def CellRunsUptoSaid : Prop := cellRunsUptoRow.holds Try.pinned (OpenSpec.upto cellRunsSpec)

/-- 'outriggerlaw12.TaskOne', WHERE WHAT IT READS IS OF BULK AT MOST 1048576: true; the input reads as it did. -/
def taskOneUptoRow : OpenClaim := { program := "ytpkelneimjmmkaa", sum := "11044aa0cdeb876e04ec0776955637f258559434c452126faecad77c6315ad8b", func := "outrigger/outriggerlaw12.TaskOne", spec := "taskOne", unfollowed := true, recurses := true, apart := false, narrowed := true }
def TaskOneUptoSaid : Prop := taskOneUptoRow.holds Try.pinned (OpenSpec.upto taskOneSpec)

/-- 'outriggerlaw12.TaskEnds', WHERE WHAT IT READS IS OF BULK AT MOST 1048576: true; the input reads as it did. -/
def taskEndsUptoRow : OpenClaim := { program := "ytpkelneimjmmkaa", sum := "11044aa0cdeb876e04ec0776955637f258559434c452126faecad77c6315ad8b", func := "outrigger/outriggerlaw12.TaskEnds", spec := "taskEnds", unfollowed := true, recurses := true, apart := false, narrowed := true }
def TaskEndsUptoSaid : Prop := taskEndsUptoRow.holds Try.pinned (OpenSpec.upto taskEndsSpec)

/-- 'outriggerlaw12.TaskParts', WHERE WHAT IT READS IS OF BULK AT MOST 1048576: true; the input reads as it did. -/
def taskPartsUptoRow : OpenClaim := { program := "ytpkelneimjmmkaa", sum := "11044aa0cdeb876e04ec0776955637f258559434c452126faecad77c6315ad8b", func := "outrigger/outriggerlaw12.TaskParts", spec := "taskParts", unfollowed := true, recurses := true, apart := false, narrowed := true }
def TaskPartsUptoSaid : Prop := taskPartsUptoRow.holds Try.pinned (OpenSpec.upto taskPartsSpec)

/-- 'outriggerlaw12.TaskLoads', WHERE WHAT IT READS IS OF BULK AT MOST 1048576: true; the input reads as it did. -/
def taskLoadsUptoRow : OpenClaim := { program := "ytpkelneimjmmkaa", sum := "11044aa0cdeb876e04ec0776955637f258559434c452126faecad77c6315ad8b", func := "outrigger/outriggerlaw12.TaskLoads", spec := "taskLoads", unfollowed := true, recurses := true, apart := false, narrowed := true }
def TaskLoadsUptoSaid : Prop := taskLoadsUptoRow.holds Try.pinned (OpenSpec.upto taskLoadsSpec)

/-- 'outriggerlaw12.TaskIs', WHERE WHAT IT READS IS OF BULK AT MOST 1048576: true; the input reads as it did. -/
def taskIsUptoRow : OpenClaim := { program := "ytpkelneimjmmkaa", sum := "11044aa0cdeb876e04ec0776955637f258559434c452126faecad77c6315ad8b", func := "outrigger/outriggerlaw12.TaskIs", spec := "taskIs", unfollowed := true, recurses := true, apart := false, narrowed := true }
def TaskIsUptoSaid : Prop := taskIsUptoRow.holds Try.pinned (OpenSpec.upto taskIsSpec)

/-- 'outriggerlaw12.TaskApart', WHERE WHAT IT READS IS OF BULK AT MOST 1048576: true; the input reads as it did. -/
def taskApartUptoRow : OpenClaim := { program := "ytpkelneimjmmkaa", sum := "11044aa0cdeb876e04ec0776955637f258559434c452126faecad77c6315ad8b", func := "outrigger/outriggerlaw12.TaskApart", spec := "taskApart", unfollowed := true, recurses := true, apart := false, narrowed := true }
def TaskApartUptoSaid : Prop := taskApartUptoRow.holds Try.pinned (OpenSpec.upto taskApartSpec)

/-- 'outriggerlaw15.SeqIs', WHERE WHAT IT READS IS OF BULK AT MOST 1048576: true; the input reads as it did. -/
def seqIsUptoRow : OpenClaim := { program := "ytpkelneimjmmkaa", sum := "11044aa0cdeb876e04ec0776955637f258559434c452126faecad77c6315ad8b", func := "outrigger/outriggerlaw15.SeqIs", spec := "seqIs", unfollowed := true, recurses := true, apart := false, narrowed := true }
def SeqIsUptoSaid : Prop := seqIsUptoRow.holds Try.pinned (OpenSpec.upto seqIsSpec)

/-- 'outriggerlaw15.SeqWhole', WHERE WHAT IT READS IS OF BULK AT MOST 1048576: true; the input reads as it did. -/
def seqWholeUptoRow : OpenClaim := { program := "ytpkelneimjmmkaa", sum := "11044aa0cdeb876e04ec0776955637f258559434c452126faecad77c6315ad8b", func := "outrigger/outriggerlaw15.SeqWhole", spec := "seqWhole", unfollowed := true, recurses := true, apart := false, narrowed := true }
def SeqWholeUptoSaid : Prop := seqWholeUptoRow.holds Try.pinned (OpenSpec.upto seqWholeSpec)

/-- 'outriggerlaw15.SeqAlone', WHERE WHAT IT READS IS OF BULK AT MOST 1048576: true; the input reads as it did. -/
def seqAloneUptoRow : OpenClaim := { program := "ytpkelneimjmmkaa", sum := "11044aa0cdeb876e04ec0776955637f258559434c452126faecad77c6315ad8b", func := "outrigger/outriggerlaw15.SeqAlone", spec := "seqAlone", unfollowed := true, recurses := true, apart := false, narrowed := true }
def SeqAloneUptoSaid : Prop := seqAloneUptoRow.holds Try.pinned (OpenSpec.upto seqAloneSpec)

/-- 'outriggerlaw15.SeqEnds', WHERE WHAT IT READS IS OF BULK AT MOST 1048576: true; the input reads as it did. -/
def seqEndsUptoRow : OpenClaim := { program := "ytpkelneimjmmkaa", sum := "11044aa0cdeb876e04ec0776955637f258559434c452126faecad77c6315ad8b", func := "outrigger/outriggerlaw15.SeqEnds", spec := "seqEnds", unfollowed := true, recurses := true, apart := false, narrowed := true }
def SeqEndsUptoSaid : Prop := seqEndsUptoRow.holds Try.pinned (OpenSpec.upto seqEndsSpec)

/-- 'outriggerlaw15.SeqApart', WHERE WHAT IT READS IS OF BULK AT MOST 1048576: true; the input reads as it did. -/
def seqApartUptoRow : OpenClaim := { program := "ytpkelneimjmmkaa", sum := "11044aa0cdeb876e04ec0776955637f258559434c452126faecad77c6315ad8b", func := "outrigger/outriggerlaw15.SeqApart", spec := "seqApart", unfollowed := true, recurses := true, apart := false, narrowed := true }
def SeqApartUptoSaid : Prop := seqApartUptoRow.holds Try.pinned (OpenSpec.upto seqApartSpec)

/-- 'outriggerlaw14.RingIs', WHERE WHAT IT READS IS OF BULK AT MOST 1048576: true; the input reads as it did. -/
def ringIsUptoRow : OpenClaim := { program := "ytpkelneimjmmkaa", sum := "11044aa0cdeb876e04ec0776955637f258559434c452126faecad77c6315ad8b", func := "outrigger/outriggerlaw14.RingIs", spec := "ringIs", unfollowed := true, recurses := true, apart := false, narrowed := true }
def RingIsUptoSaid : Prop := ringIsUptoRow.holds Try.pinned (OpenSpec.upto ringIsSpec)

/-- 'outriggerlaw14.RingTurns', WHERE WHAT IT READS IS OF BULK AT MOST 1048576: true; the input reads as it did. -/
def ringTurnsUptoRow : OpenClaim := { program := "ytpkelneimjmmkaa", sum := "11044aa0cdeb876e04ec0776955637f258559434c452126faecad77c6315ad8b", func := "outrigger/outriggerlaw14.RingTurns", spec := "ringTurns", unfollowed := true, recurses := true, apart := false, narrowed := true }
def RingTurnsUptoSaid : Prop := ringTurnsUptoRow.holds Try.pinned (OpenSpec.upto ringTurnsSpec)

/-- 'outriggerlaw14.RingFull', WHERE WHAT IT READS IS OF BULK AT MOST 1048576: true; the input reads as it did. -/
def ringFullUptoRow : OpenClaim := { program := "ytpkelneimjmmkaa", sum := "11044aa0cdeb876e04ec0776955637f258559434c452126faecad77c6315ad8b", func := "outrigger/outriggerlaw14.RingFull", spec := "ringFull", unfollowed := true, recurses := true, apart := false, narrowed := true }
def RingFullUptoSaid : Prop := ringFullUptoRow.holds Try.pinned (OpenSpec.upto ringFullSpec)

/-- 'outriggerlaw14.RingApart', WHERE WHAT IT READS IS OF BULK AT MOST 1048576: true; the input reads as it did. -/
def ringApartUptoRow : OpenClaim := { program := "ytpkelneimjmmkaa", sum := "11044aa0cdeb876e04ec0776955637f258559434c452126faecad77c6315ad8b", func := "outrigger/outriggerlaw14.RingApart", spec := "ringApart", unfollowed := true, recurses := true, apart := false, narrowed := true }
def RingApartUptoSaid : Prop := ringApartUptoRow.holds Try.pinned (OpenSpec.upto ringApartSpec)

/-- 'outriggerlaw14.RingRound', WHERE WHAT IT READS IS OF BULK AT MOST 1048576: true; the input reads as it did. -/
def ringRoundUptoRow : OpenClaim := { program := "ytpkelneimjmmkaa", sum := "11044aa0cdeb876e04ec0776955637f258559434c452126faecad77c6315ad8b", func := "outrigger/outriggerlaw14.RingRound", spec := "ringRound", unfollowed := true, recurses := true, apart := false, narrowed := true }
def RingRoundUptoSaid : Prop := ringRoundUptoRow.holds Try.pinned (OpenSpec.upto ringRoundSpec)

end Rows
end Go.Proofs.Ytpkelneimjmmkaa

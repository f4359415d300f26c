/-
  No cell of these rows narrows 'for every input' (looked for: loops, veiled, ifaces, maps, wideKeys, modest, calm, conditions, laid).
  DERIVED. THE GIVEN ROWS OF THIS SEAT. 9 by the template 'for every input the law returns true; each argument reads behind the call as it read before'; 0 by the template 'total and deterministic' (their statements: YtllnlmcofaomlaaTotals.lean).
  GIVEN WITH THE SEED: the statements are not yours to turn. If you find one false, say at which input.
  Laid BY PROGRAM, IN A SANDBOX (cutbox-rows.mjs): the forced cells as the released guide's own fill.sh prints them over the translation de710b2538cbd3d2… (all of the seat's roots in one cut). By AI agents, Wed Nov 11 2026. No macro, syntax, notation, axiom, sorry.
-/
import Derived.Test.YtllnlmcofaomlaaChecked
import GoSem.Claim
import GoSem.ClaimJoined
import GoSem.ClaimMapViews
import Derived.JoinedTies
import Derived.KernelRfl
namespace Go.Proofs.Ytllnlmcofaomlaa
/- THE CELL 'sum', in the pinned program and in every row, IS THE sha256 OF THE DUMP (.gsa) THAT YtllnlmcofaomlaaProg.lean LOADS. Nothing in Lean hashes anything: it is a label: what it is worth is what the hold of that sum in a sandbox is worth. -/
noncomputable def Try.pinned : Pinned := { name := "ytllnlmcofaomlaa", sum := "de710b2538cbd3d22a25bf8be0b4fd815f2be115c9a657ce77ae5f9f86014077", checked := Try.checked }
namespace Rows
def none {H : Type} : Left H := { results := [], args := [] }

/-- 'taskmasterlaw11.ActiveTells': WHATEVER THE INPUT: true; the input reads as it did. -/
def activeTellsSpec : ChangeSpec := { name := "activeTells", fn := fun _ => fun
  | [d1, d2, d3] => { results := [.lit (.bool true)], args := [d1, d2, d3] }
  | _ => none }
def activeTellsRow : OpenClaim := { program := "ytllnlmcofaomlaa", sum := "de710b2538cbd3d22a25bf8be0b4fd815f2be115c9a657ce77ae5f9f86014077", func := "taskmaster/taskmasterlaw11.ActiveTells", spec := "activeTells", inPlace := ["math.archTrunc", "math.Float64bits", "math.Float64frombits"], unfollowed := true, recurses := true, apart := false }
def ActiveTellsSaid : Prop := activeTellsRow.holds Try.pinned (OpenSpec.ofChange activeTellsSpec)

/-- ITS FALSE NEIGHBOUR: 'it returns false'. Refute it at one input. -/
def activeTellsWrong : ChangeSpec := { name := "activeTells", fn := fun _ => fun
  | [d1, d2, d3] => { results := [.lit (.bool false)], args := [d1, d2, d3] }
  | _ => none }
def ActiveTellsWrongFalsely : Prop := activeTellsRow.holds Try.pinned (OpenSpec.ofChange activeTellsWrong)

/-- 'taskmasterlaw11.ActiveLess': WHATEVER THE INPUT: true; the input reads as it did. -/
def activeLessSpec : ChangeSpec := { name := "activeLess", fn := fun _ => fun
  | [d1, d2, d3, d4] => { results := [.lit (.bool true)], args := [d1, d2, d3, d4] }
  | _ => none }
def activeLessRow : OpenClaim := { program := "ytllnlmcofaomlaa", sum := "de710b2538cbd3d22a25bf8be0b4fd815f2be115c9a657ce77ae5f9f86014077", func := "taskmaster/taskmasterlaw11.ActiveLess", spec := "activeLess", inPlace := ["math.archTrunc", "math.Float64bits", "math.Float64frombits"], unfollowed := true, recurses := true, apart := false }
def ActiveLessSaid : Prop := activeLessRow.holds Try.pinned (OpenSpec.ofChange activeLessSpec)

/-- ITS FALSE NEIGHBOUR: 'it returns false'. Refute it at one input. -/
def activeLessWrong : ChangeSpec := { name := "activeLess", fn := fun _ => fun
  | [d1, d2, d3, d4] => { results := [.lit (.bool false)], args := [d1, d2, d3, d4] }
  | _ => none }
def ActiveLessWrongFalsely : Prop := activeLessRow.holds Try.pinned (OpenSpec.ofChange activeLessWrong)

/-- 'taskmasterlaw11.ActiveDown': WHATEVER THE INPUT: true; the input reads as it did. -/
def activeDownSpec : ChangeSpec := { name := "activeDown", fn := fun _ => fun
  | [d1, d2] => { results := [.lit (.bool true)], args := [d1, d2] }
  | _ => none }
def activeDownRow : OpenClaim := { program := "ytllnlmcofaomlaa", sum := "de710b2538cbd3d22a25bf8be0b4fd815f2be115c9a657ce77ae5f9f86014077", func := "taskmaster/taskmasterlaw11.ActiveDown", spec := "activeDown", inPlace := ["math.archTrunc", "math.Float64bits", "math.Float64frombits"], unfollowed := true, recurses := true, apart := false }
def ActiveDownSaid : Prop := activeDownRow.holds Try.pinned (OpenSpec.ofChange activeDownSpec)

/-- ITS FALSE NEIGHBOUR: 'it returns false'. Refute it at one input. -/
def activeDownWrong : ChangeSpec := { name := "activeDown", fn := fun _ => fun
  | [d1, d2] => { results := [.lit (.bool false)], args := [d1, d2] }
  | _ => none }
def ActiveDownWrongFalsely : Prop := activeDownRow.holds Try.pinned (OpenSpec.ofChange activeDownWrong)

/-- 'taskmasterlaw11.ActiveSum': WHATEVER THE INPUT: true; the input reads as it did. -/
def activeSumSpec : ChangeSpec := { name := "activeSum", fn := fun _ => fun
  | [d1, d2, d3] => { results := [.lit (.bool true)], args := [d1, d2, d3] }
  | _ => none }
def activeSumRow : OpenClaim := { program := "ytllnlmcofaomlaa", sum := "de710b2538cbd3d22a25bf8be0b4fd815f2be115c9a657ce77ae5f9f86014077", func := "taskmaster/taskmasterlaw11.ActiveSum", spec := "activeSum", inPlace := ["math.archTrunc", "math.Float64bits", "math.Float64frombits"], unfollowed := true, recurses := true, apart := false }
def ActiveSumSaid : Prop := activeSumRow.holds Try.pinned (OpenSpec.ofChange activeSumSpec)

/-- ITS FALSE NEIGHBOUR: 'it returns false'. Refute it at one input. -/
def activeSumWrong : ChangeSpec := { name := "activeSum", fn := fun _ => fun
  | [d1, d2, d3] => { results := [.lit (.bool false)], args := [d1, d2, d3] }
  | _ => none }
def ActiveSumWrongFalsely : Prop := activeSumRow.holds Try.pinned (OpenSpec.ofChange activeSumWrong)

/-- 'taskmasterlaw12.RespTells': WHATEVER THE INPUT: true; the input reads as it did. -/
def respTellsSpec : ChangeSpec := { name := "respTells", fn := fun _ => fun
  | [d1, d2, d3] => { results := [.lit (.bool true)], args := [d1, d2, d3] }
  | _ => none }
def respTellsRow : OpenClaim := { program := "ytllnlmcofaomlaa", sum := "de710b2538cbd3d22a25bf8be0b4fd815f2be115c9a657ce77ae5f9f86014077", func := "taskmaster/taskmasterlaw12.RespTells", spec := "respTells", inPlace := ["math.archTrunc", "math.Float64bits", "math.Float64frombits"], unfollowed := true, recurses := true, apart := false }
def RespTellsSaid : Prop := respTellsRow.holds Try.pinned (OpenSpec.ofChange respTellsSpec)

/-- ITS FALSE NEIGHBOUR: 'it returns false'. Refute it at one input. -/
def respTellsWrong : ChangeSpec := { name := "respTells", fn := fun _ => fun
  | [d1, d2, d3] => { results := [.lit (.bool false)], args := [d1, d2, d3] }
  | _ => none }
def RespTellsWrongFalsely : Prop := respTellsRow.holds Try.pinned (OpenSpec.ofChange respTellsWrong)

/-- 'taskmasterlaw12.RespLess': WHATEVER THE INPUT: true; the input reads as it did. -/
def respLessSpec : ChangeSpec := { name := "respLess", fn := fun _ => fun
  | [d1, d2, d3, d4] => { results := [.lit (.bool true)], args := [d1, d2, d3, d4] }
  | _ => none }
def respLessRow : OpenClaim := { program := "ytllnlmcofaomlaa", sum := "de710b2538cbd3d22a25bf8be0b4fd815f2be115c9a657ce77ae5f9f86014077", func := "taskmaster/taskmasterlaw12.RespLess", spec := "respLess", inPlace := ["math.archTrunc", "math.Float64bits", "math.Float64frombits"], unfollowed := true, recurses := true, apart := false }
def RespLessSaid : Prop := respLessRow.holds Try.pinned (OpenSpec.ofChange respLessSpec)

/-- ITS FALSE NEIGHBOUR: 'it returns false'. Refute it at one input. -/
def respLessWrong : ChangeSpec := { name := "respLess", fn := fun _ => fun
  | [d1, d2, d3, d4] => { results := [.lit (.bool false)], args := [d1, d2, d3, d4] }
  | _ => none }
def RespLessWrongFalsely : Prop := respLessRow.holds Try.pinned (OpenSpec.ofChange respLessWrong)

/-- 'taskmasterlaw12.RespWork': WHATEVER THE INPUT: true; the input reads as it did. -/
def respWorkSpec : ChangeSpec := { name := "respWork", fn := fun _ => fun
  | [d1, d2, d3] => { results := [.lit (.bool true)], args := [d1, d2, d3] }
  | _ => none }
def respWorkRow : OpenClaim := { program := "ytllnlmcofaomlaa", sum := "de710b2538cbd3d22a25bf8be0b4fd815f2be115c9a657ce77ae5f9f86014077", func := "taskmaster/taskmasterlaw12.RespWork", spec := "respWork", inPlace := ["math.archTrunc", "math.Float64bits", "math.Float64frombits"], unfollowed := true, recurses := true, apart := false }
def RespWorkSaid : Prop := respWorkRow.holds Try.pinned (OpenSpec.ofChange respWorkSpec)

/-- ITS FALSE NEIGHBOUR: 'it returns false'. Refute it at one input. -/
def respWorkWrong : ChangeSpec := { name := "respWork", fn := fun _ => fun
  | [d1, d2, d3] => { results := [.lit (.bool false)], args := [d1, d2, d3] }
  | _ => none }
def RespWorkWrongFalsely : Prop := respWorkRow.holds Try.pinned (OpenSpec.ofChange respWorkWrong)

/-- 'taskmasterlaw12.RespBusy': WHATEVER THE INPUT: true; the input reads as it did. -/
def respBusySpec : ChangeSpec := { name := "respBusy", fn := fun _ => fun
  | [d1, d2, d3] => { results := [.lit (.bool true)], args := [d1, d2, d3] }
  | _ => none }
def respBusyRow : OpenClaim := { program := "ytllnlmcofaomlaa", sum := "de710b2538cbd3d22a25bf8be0b4fd815f2be115c9a657ce77ae5f9f86014077", func := "taskmaster/taskmasterlaw12.RespBusy", spec := "respBusy", inPlace := ["math.archTrunc", "math.Float64bits", "math.Float64frombits"], unfollowed := true, recurses := true, apart := false }
def RespBusySaid : Prop := respBusyRow.holds Try.pinned (OpenSpec.ofChange respBusySpec)

/-- ITS FALSE NEIGHBOUR: 'it returns false'. Refute it at one input. -/
def respBusyWrong : ChangeSpec := { name := "respBusy", fn := fun _ => fun
  | [d1, d2, d3] => { results := [.lit (.bool false)], args := [d1, d2, d3] }
  | _ => none }
def RespBusyWrongFalsely : Prop := respBusyRow.holds Try.pinned (OpenSpec.ofChange respBusyWrong)

/-- 'taskmasterlaw12.RespKnown': WHATEVER THE INPUT: true; the input reads as it did. -/
def respKnownSpec : ChangeSpec := { name := "respKnown", fn := fun _ => fun
  | [d] => { results := [.lit (.bool true)], args := [d] }
  | _ => none }
def respKnownRow : OpenClaim := { program := "ytllnlmcofaomlaa", sum := "de710b2538cbd3d22a25bf8be0b4fd815f2be115c9a657ce77ae5f9f86014077", func := "taskmaster/taskmasterlaw12.RespKnown", spec := "respKnown", inPlace := ["math.archTrunc", "math.Float64bits", "math.Float64frombits"], unfollowed := true, recurses := true, apart := false }
def RespKnownSaid : Prop := respKnownRow.holds Try.pinned (OpenSpec.ofChange respKnownSpec)

/-- ITS FALSE NEIGHBOUR: 'it returns false'. Refute it at one input. -/
def respKnownWrong : ChangeSpec := { name := "respKnown", fn := fun _ => fun
  | [d] => { results := [.lit (.bool false)], args := [d] }
  | _ => none }
def RespKnownWrongFalsely : Prop := respKnownRow.holds Try.pinned (OpenSpec.ofChange respKnownWrong)

/- THE SECOND FORM. 'bulk': how many values and letters a reading holds, each counted each time it is reached (what is shared counts as often as it is met; a slice's spare places count too). A statement '..UptoSaid' is the law's where the arguments, and the package variables that the reading takes, are together of bulk at most 1048576: NARROWER than '..Said'. Prove '..Said' where nothing that the law and all that it calls make is longer than what came in: it says more and counts as full. Else prove '..UptoSaid'. A law counts once. -/
mutual
def uptoBulk {H : Type} : DataW H → Nat
  | .lit (.string bytes) => bytes.length + 1
  | .lit _ => 1
  | .nil => 1
  | .ptr d => uptoBulk d + 1
  | .slice elems spare => uptoBulkAll elems + uptoBulkAll spare + 1
  | .agg parts => uptoBulkAll parts + 1
  | .iface _ d => uptoBulk d + 1
  | .map entries => uptoBulkEntries entries + 1
  | .held _ => 1
def uptoBulkAll {H : Type} : List (DataW H) → Nat
  | [] => 0
  | d :: r => uptoBulk d + uptoBulkAll r
def uptoBulkEntries {H : Type} : List (Lit × DataW H) → Nat
  | [] => 0
  | x :: r => uptoBulkEntry x + uptoBulkEntries r
def uptoBulkEntry {H : Type} : Lit × DataW H → Nat
  | (.string bytes, d) => bytes.length + uptoBulk d + 1
  | (_, d) => uptoBulk d + 1
 end
def uptoSmall : (H : Type) → List (DataW H) → Bool := fun _ ds => decide (uptoBulkAll ds ≤ 1048576)
def OpenSpec.upto (s : _root_.Go.ChangeSpec) : _root_.Go.OpenSpec := { _root_.Go.OpenSpec.ofChange s with cond := some uptoSmall }

/-- 'taskmasterlaw11.ActiveTells', WHERE WHAT IT READS IS OF BULK AT MOST 1048576: true; the input reads as it did. -/
def activeTellsUptoRow : OpenClaim := { program := "ytllnlmcofaomlaa", sum := "de710b2538cbd3d22a25bf8be0b4fd815f2be115c9a657ce77ae5f9f86014077", func := "taskmaster/taskmasterlaw11.ActiveTells", spec := "activeTells", inPlace := ["math.archTrunc", "math.Float64bits", "math.Float64frombits"], unfollowed := true, recurses := true, apart := false, narrowed := true }
def ActiveTellsUptoSaid : Prop := activeTellsUptoRow.holds Try.pinned (OpenSpec.upto activeTellsSpec)

/-- 'taskmasterlaw11.ActiveLess', WHERE WHAT IT READS IS OF BULK AT MOST 1048576: true; the input reads as it did. -/
def activeLessUptoRow : OpenClaim := { program := "ytllnlmcofaomlaa", sum := "de710b2538cbd3d22a25bf8be0b4fd815f2be115c9a657ce77ae5f9f86014077", func := "taskmaster/taskmasterlaw11.ActiveLess", spec := "activeLess", inPlace := ["math.archTrunc", "math.Float64bits", "math.Float64frombits"], unfollowed := true, recurses := true, apart := false, narrowed := true }
def ActiveLessUptoSaid : Prop := activeLessUptoRow.holds Try.pinned (OpenSpec.upto activeLessSpec)

/-- 'taskmasterlaw11.ActiveDown', WHERE WHAT IT READS IS OF BULK AT MOST 1048576: true; the input reads as it did. -/
def activeDownUptoRow : OpenClaim := { program := "ytllnlmcofaomlaa", sum := "de710b2538cbd3d22a25bf8be0b4fd815f2be115c9a657ce77ae5f9f86014077", func := "taskmaster/taskmasterlaw11.ActiveDown", spec := "activeDown", inPlace := ["math.archTrunc", "math.Float64bits", "math.Float64frombits"], unfollowed := true, recurses := true, apart := false, narrowed := true }
def ActiveDownUptoSaid : Prop := activeDownUptoRow.holds Try.pinned (OpenSpec.upto activeDownSpec)

/-- 'taskmasterlaw11.ActiveSum', WHERE WHAT IT READS IS OF BULK AT MOST 1048576: true; the input reads as it did. -/
def activeSumUptoRow : OpenClaim := { program := "ytllnlmcofaomlaa", sum := "de710b2538cbd3d22a25bf8be0b4fd815f2be115c9a657ce77ae5f9f86014077", func := "taskmaster/taskmasterlaw11.ActiveSum", spec := "activeSum", inPlace := ["math.archTrunc", "math.Float64bits", "math.Float64frombits"], unfollowed := true, recurses := true, apart := false, narrowed := true }
def ActiveSumUptoSaid : Prop := activeSumUptoRow.holds Try.pinned (OpenSpec.upto activeSumSpec)

/-- 'taskmasterlaw12.RespTells', WHERE WHAT IT READS IS OF BULK AT MOST 1048576: true; the input reads as it did. -/
def respTellsUptoRow : OpenClaim := { program := "ytllnlmcofaomlaa", sum := "de710b2538cbd3d22a25bf8be0b4fd815f2be115c9a657ce77ae5f9f86014077", func := "taskmaster/taskmasterlaw12.RespTells", spec := "respTells", inPlace := ["math.archTrunc", "math.Float64bits", "math.Float64frombits"], unfollowed := true, recurses := true, apart := false, narrowed := true }
def RespTellsUptoSaid : Prop := respTellsUptoRow.holds Try.pinned (OpenSpec.upto respTellsSpec)

/-- 'taskmasterlaw12.RespLess', WHERE WHAT IT READS IS OF BULK AT MOST 1048576: true; the input reads as it did. -/
def respLessUptoRow : OpenClaim := { program := "ytllnlmcofaomlaa", sum := "de710b2538cbd3d22a25bf8be0b4fd815f2be115c9a657ce77ae5f9f86014077", func := "taskmaster/taskmasterlaw12.RespLess", spec := "respLess", inPlace := ["math.archTrunc", "math.Float64bits", "math.Float64frombits"], unfollowed := true, recurses := true, apart := false, narrowed := true }
def RespLessUptoSaid : Prop := respLessUptoRow.holds Try.pinned (OpenSpec.upto respLessSpec)

/-- 'taskmasterlaw12.RespWork', WHERE WHAT IT READS IS OF BULK AT MOST 1048576: true; the input reads as it did. -/
def respWorkUptoRow : OpenClaim := { program := "ytllnlmcofaomlaa", sum := "de710b2538cbd3d22a25bf8be0b4fd815f2be115c9a657ce77ae5f9f86014077", func := "taskmaster/taskmasterlaw12.RespWork", spec := "respWork", inPlace := ["math.archTrunc", "math.Float64bits", "math.Float64frombits"], unfollowed := true, recurses := true, apart := false, narrowed := true }
def RespWorkUptoSaid : Prop := respWorkUptoRow.holds Try.pinned (OpenSpec.upto respWorkSpec)

/-- 'taskmasterlaw12.RespBusy', WHERE WHAT IT READS IS OF BULK AT MOST 1048576: true; the input reads as it did. -/
def respBusyUptoRow : OpenClaim := { program := "ytllnlmcofaomlaa", sum := "de710b2538cbd3d22a25bf8be0b4fd815f2be115c9a657ce77ae5f9f86014077", func := "taskmaster/taskmasterlaw12.RespBusy", spec := "respBusy", inPlace := ["math.archTrunc", "math.Float64bits", "math.Float64frombits"], unfollowed := true, recurses := true, apart := false, narrowed := true }
def RespBusyUptoSaid : Prop := respBusyUptoRow.holds Try.pinned (OpenSpec.upto respBusySpec)

/-- 'taskmasterlaw12.RespKnown', WHERE WHAT IT READS IS OF BULK AT MOST 1048576: true; the input reads as it did. -/
def respKnownUptoRow : OpenClaim := { program := "ytllnlmcofaomlaa", sum := "de710b2538cbd3d22a25bf8be0b4fd815f2be115c9a657ce77ae5f9f86014077", func := "taskmaster/taskmasterlaw12.RespKnown", spec := "respKnown", inPlace := ["math.archTrunc", "math.Float64bits", "math.Float64frombits"], unfollowed := true, recurses := true, apart := false, narrowed := true }
def RespKnownUptoSaid : Prop := respKnownUptoRow.holds Try.pinned (OpenSpec.upto respKnownSpec)

end Rows
end Go.Proofs.Ytllnlmcofaomlaa

/-
  No cell of these rows narrows 'for every input' (looked for: loops, veiled, ifaces, maps, wideKeys, modest, calm, conditions, laid).
  DERIVED. THE GIVEN ROWS OF THIS SEAT. 6 by the template 'for every input the law returns true; each argument reads behind the call as it read before'; 0 by the template 'total and deterministic' (their statements: YthppgakbgkknlaaTotals.lean).
  GIVEN WITH THE SEED: the statements are not yours to turn. If you find one false, say at which input.
  Laid BY PROGRAM, IN A SANDBOX (cutbox-rows.mjs): the forced cells as the released guide's own fill.sh prints them over the translation bcc8ae602e2bdc7d… (all of the seat's roots in one cut). By AI agents, Wed Nov 11 2026. No macro, syntax, notation, axiom, sorry.
-/
import Derived.Test.YthppgakbgkknlaaChecked
import GoSem.Claim
import GoSem.ClaimJoined
import GoSem.ClaimMapViews
import Derived.JoinedTies
import Derived.KernelRfl
namespace Go.Proofs.Ythppgakbgkknlaa
/- THE CELL 'sum', in the pinned program and in every row, IS THE sha256 OF THE DUMP (.gsa) THAT YthppgakbgkknlaaProg.lean LOADS. Nothing in Lean hashes anything: it is a label: what it is worth is what the hold of that sum in a sandbox is worth. -/
noncomputable def Try.pinned : Pinned := { name := "ythppgakbgkknlaa", sum := "bcc8ae602e2bdc7deb3c46d64b3d78223b23094f2f3b37e0ed93ab76dd72b0af", checked := Try.checked }
namespace Rows
def none {H : Type} : Left H := { results := [], args := [] }

/-- 'taskmasterlaw3.CostOf': WHATEVER THE INPUT: true; the input reads as it did. -/
def costOfSpec : ChangeSpec := { name := "costOf", fn := fun _ => fun
  | [d1, d2] => { results := [.lit (.bool true)], args := [d1, d2] }
  | _ => none }
def costOfRow : OpenClaim := { program := "ythppgakbgkknlaa", sum := "bcc8ae602e2bdc7deb3c46d64b3d78223b23094f2f3b37e0ed93ab76dd72b0af", func := "taskmaster/taskmasterlaw3.CostOf", spec := "costOf", inPlace := ["math.archTrunc", "math.Float64bits", "math.Float64frombits"], apart := false }
def CostOfSaid : Prop := costOfRow.holds Try.pinned (OpenSpec.ofChange costOfSpec)

/-- ITS FALSE NEIGHBOUR: 'it returns false'. Refute it at one input. -/
def costOfWrong : ChangeSpec := { name := "costOf", fn := fun _ => fun
  | [d1, d2] => { results := [.lit (.bool false)], args := [d1, d2] }
  | _ => none }
def CostOfWrongFalsely : Prop := costOfRow.holds Try.pinned (OpenSpec.ofChange costOfWrong)

/-- 'taskmasterlaw3.CostMore': WHATEVER THE INPUT: true; the input reads as it did. -/
def costMoreSpec : ChangeSpec := { name := "costMore", fn := fun _ => fun
  | [d1, d2, d3, d4] => { results := [.lit (.bool true)], args := [d1, d2, d3, d4] }
  | _ => none }
def costMoreRow : OpenClaim := { program := "ythppgakbgkknlaa", sum := "bcc8ae602e2bdc7deb3c46d64b3d78223b23094f2f3b37e0ed93ab76dd72b0af", func := "taskmaster/taskmasterlaw3.CostMore", spec := "costMore", inPlace := ["math.archTrunc", "math.Float64bits", "math.Float64frombits"], apart := false }
def CostMoreSaid : Prop := costMoreRow.holds Try.pinned (OpenSpec.ofChange costMoreSpec)

/-- ITS FALSE NEIGHBOUR: 'it returns false'. Refute it at one input. -/
def costMoreWrong : ChangeSpec := { name := "costMore", fn := fun _ => fun
  | [d1, d2, d3, d4] => { results := [.lit (.bool false)], args := [d1, d2, d3, d4] }
  | _ => none }
def CostMoreWrongFalsely : Prop := costMoreRow.holds Try.pinned (OpenSpec.ofChange costMoreWrong)

/-- 'taskmasterlaw3.CostSums': WHATEVER THE INPUT: true; the input reads as it did. -/
def costSumsSpec : ChangeSpec := { name := "costSums", fn := fun _ => fun
  | [d1, d2] => { results := [.lit (.bool true)], args := [d1, d2] }
  | _ => none }
def costSumsRow : OpenClaim := { program := "ythppgakbgkknlaa", sum := "bcc8ae602e2bdc7deb3c46d64b3d78223b23094f2f3b37e0ed93ab76dd72b0af", func := "taskmaster/taskmasterlaw3.CostSums", spec := "costSums", inPlace := ["math.archTrunc", "math.Float64bits", "math.Float64frombits"], apart := false }
def CostSumsSaid : Prop := costSumsRow.holds Try.pinned (OpenSpec.ofChange costSumsSpec)

/-- ITS FALSE NEIGHBOUR: 'it returns false'. Refute it at one input. -/
def costSumsWrong : ChangeSpec := { name := "costSums", fn := fun _ => fun
  | [d1, d2] => { results := [.lit (.bool false)], args := [d1, d2] }
  | _ => none }
def CostSumsWrongFalsely : Prop := costSumsRow.holds Try.pinned (OpenSpec.ofChange costSumsWrong)

/-- 'taskmasterlaw3.CostParts': WHATEVER THE INPUT: true; the input reads as it did. -/
def costPartsSpec : ChangeSpec := { name := "costParts", fn := fun _ => fun
  | [d1, d2] => { results := [.lit (.bool true)], args := [d1, d2] }
  | _ => none }
def costPartsRow : OpenClaim := { program := "ythppgakbgkknlaa", sum := "bcc8ae602e2bdc7deb3c46d64b3d78223b23094f2f3b37e0ed93ab76dd72b0af", func := "taskmaster/taskmasterlaw3.CostParts", spec := "costParts", inPlace := ["math.archTrunc", "math.Float64bits", "math.Float64frombits"], apart := false }
def CostPartsSaid : Prop := costPartsRow.holds Try.pinned (OpenSpec.ofChange costPartsSpec)

/-- ITS FALSE NEIGHBOUR: 'it returns false'. Refute it at one input. -/
def costPartsWrong : ChangeSpec := { name := "costParts", fn := fun _ => fun
  | [d1, d2] => { results := [.lit (.bool false)], args := [d1, d2] }
  | _ => none }
def CostPartsWrongFalsely : Prop := costPartsRow.holds Try.pinned (OpenSpec.ofChange costPartsWrong)

/-- 'taskmasterlaw3.CostTells': WHATEVER THE INPUT: true; the input reads as it did. -/
def costTellsSpec : ChangeSpec := { name := "costTells", fn := fun _ => fun
  | [d1, d2, d3] => { results := [.lit (.bool true)], args := [d1, d2, d3] }
  | _ => none }
def costTellsRow : OpenClaim := { program := "ythppgakbgkknlaa", sum := "bcc8ae602e2bdc7deb3c46d64b3d78223b23094f2f3b37e0ed93ab76dd72b0af", func := "taskmaster/taskmasterlaw3.CostTells", spec := "costTells", inPlace := ["math.archTrunc", "math.Float64bits", "math.Float64frombits"], apart := false }
def CostTellsSaid : Prop := costTellsRow.holds Try.pinned (OpenSpec.ofChange costTellsSpec)

/-- ITS FALSE NEIGHBOUR: 'it returns false'. Refute it at one input. -/
def costTellsWrong : ChangeSpec := { name := "costTells", fn := fun _ => fun
  | [d1, d2, d3] => { results := [.lit (.bool false)], args := [d1, d2, d3] }
  | _ => none }
def CostTellsWrongFalsely : Prop := costTellsRow.holds Try.pinned (OpenSpec.ofChange costTellsWrong)

/-- 'taskmasterlaw3.CostTimes': WHATEVER THE INPUT: true; the input reads as it did. -/
def costTimesSpec : ChangeSpec := { name := "costTimes", fn := fun _ => fun
  | [d1, d2] => { results := [.lit (.bool true)], args := [d1, d2] }
  | _ => none }
def costTimesRow : OpenClaim := { program := "ythppgakbgkknlaa", sum := "bcc8ae602e2bdc7deb3c46d64b3d78223b23094f2f3b37e0ed93ab76dd72b0af", func := "taskmaster/taskmasterlaw3.CostTimes", spec := "costTimes", inPlace := ["math.archTrunc", "math.Float64bits", "math.Float64frombits"], apart := false }
def CostTimesSaid : Prop := costTimesRow.holds Try.pinned (OpenSpec.ofChange costTimesSpec)

/-- ITS FALSE NEIGHBOUR: 'it returns false'. Refute it at one input. -/
def costTimesWrong : ChangeSpec := { name := "costTimes", fn := fun _ => fun
  | [d1, d2] => { results := [.lit (.bool false)], args := [d1, d2] }
  | _ => none }
def CostTimesWrongFalsely : Prop := costTimesRow.holds Try.pinned (OpenSpec.ofChange costTimesWrong)

/- THE SECOND FORM. 'bulk': how many values and letters a reading holds, each counted each time it is reached (what is shared counts as often as it is met; a slice's spare places count too). A statement '..UptoSaid' is the law's where the arguments, and the package variables that the reading takes, are together of bulk at most 1048576: NARROWER than '..Said'. Prove '..Said' where nothing that the law and all that it calls make is longer than what came in: it says more and counts as full. Else prove '..UptoSaid'. A law counts once. -/
mutual
def uptoBulk {H : Type} : DataW H → Nat
  | .lit (.string bytes) => bytes.length + 1
  | .lit _ => 1
  | .nil => 1
  | .ptr d => uptoBulk d + 1
  | .slice elems spare => uptoBulkAll elems + uptoBulkAll spare + 1
  | .agg parts => uptoBulkAll parts + 1
  | .iface _ d => uptoBulk d + 1
  | .map entries => uptoBulkEntries entries + 1
  | .held _ => 1
def uptoBulkAll {H : Type} : List (DataW H) → Nat
  | [] => 0
  | d :: r => uptoBulk d + uptoBulkAll r
def uptoBulkEntries {H : Type} : List (Lit × DataW H) → Nat
  | [] => 0
  | x :: r => uptoBulkEntry x + uptoBulkEntries r
def uptoBulkEntry {H : Type} : Lit × DataW H → Nat
  | (.string bytes, d) => bytes.length + uptoBulk d + 1
  | (_, d) => uptoBulk d + 1
 end
def uptoSmall : (H : Type) → List (DataW H) → Bool := fun _ ds => decide (uptoBulkAll ds ≤ 1048576)
def OpenSpec.upto (s : _root_.Go.ChangeSpec) : _root_.Go.OpenSpec := { _root_.Go.OpenSpec.ofChange s with cond := some uptoSmall }

/-- 'taskmasterlaw3.CostOf', WHERE WHAT IT READS IS OF BULK AT MOST 1048576: true; the input reads as it did. -/
def costOfUptoRow : OpenClaim := { program := "ythppgakbgkknlaa", sum := "bcc8ae602e2bdc7deb3c46d64b3d78223b23094f2f3b37e0ed93ab76dd72b0af", func := "taskmaster/taskmasterlaw3.CostOf", spec := "costOf", inPlace := ["math.archTrunc", "math.Float64bits", "math.Float64frombits"], apart := false, narrowed := true }
def CostOfUptoSaid : Prop := costOfUptoRow.holds Try.pinned (OpenSpec.upto costOfSpec)

/-- 'taskmasterlaw3.CostMore', WHERE WHAT IT READS IS OF BULK AT MOST 1048576: true; the input reads as it did. -/
def costMoreUptoRow : OpenClaim := { program := "ythppgakbgkknlaa", sum := "bcc8ae602e2bdc7deb3c46d64b3d78223b23094f2f3b37e0ed93ab76dd72b0af", func := "taskmaster/taskmasterlaw3.CostMore", spec := "costMore", inPlace := ["math.archTrunc", "math.Float64bits", "math.Float64frombits"], apart := false, narrowed := true }
def CostMoreUptoSaid : Prop := costMoreUptoRow.holds Try.pinned (OpenSpec.upto costMoreSpec)

/-- 'taskmasterlaw3.CostSums', WHERE WHAT IT READS IS OF BULK AT MOST 1048576: true; the input reads as it did. -/
def costSumsUptoRow : OpenClaim := { program := "ythppgakbgkknlaa", sum := "bcc8ae602e2bdc7deb3c46d64b3d78223b23094f2f3b37e0ed93ab76dd72b0af", func := "taskmaster/taskmasterlaw3.CostSums", spec := "costSums", inPlace := ["math.archTrunc", "math.Float64bits", "math.Float64frombits"], apart := false, narrowed := true }
def CostSumsUptoSaid : Prop := costSumsUptoRow.holds Try.pinned (OpenSpec.upto costSumsSpec)

/-- 'taskmasterlaw3.CostParts', WHERE WHAT IT READS IS OF BULK AT MOST 1048576: true; the input reads as it did. -/
def costPartsUptoRow : OpenClaim := { program := "ythppgakbgkknlaa", sum := "bcc8ae602e2bdc7deb3c46d64b3d78223b23094f2f3b37e0ed93ab76dd72b0af", func := "taskmaster/taskmasterlaw3.CostParts", spec := "costParts", inPlace := ["math.archTrunc", "math.Float64bits", "math.Float64frombits"], apart := false, narrowed := true }
def CostPartsUptoSaid : Prop := costPartsUptoRow.holds Try.pinned (OpenSpec.upto costPartsSpec)

/-- 'taskmasterlaw3.CostTells', WHERE WHAT IT READS IS OF BULK AT MOST 1048576: true; the input reads as it did. -/
def costTellsUptoRow : OpenClaim := { program := "ythppgakbgkknlaa", sum := "bcc8ae602e2bdc7deb3c46d64b3d78223b23094f2f3b37e0ed93ab76dd72b0af", func := "taskmaster/taskmasterlaw3.CostTells", spec := "costTells", inPlace := ["math.archTrunc", "math.Float64bits", "math.Float64frombits"], apart := false, narrowed := true }
def CostTellsUptoSaid : Prop := costTellsUptoRow.holds Try.pinned (OpenSpec.upto costTellsSpec)

/-- 'taskmasterlaw3.CostTimes', WHERE WHAT IT READS IS OF BULK AT MOST 1048576: true; the input reads as it did. -/
def costTimesUptoRow : OpenClaim := { program := "ythppgakbgkknlaa", sum := "bcc8ae602e2bdc7deb3c46d64b3d78223b23094f2f3b37e0ed93ab76dd72b0af", func := "taskmaster/taskmasterlaw3.CostTimes", spec := "costTimes", inPlace := ["math.archTrunc", "math.Float64bits", "math.Float64frombits"], apart := false, narrowed := true }
def CostTimesUptoSaid : Prop := costTimesUptoRow.holds Try.pinned (OpenSpec.upto costTimesSpec)

end Rows
end Go.Proofs.Ythppgakbgkknlaa

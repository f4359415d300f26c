/-
  No cell of these rows narrows 'for every input' (looked for: loops, veiled, ifaces, maps, wideKeys, modest, calm, conditions, laid).
  DERIVED. THE GIVEN ROWS OF THIS SEAT. 6 by the template 'for every input the law returns true; each argument reads behind the call as it read before'; 0 by the template 'total and deterministic' (their statements: YtbkkmlhoobkimaaTotals.lean).
  GIVEN WITH THE SEED: the statements are not yours to turn. If you find one false, say at which input.
  Laid BY PROGRAM, IN A SANDBOX (cutbox-rows.mjs): the forced cells as the released guide's own fill.sh prints them over the translation 4c31a02d275490a5… (all of the seat's roots in one cut). By AI agents, Wed Nov 11 2026. No macro, syntax, notation, axiom, sorry.
-/
import Derived.Test.YtbkkmlhoobkimaaChecked
import GoSem.Claim
import GoSem.ClaimJoined
import GoSem.ClaimMapViews
import Derived.JoinedTies
import Derived.KernelRfl
namespace Go.Proofs.Ytbkkmlhoobkimaa
/- THE CELL 'sum', in the pinned program and in every row, IS THE sha256 OF THE DUMP (.gsa) THAT YtbkkmlhoobkimaaProg.lean LOADS. Nothing in Lean hashes anything: it is a label: what it is worth is what the hold of that sum in a sandbox is worth. -/
noncomputable def Try.pinned : Pinned := { name := "ytbkkmlhoobkimaa", sum := "4c31a02d275490a5c53791aad75636a489ae3e541d3a71a7dbf26992915571a2", checked := Try.checked }
namespace Rows
def none {H : Type} : Left H := { results := [], args := [] }

/-- 'taskmasterlaw16.PointChooses': WHATEVER THE INPUT: true; the input reads as it did. -/
def pointChoosesSpec : ChangeSpec := { name := "pointChooses", fn := fun _ => fun
  | [d1, d2, d3] => { results := [.lit (.bool true)], args := [d1, d2, d3] }
  | _ => none }
def pointChoosesRow : OpenClaim := { program := "ytbkkmlhoobkimaa", sum := "4c31a02d275490a5c53791aad75636a489ae3e541d3a71a7dbf26992915571a2", func := "taskmaster/taskmasterlaw16.PointChooses", spec := "pointChooses", unfollowed := true, recurses := true, apart := false }
def PointChoosesSaid : Prop := pointChoosesRow.holds Try.pinned (OpenSpec.ofChange pointChoosesSpec)

/-- ITS FALSE NEIGHBOUR: 'it returns false'. Refute it at one input. -/
def pointChoosesWrong : ChangeSpec := { name := "pointChooses", fn := fun _ => fun
  | [d1, d2, d3] => { results := [.lit (.bool false)], args := [d1, d2, d3] }
  | _ => none }
def PointChoosesWrongFalsely : Prop := pointChoosesRow.holds Try.pinned (OpenSpec.ofChange pointChoosesWrong)

/-- 'taskmasterlaw16.PointCuts': WHATEVER THE INPUT: true; the input reads as it did. -/
def pointCutsSpec : ChangeSpec := { name := "pointCuts", fn := fun _ => fun
  | [d1, d2, d3] => { results := [.lit (.bool true)], args := [d1, d2, d3] }
  | _ => none }
def pointCutsRow : OpenClaim := { program := "ytbkkmlhoobkimaa", sum := "4c31a02d275490a5c53791aad75636a489ae3e541d3a71a7dbf26992915571a2", func := "taskmaster/taskmasterlaw16.PointCuts", spec := "pointCuts", unfollowed := true, recurses := true, apart := false }
def PointCutsSaid : Prop := pointCutsRow.holds Try.pinned (OpenSpec.ofChange pointCutsSpec)

/-- ITS FALSE NEIGHBOUR: 'it returns false'. Refute it at one input. -/
def pointCutsWrong : ChangeSpec := { name := "pointCuts", fn := fun _ => fun
  | [d1, d2, d3] => { results := [.lit (.bool false)], args := [d1, d2, d3] }
  | _ => none }
def PointCutsWrongFalsely : Prop := pointCutsRow.holds Try.pinned (OpenSpec.ofChange pointCutsWrong)

/-- 'taskmasterlaw16.PointFits': WHATEVER THE INPUT: true; the input reads as it did. -/
def pointFitsSpec : ChangeSpec := { name := "pointFits", fn := fun _ => fun
  | [d1, d2, d3] => { results := [.lit (.bool true)], args := [d1, d2, d3] }
  | _ => none }
def pointFitsRow : OpenClaim := { program := "ytbkkmlhoobkimaa", sum := "4c31a02d275490a5c53791aad75636a489ae3e541d3a71a7dbf26992915571a2", func := "taskmaster/taskmasterlaw16.PointFits", spec := "pointFits", unfollowed := true, recurses := true, apart := false }
def PointFitsSaid : Prop := pointFitsRow.holds Try.pinned (OpenSpec.ofChange pointFitsSpec)

/-- ITS FALSE NEIGHBOUR: 'it returns false'. Refute it at one input. -/
def pointFitsWrong : ChangeSpec := { name := "pointFits", fn := fun _ => fun
  | [d1, d2, d3] => { results := [.lit (.bool false)], args := [d1, d2, d3] }
  | _ => none }
def PointFitsWrongFalsely : Prop := pointFitsRow.holds Try.pinned (OpenSpec.ofChange pointFitsWrong)

/-- 'taskmasterlaw16.PointMore': WHATEVER THE INPUT: true; the input reads as it did. -/
def pointMoreSpec : ChangeSpec := { name := "pointMore", fn := fun _ => fun
  | [d1, d2, d3, d4] => { results := [.lit (.bool true)], args := [d1, d2, d3, d4] }
  | _ => none }
def pointMoreRow : OpenClaim := { program := "ytbkkmlhoobkimaa", sum := "4c31a02d275490a5c53791aad75636a489ae3e541d3a71a7dbf26992915571a2", func := "taskmaster/taskmasterlaw16.PointMore", spec := "pointMore", unfollowed := true, recurses := true, apart := false }
def PointMoreSaid : Prop := pointMoreRow.holds Try.pinned (OpenSpec.ofChange pointMoreSpec)

/-- ITS FALSE NEIGHBOUR: 'it returns false'. Refute it at one input. -/
def pointMoreWrong : ChangeSpec := { name := "pointMore", fn := fun _ => fun
  | [d1, d2, d3, d4] => { results := [.lit (.bool false)], args := [d1, d2, d3, d4] }
  | _ => none }
def PointMoreWrongFalsely : Prop := pointMoreRow.holds Try.pinned (OpenSpec.ofChange pointMoreWrong)

/-- 'taskmasterlaw16.PointLeast': WHATEVER THE INPUT: true; the input reads as it did. -/
def pointLeastSpec : ChangeSpec := { name := "pointLeast", fn := fun _ => fun
  | [d1, d2, d3, d4] => { results := [.lit (.bool true)], args := [d1, d2, d3, d4] }
  | _ => none }
def pointLeastRow : OpenClaim := { program := "ytbkkmlhoobkimaa", sum := "4c31a02d275490a5c53791aad75636a489ae3e541d3a71a7dbf26992915571a2", func := "taskmaster/taskmasterlaw16.PointLeast", spec := "pointLeast", unfollowed := true, recurses := true, apart := false }
def PointLeastSaid : Prop := pointLeastRow.holds Try.pinned (OpenSpec.ofChange pointLeastSpec)

/-- ITS FALSE NEIGHBOUR: 'it returns false'. Refute it at one input. -/
def pointLeastWrong : ChangeSpec := { name := "pointLeast", fn := fun _ => fun
  | [d1, d2, d3, d4] => { results := [.lit (.bool false)], args := [d1, d2, d3, d4] }
  | _ => none }
def PointLeastWrongFalsely : Prop := pointLeastRow.holds Try.pinned (OpenSpec.ofChange pointLeastWrong)

/-- 'taskmasterlaw16.PointAll': WHATEVER THE INPUT: true; the input reads as it did. -/
def pointAllSpec : ChangeSpec := { name := "pointAll", fn := fun _ => fun
  | [d1, d2] => { results := [.lit (.bool true)], args := [d1, d2] }
  | _ => none }
def pointAllRow : OpenClaim := { program := "ytbkkmlhoobkimaa", sum := "4c31a02d275490a5c53791aad75636a489ae3e541d3a71a7dbf26992915571a2", func := "taskmaster/taskmasterlaw16.PointAll", spec := "pointAll", unfollowed := true, recurses := true, apart := false }
def PointAllSaid : Prop := pointAllRow.holds Try.pinned (OpenSpec.ofChange pointAllSpec)

/-- ITS FALSE NEIGHBOUR: 'it returns false'. Refute it at one input. -/
def pointAllWrong : ChangeSpec := { name := "pointAll", fn := fun _ => fun
  | [d1, d2] => { results := [.lit (.bool false)], args := [d1, d2] }
  | _ => none }
def PointAllWrongFalsely : Prop := pointAllRow.holds Try.pinned (OpenSpec.ofChange pointAllWrong)

/- THE SECOND FORM. 'bulk': how many values and letters a reading holds, each counted each time it is reached (what is shared counts as often as it is met; a slice's spare places count too). A statement '..UptoSaid' is the law's where the arguments, and the package variables that the reading takes, are together of bulk at most 1048576: NARROWER than '..Said'. Prove '..Said' where nothing that the law and all that it calls make is longer than what came in: it says more and counts as full. Else prove '..UptoSaid'. A law counts once. -/
mutual
def uptoBulk {H : Type} : DataW H → Nat
  | .lit (.string bytes) => bytes.length + 1
  | .lit _ => 1
  | .nil => 1
  | .ptr d => uptoBulk d + 1
  | .slice elems spare => uptoBulkAll elems + uptoBulkAll spare + 1
  | .agg parts => uptoBulkAll parts + 1
  | .iface _ d => uptoBulk d + 1
  | .map entries => uptoBulkEntries entries + 1
  | .held _ => 1
def uptoBulkAll {H : Type} : List (DataW H) → Nat
  | [] => 0
  | d :: r => uptoBulk d + uptoBulkAll r
def uptoBulkEntries {H : Type} : List (Lit × DataW H) → Nat
  | [] => 0
  | x :: r => uptoBulkEntry x + uptoBulkEntries r
def uptoBulkEntry {H : Type} : Lit × DataW H → Nat
  | (.string bytes, d) => bytes.length + uptoBulk d + 1
  | (_, d) => uptoBulk d + 1
 end
def uptoSmall : (H : Type) → List (DataW H) → Bool := fun _ ds => decide (uptoBulkAll ds ≤ 1048576)
def OpenSpec.upto (s : _root_.Go.ChangeSpec) : _root_.Go.OpenSpec := { _root_.Go.OpenSpec.ofChange s with cond := some uptoSmall }

/-- 'taskmasterlaw16.PointChooses', WHERE WHAT IT READS IS OF BULK AT MOST 1048576: true; the input reads as it did. -/
def pointChoosesUptoRow : OpenClaim := { program := "ytbkkmlhoobkimaa", sum := "4c31a02d275490a5c53791aad75636a489ae3e541d3a71a7dbf26992915571a2", func := "taskmaster/taskmasterlaw16.PointChooses", spec := "pointChooses", unfollowed := true, recurses := true, apart := false, narrowed := true }
def PointChoosesUptoSaid : Prop := pointChoosesUptoRow.holds Try.pinned (OpenSpec.upto pointChoosesSpec)

/-- 'taskmasterlaw16.PointCuts', WHERE WHAT IT READS IS OF BULK AT MOST 1048576: true; the input reads as it did. -/
def pointCutsUptoRow : OpenClaim := { program := "ytbkkmlhoobkimaa", sum := "4c31a02d275490a5c53791aad75636a489ae3e541d3a71a7dbf26992915571a2", func := "taskmaster/taskmasterlaw16.PointCuts", spec := "pointCuts", unfollowed := true, recurses := true, apart := false, narrowed := true }
def PointCutsUptoSaid : Prop := pointCutsUptoRow.holds Try.pinned (OpenSpec.upto pointCutsSpec)

/-- 'taskmasterlaw16.PointFits', WHERE WHAT IT READS IS OF BULK AT MOST 1048576: true; the input reads as it did. -/
def pointFitsUptoRow : OpenClaim := { program := "ytbkkmlhoobkimaa", sum := "4c31a02d275490a5c53791aad75636a489ae3e541d3a71a7dbf26992915571a2", func := "taskmaster/taskmasterlaw16.PointFits", spec := "pointFits", unfollowed := true, recurses := true, apart := false, narrowed := true }
def PointFitsUptoSaid : Prop := pointFitsUptoRow.holds Try.pinned (OpenSpec.upto pointFitsSpec)

/-- 'taskmasterlaw16.PointMore', WHERE WHAT IT READS IS OF BULK AT MOST 1048576: true; the input reads as it did. -/
def pointMoreUptoRow : OpenClaim := { program := "ytbkkmlhoobkimaa", sum := "4c31a02d275490a5c53791aad75636a489ae3e541d3a71a7dbf26992915571a2", func := "taskmaster/taskmasterlaw16.PointMore", spec := "pointMore", unfollowed := true, recurses := true, apart := false, narrowed := true }
def PointMoreUptoSaid : Prop := pointMoreUptoRow.holds Try.pinned (OpenSpec.upto pointMoreSpec)

/-- 'taskmasterlaw16.PointLeast', WHERE WHAT IT READS IS OF BULK AT MOST 1048576: true; the input reads as it did. -/
def pointLeastUptoRow : OpenClaim := { program := "ytbkkmlhoobkimaa", sum := "4c31a02d275490a5c53791aad75636a489ae3e541d3a71a7dbf26992915571a2", func := "taskmaster/taskmasterlaw16.PointLeast", spec := "pointLeast", unfollowed := true, recurses := true, apart := false, narrowed := true }
def PointLeastUptoSaid : Prop := pointLeastUptoRow.holds Try.pinned (OpenSpec.upto pointLeastSpec)

/-- 'taskmasterlaw16.PointAll', WHERE WHAT IT READS IS OF BULK AT MOST 1048576: true; the input reads as it did. -/
def pointAllUptoRow : OpenClaim := { program := "ytbkkmlhoobkimaa", sum := "4c31a02d275490a5c53791aad75636a489ae3e541d3a71a7dbf26992915571a2", func := "taskmaster/taskmasterlaw16.PointAll", spec := "pointAll", unfollowed := true, recurses := true, apart := false, narrowed := true }
def PointAllUptoSaid : Prop := pointAllUptoRow.holds Try.pinned (OpenSpec.upto pointAllSpec)

end Rows
end Go.Proofs.Ytbkkmlhoobkimaa

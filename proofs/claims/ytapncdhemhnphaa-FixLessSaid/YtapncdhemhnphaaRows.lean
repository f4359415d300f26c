/-
  No cell of these rows narrows 'for every input' (looked for: loops, veiled, ifaces, maps, wideKeys, modest, calm, conditions, laid).
  DERIVED. THE GIVEN ROWS OF THIS SEAT. 5 by the template 'for every input the law returns true; each argument reads behind the call as it read before'; 0 by the template 'total and deterministic' (their statements: YtapncdhemhnphaaTotals.lean).
  GIVEN WITH THE SEED: the statements are not yours to turn. If you find one false, say at which input.
  Laid BY PROGRAM, IN A SANDBOX (cutbox-rows.mjs): the forced cells as the released guide's own fill.sh prints them over the translation 22d3dd2f21b2e9c8… (all of the seat's roots in one cut). By AI agents, Wed Nov 11 2026. No macro, syntax, notation, axiom, sorry.
-/
import Derived.Test.YtapncdhemhnphaaChecked
import GoSem.Claim
import GoSem.ClaimJoined
import GoSem.ClaimMapViews
import Derived.JoinedTies
import Derived.KernelRfl
namespace Go.Proofs.Ytapncdhemhnphaa
/- THE CELL 'sum', in the pinned program and in every row, IS THE sha256 OF THE DUMP (.gsa) THAT YtapncdhemhnphaaProg.lean LOADS. Nothing in Lean hashes anything: it is a label: what it is worth is what the hold of that sum in a sandbox is worth. -/
noncomputable def Try.pinned : Pinned := { name := "ytapncdhemhnphaa", sum := "22d3dd2f21b2e9c8e72b7d859abc7522d26dcbe20f89ccb460a35d74e6291dda", checked := Try.checked }
namespace Rows
def none {H : Type} : Left H := { results := [], args := [] }

/-- 'taskmasterlaw10.FixLeast': WHATEVER THE INPUT: true; the input reads as it did. -/
def fixLeastSpec : ChangeSpec := { name := "fixLeast", fn := fun _ => fun
  | [d1, d2] => { results := [.lit (.bool true)], args := [d1, d2] }
  | _ => none }
def fixLeastRow : OpenClaim := { program := "ytapncdhemhnphaa", sum := "22d3dd2f21b2e9c8e72b7d859abc7522d26dcbe20f89ccb460a35d74e6291dda", func := "taskmaster/taskmasterlaw10.FixLeast", spec := "fixLeast", unfollowed := true, recurses := true, apart := false }
def FixLeastSaid : Prop := fixLeastRow.holds Try.pinned (OpenSpec.ofChange fixLeastSpec)

/-- ITS FALSE NEIGHBOUR: 'it returns false'. Refute it at one input. -/
def fixLeastWrong : ChangeSpec := { name := "fixLeast", fn := fun _ => fun
  | [d1, d2] => { results := [.lit (.bool false)], args := [d1, d2] }
  | _ => none }
def FixLeastWrongFalsely : Prop := fixLeastRow.holds Try.pinned (OpenSpec.ofChange fixLeastWrong)

/-- 'taskmasterlaw10.FixLess': WHATEVER THE INPUT: true; the input reads as it did. -/
def fixLessSpec : ChangeSpec := { name := "fixLess", fn := fun _ => fun
  | [d1, d2, d3, d4] => { results := [.lit (.bool true)], args := [d1, d2, d3, d4] }
  | _ => none }
def fixLessRow : OpenClaim := { program := "ytapncdhemhnphaa", sum := "22d3dd2f21b2e9c8e72b7d859abc7522d26dcbe20f89ccb460a35d74e6291dda", func := "taskmaster/taskmasterlaw10.FixLess", spec := "fixLess", unfollowed := true, recurses := true, apart := false }
def FixLessSaid : Prop := fixLessRow.holds Try.pinned (OpenSpec.ofChange fixLessSpec)

/-- ITS FALSE NEIGHBOUR: 'it returns false'. Refute it at one input. -/
def fixLessWrong : ChangeSpec := { name := "fixLess", fn := fun _ => fun
  | [d1, d2, d3, d4] => { results := [.lit (.bool false)], args := [d1, d2, d3, d4] }
  | _ => none }
def FixLessWrongFalsely : Prop := fixLessRow.holds Try.pinned (OpenSpec.ofChange fixLessWrong)

/-- 'taskmasterlaw10.FixSums': WHATEVER THE INPUT: true; the input reads as it did. -/
def fixSumsSpec : ChangeSpec := { name := "fixSums", fn := fun _ => fun
  | [d1, d2, d3] => { results := [.lit (.bool true)], args := [d1, d2, d3] }
  | _ => none }
def fixSumsRow : OpenClaim := { program := "ytapncdhemhnphaa", sum := "22d3dd2f21b2e9c8e72b7d859abc7522d26dcbe20f89ccb460a35d74e6291dda", func := "taskmaster/taskmasterlaw10.FixSums", spec := "fixSums", unfollowed := true, recurses := true, apart := false }
def FixSumsSaid : Prop := fixSumsRow.holds Try.pinned (OpenSpec.ofChange fixSumsSpec)

/-- ITS FALSE NEIGHBOUR: 'it returns false'. Refute it at one input. -/
def fixSumsWrong : ChangeSpec := { name := "fixSums", fn := fun _ => fun
  | [d1, d2, d3] => { results := [.lit (.bool false)], args := [d1, d2, d3] }
  | _ => none }
def FixSumsWrongFalsely : Prop := fixSumsRow.holds Try.pinned (OpenSpec.ofChange fixSumsWrong)

/-- 'taskmasterlaw10.FixNone': WHATEVER THE INPUT: true; the input reads as it did. -/
def fixNoneSpec : ChangeSpec := { name := "fixNone", fn := fun _ => fun
  | [d1, d2, d3] => { results := [.lit (.bool true)], args := [d1, d2, d3] }
  | _ => none }
def fixNoneRow : OpenClaim := { program := "ytapncdhemhnphaa", sum := "22d3dd2f21b2e9c8e72b7d859abc7522d26dcbe20f89ccb460a35d74e6291dda", func := "taskmaster/taskmasterlaw10.FixNone", spec := "fixNone", unfollowed := true, recurses := true, apart := false }
def FixNoneSaid : Prop := fixNoneRow.holds Try.pinned (OpenSpec.ofChange fixNoneSpec)

/-- ITS FALSE NEIGHBOUR: 'it returns false'. Refute it at one input. -/
def fixNoneWrong : ChangeSpec := { name := "fixNone", fn := fun _ => fun
  | [d1, d2, d3] => { results := [.lit (.bool false)], args := [d1, d2, d3] }
  | _ => none }
def FixNoneWrongFalsely : Prop := fixNoneRow.holds Try.pinned (OpenSpec.ofChange fixNoneWrong)

/-- 'taskmasterlaw10.FixOne': WHATEVER THE INPUT: true; the input reads as it did. -/
def fixOneSpec : ChangeSpec := { name := "fixOne", fn := fun _ => fun
  | [d1, d2, d3] => { results := [.lit (.bool true)], args := [d1, d2, d3] }
  | _ => none }
def fixOneRow : OpenClaim := { program := "ytapncdhemhnphaa", sum := "22d3dd2f21b2e9c8e72b7d859abc7522d26dcbe20f89ccb460a35d74e6291dda", func := "taskmaster/taskmasterlaw10.FixOne", spec := "fixOne", unfollowed := true, recurses := true, apart := false }
def FixOneSaid : Prop := fixOneRow.holds Try.pinned (OpenSpec.ofChange fixOneSpec)

/-- ITS FALSE NEIGHBOUR: 'it returns false'. Refute it at one input. -/
def fixOneWrong : ChangeSpec := { name := "fixOne", fn := fun _ => fun
  | [d1, d2, d3] => { results := [.lit (.bool false)], args := [d1, d2, d3] }
  | _ => none }
def FixOneWrongFalsely : Prop := fixOneRow.holds Try.pinned (OpenSpec.ofChange fixOneWrong)

/- THE SECOND FORM. 'bulk': how many values and letters a reading holds, each counted each time it is reached (what is shared counts as often as it is met; a slice's spare places count too). A statement '..UptoSaid' is the law's where the arguments, and the package variables that the reading takes, are together of bulk at most 1048576: NARROWER than '..Said'. Prove '..Said' where nothing that the law and all that it calls make is longer than what came in: it says more and counts as full. Else prove '..UptoSaid'. A law counts once. -/
mutual
def uptoBulk {H : Type} : DataW H → Nat
  | .lit (.string bytes) => bytes.length + 1
  | .lit _ => 1
  | .nil => 1
  | .ptr d => uptoBulk d + 1
  | .slice elems spare => uptoBulkAll elems + uptoBulkAll spare + 1
  | .agg parts => uptoBulkAll parts + 1
  | .iface _ d => uptoBulk d + 1
  | .map entries => uptoBulkEntries entries + 1
  | .held _ => 1
def uptoBulkAll {H : Type} : List (DataW H) → Nat
  | [] => 0
  | d :: r => uptoBulk d + uptoBulkAll r
def uptoBulkEntries {H : Type} : List (Lit × DataW H) → Nat
  | [] => 0
  | x :: r => uptoBulkEntry x + uptoBulkEntries r
def uptoBulkEntry {H : Type} : Lit × DataW H → Nat
  | (.string bytes, d) => bytes.length + uptoBulk d + 1
  | (_, d) => uptoBulk d + 1
 end
def uptoSmall : (H : Type) → List (DataW H) → Bool := fun _ ds => decide (uptoBulkAll ds ≤ 1048576)
def OpenSpec.upto (s : _root_.Go.ChangeSpec) : _root_.Go.OpenSpec := { _root_.Go.OpenSpec.ofChange s with cond := some uptoSmall }

/-- 'taskmasterlaw10.FixLeast', WHERE WHAT IT READS IS OF BULK AT MOST 1048576: true; the input reads as it did. -/
def fixLeastUptoRow : OpenClaim := { program := "ytapncdhemhnphaa", sum := "22d3dd2f21b2e9c8e72b7d859abc7522d26dcbe20f89ccb460a35d74e6291dda", func := "taskmaster/taskmasterlaw10.FixLeast", spec := "fixLeast", unfollowed := true, recurses := true, apart := false, narrowed := true }
def FixLeastUptoSaid : Prop := fixLeastUptoRow.holds Try.pinned (OpenSpec.upto fixLeastSpec)

/-- 'taskmasterlaw10.FixLess', WHERE WHAT IT READS IS OF BULK AT MOST 1048576: true; the input reads as it did. -/
def fixLessUptoRow : OpenClaim := { program := "ytapncdhemhnphaa", sum := "22d3dd2f21b2e9c8e72b7d859abc7522d26dcbe20f89ccb460a35d74e6291dda", func := "taskmaster/taskmasterlaw10.FixLess", spec := "fixLess", unfollowed := true, recurses := true, apart := false, narrowed := true }
def FixLessUptoSaid : Prop := fixLessUptoRow.holds Try.pinned (OpenSpec.upto fixLessSpec)

/-- 'taskmasterlaw10.FixSums', WHERE WHAT IT READS IS OF BULK AT MOST 1048576: true; the input reads as it did. -/
def fixSumsUptoRow : OpenClaim := { program := "ytapncdhemhnphaa", sum := "22d3dd2f21b2e9c8e72b7d859abc7522d26dcbe20f89ccb460a35d74e6291dda", func := "taskmaster/taskmasterlaw10.FixSums", spec := "fixSums", unfollowed := true, recurses := true, apart := false, narrowed := true }
def FixSumsUptoSaid : Prop := fixSumsUptoRow.holds Try.pinned (OpenSpec.upto fixSumsSpec)

/-- 'taskmasterlaw10.FixNone', WHERE WHAT IT READS IS OF BULK AT MOST 1048576: true; the input reads as it did. -/
def fixNoneUptoRow : OpenClaim := { program := "ytapncdhemhnphaa", sum := "22d3dd2f21b2e9c8e72b7d859abc7522d26dcbe20f89ccb460a35d74e6291dda", func := "taskmaster/taskmasterlaw10.FixNone", spec := "fixNone", unfollowed := true, recurses := true, apart := false, narrowed := true }
def FixNoneUptoSaid : Prop := fixNoneUptoRow.holds Try.pinned (OpenSpec.upto fixNoneSpec)

/-- 'taskmasterlaw10.FixOne', WHERE WHAT IT READS IS OF BULK AT MOST 1048576: true; the input reads as it did. -/
def fixOneUptoRow : OpenClaim := { program := "ytapncdhemhnphaa", sum := "22d3dd2f21b2e9c8e72b7d859abc7522d26dcbe20f89ccb460a35d74e6291dda", func := "taskmaster/taskmasterlaw10.FixOne", spec := "fixOne", unfollowed := true, recurses := true, apart := false, narrowed := true }
def FixOneUptoSaid : Prop := fixOneUptoRow.holds Try.pinned (OpenSpec.upto fixOneSpec)

end Rows
end Go.Proofs.Ytapncdhemhnphaa

/-
  No cell of these rows narrows 'for every input' (looked for: loops, veiled, ifaces, maps, wideKeys, modest, calm, conditions, laid).
  DERIVED. THE GIVEN ROWS OF THIS SEAT. 7 by the template 'for every input the law returns true; each argument reads behind the call as it read before'; 0 by the template 'total and deterministic' (their statements: YtmhioeoioohmpaaTotals.lean).
  GIVEN WITH THE SEED: the statements are not yours to turn. If you find one false, say at which input.
  Laid BY PROGRAM, IN A SANDBOX (cutbox-rows.mjs): the forced cells as the released guide's own fill.sh prints them over the translation 0c27f2b88338ab07… (all of the seat's roots in one cut). By AI agents, Wed Nov 11 2026. No macro, syntax, notation, axiom, sorry.
-/
import Derived.Test.YtmhioeoioohmpaaChecked
import GoSem.Claim
import GoSem.ClaimJoined
import GoSem.ClaimMapViews
import Derived.JoinedTies
import Derived.KernelRfl
namespace Go.Proofs.Ytmhioeoioohmpaa
/- THE CELL 'sum', in the pinned program and in every row, IS THE sha256 OF THE DUMP (.gsa) THAT YtmhioeoioohmpaaProg.lean LOADS. Nothing in Lean hashes anything: it is a label: what it is worth is what the hold of that sum in a sandbox is worth. -/
noncomputable def Try.pinned : Pinned := { name := "ytmhioeoioohmpaa", sum := "0c27f2b88338ab075914a44da32eb3906c398b6314dcfa37b8c268e6c1061c27", checked := Try.checked }
namespace Rows
def none {H : Type} : Left H := { results := [], args := [] }

/-- 'taskmasterlaw8.AgainBound': WHATEVER THE INPUT: true; the input reads as it did. -/
def againBoundSpec : ChangeSpec := { name := "againBound", fn := fun _ => fun
  | [d1, d2] => { results := [.lit (.bool true)], args := [d1, d2] }
  | _ => none }
def againBoundRow : OpenClaim := { program := "ytmhioeoioohmpaa", sum := "0c27f2b88338ab075914a44da32eb3906c398b6314dcfa37b8c268e6c1061c27", func := "taskmaster/taskmasterlaw8.AgainBound", spec := "againBound", apart := false }
def AgainBoundSaid : Prop := againBoundRow.holds Try.pinned (OpenSpec.ofChange againBoundSpec)

/-- ITS FALSE NEIGHBOUR: 'it returns false'. Refute it at one input. -/
def againBoundWrong : ChangeSpec := { name := "againBound", fn := fun _ => fun
  | [d1, d2] => { results := [.lit (.bool false)], args := [d1, d2] }
  | _ => none }
def AgainBoundWrongFalsely : Prop := againBoundRow.holds Try.pinned (OpenSpec.ofChange againBoundWrong)

/-- 'taskmasterlaw8.AgainMore': WHATEVER THE INPUT: true; the input reads as it did. -/
def againMoreSpec : ChangeSpec := { name := "againMore", fn := fun _ => fun
  | [d1, d2, d3] => { results := [.lit (.bool true)], args := [d1, d2, d3] }
  | _ => none }
def againMoreRow : OpenClaim := { program := "ytmhioeoioohmpaa", sum := "0c27f2b88338ab075914a44da32eb3906c398b6314dcfa37b8c268e6c1061c27", func := "taskmaster/taskmasterlaw8.AgainMore", spec := "againMore", apart := false }
def AgainMoreSaid : Prop := againMoreRow.holds Try.pinned (OpenSpec.ofChange againMoreSpec)

/-- ITS FALSE NEIGHBOUR: 'it returns false'. Refute it at one input. -/
def againMoreWrong : ChangeSpec := { name := "againMore", fn := fun _ => fun
  | [d1, d2, d3] => { results := [.lit (.bool false)], args := [d1, d2, d3] }
  | _ => none }
def AgainMoreWrongFalsely : Prop := againMoreRow.holds Try.pinned (OpenSpec.ofChange againMoreWrong)

/-- 'taskmasterlaw8.AgainReload': WHATEVER THE INPUT: true; the input reads as it did. -/
def againReloadSpec : ChangeSpec := { name := "againReload", fn := fun _ => fun
  | [d1, d2, d3] => { results := [.lit (.bool true)], args := [d1, d2, d3] }
  | _ => none }
def againReloadRow : OpenClaim := { program := "ytmhioeoioohmpaa", sum := "0c27f2b88338ab075914a44da32eb3906c398b6314dcfa37b8c268e6c1061c27", func := "taskmaster/taskmasterlaw8.AgainReload", spec := "againReload", apart := false }
def AgainReloadSaid : Prop := againReloadRow.holds Try.pinned (OpenSpec.ofChange againReloadSpec)

/-- ITS FALSE NEIGHBOUR: 'it returns false'. Refute it at one input. -/
def againReloadWrong : ChangeSpec := { name := "againReload", fn := fun _ => fun
  | [d1, d2, d3] => { results := [.lit (.bool false)], args := [d1, d2, d3] }
  | _ => none }
def AgainReloadWrongFalsely : Prop := againReloadRow.holds Try.pinned (OpenSpec.ofChange againReloadWrong)

/-- 'taskmasterlaw8.AgainTells': WHATEVER THE INPUT: true; the input reads as it did. -/
def againTellsSpec : ChangeSpec := { name := "againTells", fn := fun _ => fun
  | [d1, d2] => { results := [.lit (.bool true)], args := [d1, d2] }
  | _ => none }
def againTellsRow : OpenClaim := { program := "ytmhioeoioohmpaa", sum := "0c27f2b88338ab075914a44da32eb3906c398b6314dcfa37b8c268e6c1061c27", func := "taskmaster/taskmasterlaw8.AgainTells", spec := "againTells", apart := false }
def AgainTellsSaid : Prop := againTellsRow.holds Try.pinned (OpenSpec.ofChange againTellsSpec)

/-- ITS FALSE NEIGHBOUR: 'it returns false'. Refute it at one input. -/
def againTellsWrong : ChangeSpec := { name := "againTells", fn := fun _ => fun
  | [d1, d2] => { results := [.lit (.bool false)], args := [d1, d2] }
  | _ => none }
def AgainTellsWrongFalsely : Prop := againTellsRow.holds Try.pinned (OpenSpec.ofChange againTellsWrong)

/-- 'taskmasterlaw9.BlockWhole': WHATEVER THE INPUT: true; the input reads as it did. -/
def blockWholeSpec : ChangeSpec := { name := "blockWhole", fn := fun _ => fun
  | [d1, d2, d3] => { results := [.lit (.bool true)], args := [d1, d2, d3] }
  | _ => none }
def blockWholeRow : OpenClaim := { program := "ytmhioeoioohmpaa", sum := "0c27f2b88338ab075914a44da32eb3906c398b6314dcfa37b8c268e6c1061c27", func := "taskmaster/taskmasterlaw9.BlockWhole", spec := "blockWhole", apart := false }
def BlockWholeSaid : Prop := blockWholeRow.holds Try.pinned (OpenSpec.ofChange blockWholeSpec)

/-- ITS FALSE NEIGHBOUR: 'it returns false'. Refute it at one input. -/
def blockWholeWrong : ChangeSpec := { name := "blockWhole", fn := fun _ => fun
  | [d1, d2, d3] => { results := [.lit (.bool false)], args := [d1, d2, d3] }
  | _ => none }
def BlockWholeWrongFalsely : Prop := blockWholeRow.holds Try.pinned (OpenSpec.ofChange blockWholeWrong)

/-- 'taskmasterlaw9.BlockModes': WHATEVER THE INPUT: true; the input reads as it did. -/
def blockModesSpec : ChangeSpec := { name := "blockModes", fn := fun _ => fun
  | [d1, d2, d3, d4, d5] => { results := [.lit (.bool true)], args := [d1, d2, d3, d4, d5] }
  | _ => none }
def blockModesRow : OpenClaim := { program := "ytmhioeoioohmpaa", sum := "0c27f2b88338ab075914a44da32eb3906c398b6314dcfa37b8c268e6c1061c27", func := "taskmaster/taskmasterlaw9.BlockModes", spec := "blockModes", apart := false }
def BlockModesSaid : Prop := blockModesRow.holds Try.pinned (OpenSpec.ofChange blockModesSpec)

/-- ITS FALSE NEIGHBOUR: 'it returns false'. Refute it at one input. -/
def blockModesWrong : ChangeSpec := { name := "blockModes", fn := fun _ => fun
  | [d1, d2, d3, d4, d5] => { results := [.lit (.bool false)], args := [d1, d2, d3, d4, d5] }
  | _ => none }
def BlockModesWrongFalsely : Prop := blockModesRow.holds Try.pinned (OpenSpec.ofChange blockModesWrong)

/-- 'taskmasterlaw9.BlockRegions': WHATEVER THE INPUT: true; the input reads as it did. -/
def blockRegionsSpec : ChangeSpec := { name := "blockRegions", fn := fun _ => fun
  | [d1, d2, d3] => { results := [.lit (.bool true)], args := [d1, d2, d3] }
  | _ => none }
def blockRegionsRow : OpenClaim := { program := "ytmhioeoioohmpaa", sum := "0c27f2b88338ab075914a44da32eb3906c398b6314dcfa37b8c268e6c1061c27", func := "taskmaster/taskmasterlaw9.BlockRegions", spec := "blockRegions", apart := false }
def BlockRegionsSaid : Prop := blockRegionsRow.holds Try.pinned (OpenSpec.ofChange blockRegionsSpec)

/-- ITS FALSE NEIGHBOUR: 'it returns false'. Refute it at one input. -/
def blockRegionsWrong : ChangeSpec := { name := "blockRegions", fn := fun _ => fun
  | [d1, d2, d3] => { results := [.lit (.bool false)], args := [d1, d2, d3] }
  | _ => none }
def BlockRegionsWrongFalsely : Prop := blockRegionsRow.holds Try.pinned (OpenSpec.ofChange blockRegionsWrong)

/- THE SECOND FORM. 'bulk': how many values and letters a reading holds, each counted each time it is reached (what is shared counts as often as it is met; a slice's spare places count too). A statement '..UptoSaid' is the law's where the arguments, and the package variables that the reading takes, are together of bulk at most 1048576: NARROWER than '..Said'. Prove '..Said' where nothing that the law and all that it calls make is longer than what came in: it says more and counts as full. Else prove '..UptoSaid'. A law counts once. -/
mutual
def uptoBulk {H : Type} : DataW H → Nat
  | .lit (.string bytes) => bytes.length + 1
  | .lit _ => 1
  | .nil => 1
  | .ptr d => uptoBulk d + 1
  | .slice elems spare => uptoBulkAll elems + uptoBulkAll spare + 1
  | .agg parts => uptoBulkAll parts + 1
  | .iface _ d => uptoBulk d + 1
  | .map entries => uptoBulkEntries entries + 1
  | .held _ => 1
def uptoBulkAll {H : Type} : List (DataW H) → Nat
  | [] => 0
  | d :: r => uptoBulk d + uptoBulkAll r
def uptoBulkEntries {H : Type} : List (Lit × DataW H) → Nat
  | [] => 0
  | x :: r => uptoBulkEntry x + uptoBulkEntries r
def uptoBulkEntry {H : Type} : Lit × DataW H → Nat
  | (.string bytes, d) => bytes.length + uptoBulk d + 1
  | (_, d) => uptoBulk d + 1
 end
def uptoSmall : (H : Type) → List (DataW H) → Bool := fun _ ds => decide (uptoBulkAll ds ≤ 1048576)
def OpenSpec.upto (s : _root_.Go.ChangeSpec) : _root_.Go.OpenSpec := { _root_.Go.OpenSpec.ofChange s with cond := some uptoSmall }

/-- 'taskmasterlaw8.AgainBound', WHERE WHAT IT READS IS OF BULK AT MOST 1048576: true; the input reads as it did. -/
def againBoundUptoRow : OpenClaim := { program := "ytmhioeoioohmpaa", sum := "0c27f2b88338ab075914a44da32eb3906c398b6314dcfa37b8c268e6c1061c27", func := "taskmaster/taskmasterlaw8.AgainBound", spec := "againBound", apart := false, narrowed := true }
def AgainBoundUptoSaid : Prop := againBoundUptoRow.holds Try.pinned (OpenSpec.upto againBoundSpec)

/-- 'taskmasterlaw8.AgainMore', WHERE WHAT IT READS IS OF BULK AT MOST 1048576: true; the input reads as it did. -/
def againMoreUptoRow : OpenClaim := { program := "ytmhioeoioohmpaa", sum := "0c27f2b88338ab075914a44da32eb3906c398b6314dcfa37b8c268e6c1061c27", func := "taskmaster/taskmasterlaw8.AgainMore", spec := "againMore", apart := false, narrowed := true }
def AgainMoreUptoSaid : Prop := againMoreUptoRow.holds Try.pinned (OpenSpec.upto againMoreSpec)

/-- 'taskmasterlaw8.AgainReload', WHERE WHAT IT READS IS OF BULK AT MOST 1048576: true; the input reads as it did. -/
def againReloadUptoRow : OpenClaim := { program := "ytmhioeoioohmpaa", sum := "0c27f2b88338ab075914a44da32eb3906c398b6314dcfa37b8c268e6c1061c27", func := "taskmaster/taskmasterlaw8.AgainReload", spec := "againReload", apart := false, narrowed := true }
def AgainReloadUptoSaid : Prop := againReloadUptoRow.holds Try.pinned (OpenSpec.upto againReloadSpec)

/-- 'taskmasterlaw8.AgainTells', WHERE WHAT IT READS IS OF BULK AT MOST 1048576: true; the input reads as it did. -/
def againTellsUptoRow : OpenClaim := { program := "ytmhioeoioohmpaa", sum := "0c27f2b88338ab075914a44da32eb3906c398b6314dcfa37b8c268e6c1061c27", func := "taskmaster/taskmasterlaw8.AgainTells", spec := "againTells", apart := false, narrowed := true }
def AgainTellsUptoSaid : Prop := againTellsUptoRow.holds Try.pinned (OpenSpec.upto againTellsSpec)

/-- 'taskmasterlaw9.BlockWhole', WHERE WHAT IT READS IS OF BULK AT MOST 1048576: true; the input reads as it did. -/
def blockWholeUptoRow : OpenClaim := { program := "ytmhioeoioohmpaa", sum := "0c27f2b88338ab075914a44da32eb3906c398b6314dcfa37b8c268e6c1061c27", func := "taskmaster/taskmasterlaw9.BlockWhole", spec := "blockWhole", apart := false, narrowed := true }
def BlockWholeUptoSaid : Prop := blockWholeUptoRow.holds Try.pinned (OpenSpec.upto blockWholeSpec)

/-- 'taskmasterlaw9.BlockModes', WHERE WHAT IT READS IS OF BULK AT MOST 1048576: true; the input reads as it did. -/
def blockModesUptoRow : OpenClaim := { program := "ytmhioeoioohmpaa", sum := "0c27f2b88338ab075914a44da32eb3906c398b6314dcfa37b8c268e6c1061c27", func := "taskmaster/taskmasterlaw9.BlockModes", spec := "blockModes", apart := false, narrowed := true }
def BlockModesUptoSaid : Prop := blockModesUptoRow.holds Try.pinned (OpenSpec.upto blockModesSpec)

/-- 'taskmasterlaw9.BlockRegions', WHERE WHAT IT READS IS OF BULK AT MOST 1048576: true; the input reads as it did. -/
def blockRegionsUptoRow : OpenClaim := { program := "ytmhioeoioohmpaa", sum := "0c27f2b88338ab075914a44da32eb3906c398b6314dcfa37b8c268e6c1061c27", func := "taskmaster/taskmasterlaw9.BlockRegions", spec := "blockRegions", apart := false, narrowed := true }
def BlockRegionsUptoSaid : Prop := blockRegionsUptoRow.holds Try.pinned (OpenSpec.upto blockRegionsSpec)

end Rows
end Go.Proofs.Ytmhioeoioohmpaa

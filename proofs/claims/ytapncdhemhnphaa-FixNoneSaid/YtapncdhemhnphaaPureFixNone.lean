/- What is proved: for any base, loads and time: what fix.Least answers is a time in which just so much comes, and in no lesser time does; no conditions; the statement is the printed one (Pure). -/
import Derived.Test.YtapncdhemhnphaaFixTells
import Derived.Test.YtapncdhemhnphaaQFixxf6
import Derived.Test.YtapncdhemhnphaaOpenFix
namespace Go.Proofs.Ytapncdhemhnphaa.Pure
open Go.RowKit Go.Proofs.Ytapncdhemhnphaa.QFix Go.Proofs.YtapncdhemhnphaaW.PrintWords Go.Proofs.YtapncdhemhnphaaW.PrintLast Go.Proofs.Ytapncdhemhnphaa.FixPure Go.Proofs.Ytapncdhemhnphaa.FixMath
set_option linter.unusedVariables false

theorem FixNone (a : Int) (l : List S31) (w : Int) (_ : (Lit.int .i64 a).wf = true) (_ : ∀ y ∈ l, wf31 y) (_ : (Lit.int .i64 w).wf = true) : ∃ k, taskmasterlaw10_FixNone.f k a l w = some true := by
  refine ⟨200, ?_⟩
  unfold taskmasterlaw10_FixNone.f
  by_cases h : (l.length : Int) > 20
  · rw [if_pos h]
  · rw [if_neg h, Least_eq, Option.bind_some]
    rcases leastV_tells a l with ⟨h1, hg, h2⟩ | ⟨h1, h2⟩
    · rw [h1, if_pos rfl, Sum_eq _ _ _ 200 (by omega), Option.bind_some]
      rcases h2 with ⟨_, g1, g2, g3, g4⟩ | ⟨q, _⟩
      · generalize (leastV a l).1 = n at *
        have hs : sumV a l n = (tot a (prs l) n, true) := if_pos ⟨hg, by omega, by omega⟩
        rw [hs]
        simp only
        rw [if_pos trivial, if_pos g3, if_neg (by omega), decide_eq_false (by omega)]
        rw [taskmasterlaw10_FixNone.j0, if_neg (by simp)]
        have yes : taskmasterlaw10_FixNone.j1 199 a l w true = some true := by
          rw [taskmasterlaw10_FixNone.j1, if_pos rfl, known_eq]; rfl
        by_cases c0 : w < 1
        · rw [if_pos c0, yes]
        · rw [if_neg c0]
          by_cases c1 : w ≥ n
          · rw [decide_eq_true c1, yes]
          · rw [decide_eq_false c1, taskmasterlaw10_FixNone.j1, if_neg (by simp), Sum_eq _ _ _ 198 (by omega), Option.bind_some]
            have hs : sumV a l w = (tot a (prs l) w, true) := if_pos ⟨hg, by omega, by omega⟩
            rw [hs]
            simp only
            rw [if_pos trivial, if_pos (g4 w (by omega) (by omega)), known_eq]; rfl
      · cases q
    · rw [h1, h2, if_neg (by simp), if_pos rfl, known_eq]; rfl

end Go.Proofs.Ytapncdhemhnphaa.Pure

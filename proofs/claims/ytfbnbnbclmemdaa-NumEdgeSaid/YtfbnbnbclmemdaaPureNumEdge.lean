/- What is proved: for any int64 a: if a lies in 0..2^40 then num.Add(a, 2^40-a) is 2^40 and num.Add(a, 2^40-a+1) is refused; no conditions. The statement is the printed one (Pure); the row over it is printed. -/
import Derived.Test.YtfbnbnbclmemdaaNum
namespace Go.Proofs.Ytfbnbnbclmemdaa.Pure
open Go.RowKit Go.Proofs.Ytfbnbnbclmemdaa.PNumEdge Go.Proofs.YtfbnbnbclmemdaaW.PrintWords Go.Proofs.YtfbnbnbclmemdaaW.PrintLast Go.Proofs.Ytfbnbnbclmemdaa.Num
theorem NumEdge : taskmasterlaw1_NumEdge.Pure := by
  intro a ha
  refine ⟨1, ?_⟩
  unfold taskmasterlaw1_NumEdge.f
  by_cases h0 : a < 0
  · rw [if_pos h0]; simp only [taskmasterlaw1_NumEdge.j0, if_true]
  · rw [if_neg h0]
    simp only [taskmasterlaw1_NumEdge.j0]
    by_cases h1 : a > 1099511627776
    · rw [decide_eq_true h1, if_pos rfl]
    · rw [decide_eq_false h1, if_neg (by simp), w64 (n := 1099511627776 - a) (by omega) (by omega), w64 (n := 1099511627776 - a + 1) (by omega) (by omega), add_yes (by omega) (by omega) (by omega), add_no (by omega), Option.bind_some, Option.bind_some]
      simp only
      rw [if_pos trivial, if_pos (by omega), if_neg (by simp), known_yes, Option.bind_some]
end Go.Proofs.Ytfbnbnbclmemdaa.Pure

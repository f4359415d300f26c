/- What is proved: what known, fix.Sum and the reference's Sum of chapter 10 answer, in closed form; conditions as each theorem names them. -/
import Derived.Test.YtapncdhemhnphaaHandLeast
import Derived.Test.YtapncdhemhnphaaQFixxf10
import Derived.Test.YtapncdhemhnphaaQFixxf11
import Derived.Test.YtapncdhemhnphaaQFixxf12
namespace Go.Proofs.Ytapncdhemhnphaa.Pure
open Go.RowKit Go.Proofs.Ytapncdhemhnphaa.QFix Go.Proofs.YtapncdhemhnphaaW.PrintWords Go.Proofs.YtapncdhemhnphaaW.PrintLast Go.Proofs.Ytapncdhemhnphaa.FixPure Go.Proofs.Ytapncdhemhnphaa.FixMath
set_option linter.unusedVariables false

theorem known_eq : taskmasterlaw10_known.f = some true := by
  have e : fix_Least.f 3 (([(⟨4, 1⟩ : S31)] : List (S31))) = some (4, true) := by
    unfold fix_Least.f leastV
    have g : 0 ≤ (3 : Int) ∧ (3 : Int) ≤ 1000000 ∧ good (prs [(⟨4, 1⟩ : S31)]) := by
      refine ⟨by omega, by omega, ?_⟩
      unfold good prs
      refine ⟨by simp, fun x hx => ?_⟩
      simp at hx; subst hx; simp
    rw [if_pos g]
    have h := leastR_least (a := 3) g.2.2
    have hS : ∀ w, tot 3 (prs [(⟨4, 1⟩ : S31)]) w = 3 + 1 * ups w 4 := fun w => rfl
    have h2 : Least (tot 3 (prs [(⟨4, 1⟩ : S31)])) 4 true := by
      refine Or.inl ⟨rfl, by omega, by omega, by rw [hS]; rfl, fun w a b => ?_⟩
      rw [hS]
      have : ups w 4 = 1 := by unfold ups; omega
      omega
    have := h.unique h2
    exact congrArg some (Prod.ext this.1 this.2)
  unfold taskmasterlaw10_known.f
  rw [e]; rfl
theorem Sum_eq (a : Int) (l : List S31) (w : Int) (k : Nat) (hk : 100 < k) : fix_Sum.f k a l w = some (sumV a l w) := by
  unfold fix_Sum.f sumV
  rw [is_fix, Option.bind_some]
  by_cases h : 0 ≤ a ∧ a ≤ 1000000 ∧ good (prs l)
  · have h64 := h.2.2.1
    rw [prs_length] at h64
    rw [decide_eq_true h, if_pos rfl, isTop_eq, Option.bind_some]
    by_cases g : 0 ≤ w ∧ w ≤ 1000000
    · rw [decide_eq_true g, if_pos rfl, sum_eq h.2.2 h.1 h.2.1 g.1 g.2 k (by omega), Option.bind_some, if_pos ⟨h, g⟩]
    · rw [decide_eq_false g, if_neg (by simp), if_neg (fun q => g q.2)]
  · rw [decide_eq_false h, if_neg (by simp), if_neg (fun q => h q.1)]
theorem rSum_eq (a : Int) (l : List S31) (w : Int) (k : Nat) (hk : 100 < k) : taskmasterref10_Sum.f k a l w = some (sumV a l w) := by
  unfold taskmasterref10_Sum.f sumV
  rw [may_eq a l k (Or.inr (by omega)), Option.bind_some]
  by_cases h : 0 ≤ a ∧ a ≤ 1000000 ∧ good (prs l)
  · have h64 := h.2.2.1
    rw [prs_length] at h64
    rw [decide_eq_true h, if_pos rfl]
    by_cases g0 : w < 0
    · rw [if_pos g0, if_neg (by omega)]
    · rw [if_neg g0]
      by_cases g1 : w > 1000000
      · rw [if_pos g1, if_neg (by omega)]
      · rw [if_neg g1, rsum_eq h.2.2 h.1 h.2.1 (by omega) (by omega) k (by omega), Option.bind_some, if_pos ⟨h, by omega, by omega⟩]
  · rw [decide_eq_false h, if_neg (by simp), if_neg (fun q => h q.1)]
theorem Least_eq (a : Int) (l : List S31) : fix_Least.f a l = some (leastV a l) := rfl
/-- What is known of what fix.Least answers. -/
theorem leastV_tells (a : Int) (l : List S31) : ((leastV a l).2 = true ∧ (0 ≤ a ∧ a ≤ 1000000 ∧ good (prs l)) ∧ Least (tot a (prs l)) (leastV a l).1 true) ∨ ((leastV a l).2 = false ∧ (leastV a l).1 = 0) := by
  unfold leastV
  by_cases h : 0 ≤ a ∧ a ≤ 1000000 ∧ good (prs l)
  · rw [if_pos h]
    have g := leastR_least (a := a) h.2.2
    cases hb : (leastR a (prs l)).2 with
    | true => rw [hb] at g; exact Or.inl ⟨rfl, h, g⟩
    | false =>
      rw [hb] at g
      rcases g with ⟨q, _⟩ | ⟨_, q, _⟩
      · cases q
      · exact Or.inr ⟨rfl, q⟩
  · rw [if_neg h]; exact Or.inr ⟨rfl, rfl⟩
end Go.Proofs.Ytapncdhemhnphaa.Pure

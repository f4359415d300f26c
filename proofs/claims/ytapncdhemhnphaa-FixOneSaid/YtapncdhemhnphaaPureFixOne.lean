/- What is proved: for a base, a period and a cost in 0..300 (the period from 1 on): what fix.Least answers by one load, by hand; no conditions; the statement is the printed one (Pure). -/
import Derived.Test.YtapncdhemhnphaaFixTells
import Derived.Test.YtapncdhemhnphaaQFixxf7
import Derived.Test.YtapncdhemhnphaaOpenFix
namespace Go.Proofs.Ytapncdhemhnphaa.Pure
open Go.RowKit Go.Proofs.Ytapncdhemhnphaa.QFix Go.Proofs.YtapncdhemhnphaaW.PrintWords Go.Proofs.YtapncdhemhnphaaW.PrintLast Go.Proofs.Ytapncdhemhnphaa.FixPure Go.Proofs.Ytapncdhemhnphaa.FixMath
set_option linter.unusedVariables false

theorem one_tot (b t c w : Int) : tot b (prs [(⟨t, c⟩ : S31)]) w = b + c * ups w t := rfl
theorem one_good {t c : Int} (h0 : 1 ≤ t) (h1 : t ≤ 300) (h2 : 0 ≤ c) (h3 : c ≤ 300) : good (prs [(⟨t, c⟩ : S31)]) := by
  unfold good prs
  refine ⟨by simp, fun x hx => ?_⟩
  simp at hx; subst hx; simp; omega
theorem up_mul {w t : Int} (ht : 1 ≤ t) : ups w t * t ≤ w + t - 1 := Int.ediv_mul_le _ (by omega)
theorem up_mul' {w t : Int} (ht : 1 ≤ t) : w ≤ ups w t * t := by
  have := Int.lt_ediv_add_one_mul_self (w + t - 1) (show 0 < t by omega)
  unfold ups
  rw [Int.add_mul] at this; omega
theorem one_fits {b t c : Int} (b0 : 0 ≤ b) (b1 : b ≤ 300) (t0 : 1 ≤ t) (t1 : t ≤ 300) (c0 : 0 ≤ c) (hlt : c < t) :
    0 ≤ b * t + t * c ∧ b * t + t * c ≤ 180000 ∧ 0 ≤ (b * t + t * c) / (t - c) ∧ (b * t + t * c) / (t - c) ≤ 180000 ∧
    b + c * ups ((b * t + t * c) / (t - c) + 1) t ≤ (b * t + t * c) / (t - c) + 1 := by
  have x0 : 0 ≤ b * t := Int.mul_nonneg b0 (by omega)
  have x1 : b * t ≤ 300 * 300 := Int.mul_le_mul b1 t1 (by omega) (by omega)
  have x2 : 0 ≤ t * c := Int.mul_nonneg (by omega) c0
  have x3 : t * c ≤ 300 * 300 := Int.mul_le_mul t1 (by omega) (by omega) (by omega)
  have hq := Int.lt_ediv_add_one_mul_self (b * t + t * c) (show 0 < t - c by omega)
  have hq0 : 0 ≤ (b * t + t * c) / (t - c) := Int.ediv_nonneg (by omega) (by omega)
  have hq1 : (b * t + t * c) / (t - c) ≤ b * t + t * c := Int.ediv_le_self _ (by omega)
  refine ⟨by omega, by omega, hq0, by omega, ?_⟩
  generalize (b * t + t * c) / (t - c) + 1 = W at *
  have hu := up_mul (w := W) t0
  have key : (b + c * ups W t) * t ≤ W * t := by
    rw [Int.add_mul, Int.mul_assoc]
    have := Int.mul_le_mul_of_nonneg_left hu c0
    rw [show W + t - 1 = (W + (t - 1)) by omega, Int.mul_add, Int.mul_sub] at this
    rw [Int.mul_sub] at hq
    have e1 : c * W = W * c := Int.mul_comm _ _
    have e2 : c * t = t * c := Int.mul_comm _ _
    omega
  exact Int.le_of_mul_le_mul_right key (by omega)
theorem FixOne : taskmasterlaw10_FixOne.Pure := by
  intro b t c _ _ _
  refine ⟨300, ?_⟩
  have no : taskmasterlaw10_FixOne.j0 300 b t c true = some true := by rw [taskmasterlaw10_FixOne.j0, if_pos rfl]
  unfold taskmasterlaw10_FixOne.f
  by_cases b0 : b < 0
  · rw [if_pos b0, no]
  rw [if_neg b0]
  by_cases b1 : b > 300
  · rw [if_pos b1, no]
  rw [if_neg b1]
  by_cases t0 : t < 1
  · rw [if_pos t0, no]
  rw [if_neg t0]
  by_cases t1 : t > 300
  · rw [if_pos t1, no]
  rw [if_neg t1]
  by_cases c0 : c < 0
  · rw [if_pos c0, no]
  rw [if_neg c0]
  by_cases c1 : c > 300
  · rw [decide_eq_true c1, no]
  rw [decide_eq_false c1, taskmasterlaw10_FixOne.j0, if_neg (by simp), Least_eq, Option.bind_some]
  have hgood := one_good (t := t) (c := c) (by omega) (by omega) (by omega) (by omega)
  have hV : leastV b [(⟨t, c⟩ : S31)] = leastR b (prs [(⟨t, c⟩ : S31)]) := if_pos ⟨by omega, by omega, hgood⟩
  rw [hV]
  have hL := leastR_least (a := b) hgood
  have hS := one_tot b t c
  have hu1 : ups 1 t = 1 := by unfold ups; rw [show 1 + t - 1 = t by omega, Int.ediv_self (by omega)]
  have h1 : tot b (prs [(⟨t, c⟩ : S31)]) 1 = b + c := by rw [hS, hu1, Int.mul_one]
  have w64 : ∀ {n : Int}, -9223372036854775808 ≤ n → n ≤ 9223372036854775807 → wrap64 n = n := fun h0 h1 => by unfold wrap64; omega
  rw [w64 (n := b + c) (by omega) (by omega)]
  have hsum : ∀ n, 0 ≤ n → n ≤ 1000000 → fix_Sum.f 298 b [(⟨t, c⟩ : S31)] n = some (tot b (prs [(⟨t, c⟩ : S31)]) n, true) := fun n h0 h1 => by
    rw [Sum_eq _ _ _ 298 (by omega)]; unfold sumV; rw [if_pos ⟨⟨by omega, by omega, hgood⟩, h0, h1⟩]
  have end2 : ∀ (ok : Bool), (ok = (c == t)) → taskmasterlaw10_FixOne.j2 298 t c ok false = some true := fun ok h => by
    rw [taskmasterlaw10_FixOne.j2, if_neg (by simp), h, if_pos (by simp), known_eq]; rfl
  have end1 : taskmasterlaw10_FixOne.j2 298 t c false true = some true := by
    rw [taskmasterlaw10_FixOne.j2, if_pos rfl, if_neg (by simp), known_eq]; rfl
  generalize (leastR b (prs [(⟨t, c⟩ : S31)])).1 = r at *
  generalize (leastR b (prs [(⟨t, c⟩ : S31)])).2 = ok at *
  by_cases hlt : c < t
  · rw [if_pos hlt]
    by_cases hpos : b + c > 0
    · rw [decide_eq_true hpos, taskmasterlaw10_FixOne.j1, if_pos rfl]
      obtain ⟨x0, x1, q0, q1, hfit⟩ := one_fits (b := b) (t := t) (c := c) (by omega) (by omega) (by omega) (by omega) (by omega) hlt
      obtain ⟨rfl, hle⟩ := hL.le (w := (b * t + t * c) / (t - c) + 1) (by omega) (by omega) (by rw [hS]; exact hfit) (by omega)
      rcases hL with ⟨_, g1, g2, g3, _⟩ | ⟨q, _⟩
      · have y0 : 0 ≤ b * t := Int.mul_nonneg (by omega) (by omega)
        have y2 : 0 ≤ t * c := Int.mul_nonneg (by omega) (by omega)
        rw [hsum r (by omega) g2, Option.bind_some, if_pos rfl]
        simp only
        rw [if_pos (by simp), if_pos g3, w64 (n := t - c) (by omega) (by omega), if_neg (by omega), w64 (n := b * t) (by omega) (by omega), w64 (n := t * c) (by omega) (by omega), w64 (n := b * t + t * c) (by omega) (by omega),
          Int.tdiv_eq_ediv_of_nonneg x0, w64 (n := (b * t + t * c) / (t - c)) (by omega) (by omega), w64 (by omega) (by omega), if_pos (by omega), known_eq]; rfl
      · cases q
    · rw [decide_eq_false hpos, taskmasterlaw10_FixOne.j1, if_neg (by simp), if_neg (by omega), if_neg (by omega)]
      refine end2 ok ?_
      have hct : (c == t) = false := by simp; omega
      rw [hct]
      rcases hL with ⟨_, g1, g2, g3, _⟩ | ⟨q, _⟩
      · obtain rfl : b = 0 := by omega
        obtain rfl : c = 0 := by omega
        rw [hS, Int.zero_mul] at g3; omega
      · exact q
  · rw [if_neg hlt, taskmasterlaw10_FixOne.j1, if_neg (by simp)]
    by_cases hgt : c > t
    · rw [if_pos hgt]
      rcases hL with ⟨_, g1, g2, g3, _⟩ | ⟨rfl, _⟩
      · exfalso
        rw [hS] at g3
        have p1 := up_mul' (w := r) (t := t) (by omega)
        have p2 := up_pos (w := r) (t := t) (by omega) g1
        have p3 : (t + 1) * ups r t ≤ c * ups r t := Int.mul_le_mul_of_nonneg_right (by omega) (by omega)
        rw [Int.add_mul, Int.mul_comm t] at p3
        omega
      · exact end1
    · obtain rfl : c = t := by omega
      rw [if_neg hgt, if_pos rfl]
      by_cases hb : b > 0
      · rw [decide_eq_true hb]
        rcases hL with ⟨_, g1, g2, g3, _⟩ | ⟨rfl, _⟩
        · exfalso
          rw [hS, Int.mul_comm] at g3
          have p1 := up_mul' (w := r) (t := c) (by omega)
          omega
        · exact end1
      · rw [decide_eq_false hb]
        refine end2 ok ?_
        obtain rfl : b = 0 := by omega
        have hc : ups c c = 1 := by
          unfold ups
          rw [show c + c - 1 = (c - 1) + c * 1 by omega, Int.add_mul_ediv_left _ _ (by omega), Int.ediv_eq_zero_of_lt (by omega) (by omega)]; rfl
        obtain ⟨rfl, _⟩ := hL.le (w := c) (by omega) (by omega) (by rw [hS, hc]; omega) (by omega)
        simp

end Go.Proofs.Ytapncdhemhnphaa.Pure

/- What is proved: plain facts on num.Is, Floor, Ceil, Add as printed for NumEdge (what they answer, in closed form), for any two int64; no conditions. -/
import Derived.Test.YtfbnbnbclmemdaaPNumEdgex1
import Derived.PlainAid
namespace Go.Proofs.Ytfbnbnbclmemdaa.Num
set_option linter.unusedVariables false
open Go.RowKit Go.Proofs.Ytfbnbnbclmemdaa.PNumEdge Go.Proofs.YtfbnbnbclmemdaaW.PrintWords Go.Proofs.YtfbnbnbclmemdaaW.PrintLast

theorem is_eq (a : Int) : num_Is.f a = some (decide (0 ≤ a ∧ a ≤ 1099511627776)) := by
  unfold num_Is.f
  by_cases h : 0 ≤ a
  · rw [if_pos (show a ≥ 0 from h)]; simp [h]
  · rw [if_neg (show ¬ a ≥ 0 from h)]; simp [h]
theorem is_yes {a : Int} (h : 0 ≤ a ∧ a ≤ 1099511627776) : num_Is.f a = some true := by rw [is_eq, decide_eq_true h]
theorem is_no {a : Int} (h : ¬ (0 ≤ a ∧ a ≤ 1099511627776)) : num_Is.f a = some false := by rw [is_eq, decide_eq_false h]
theorem known_yes : taskmasterlaw1_known.f = some true := by decide +kernel
theorem w64 {n : Int} (h0 : -9223372036854775808 ≤ n) (h1 : n ≤ 9223372036854775807) : wrap64 n = n := by unfold wrap64; omega

theorem ediv_in {a b : Int} (h0 : 0 ≤ a) (h1 : a ≤ 1099511627776) (hb : 1 ≤ b) : 0 ≤ a / b ∧ a / b ≤ a := by
  refine ⟨Int.ediv_nonneg h0 (by omega), Int.ediv_le_self b h0⟩
theorem floor_yes {a b : Int} (h0 : 0 ≤ a) (h1 : a ≤ 1099511627776) (h2 : 1 ≤ b) (h3 : b ≤ 1099511627776) : num_Floor.f a b = some (a / b, true) := by
  have hd := ediv_in h0 h1 h2
  unfold num_Floor.f
  rw [is_yes ⟨h0, h1⟩, Option.bind_some, if_pos rfl, is_yes ⟨by omega, h3⟩, Option.bind_some, if_pos rfl, if_neg (by omega), Int.tdiv_eq_ediv_of_nonneg h0, w64 (by omega) (by omega)]
theorem floor_no {a b : Int} (h : ¬ (0 ≤ a ∧ a ≤ 1099511627776 ∧ 1 ≤ b ∧ b ≤ 1099511627776)) : num_Floor.f a b = some (0, false) := by
  unfold num_Floor.f
  by_cases ha : 0 ≤ a ∧ a ≤ 1099511627776
  · rw [is_yes ha, Option.bind_some, if_pos rfl]
    by_cases hb : 0 ≤ b ∧ b ≤ 1099511627776
    · rw [is_yes hb, Option.bind_some, if_pos rfl, if_pos (by omega)]
    · rw [is_no hb, Option.bind_some, if_neg (by simp)]
  · rw [is_no ha, Option.bind_some, if_neg (by simp)]
theorem part_eq (a b : Int) : a / b * b = a - a % b := by have := Int.emod_add_mul_ediv a b; rw [Int.mul_comm] at this; omega
theorem ceil_yes {a b : Int} (h0 : 0 ≤ a) (h1 : a ≤ 1099511627776) (h2 : 1 ≤ b) (h3 : b ≤ 1099511627776) :
    num_Ceil.f a b = some (if a % b = 0 then a / b else a / b + 1, true) := by
  have hd := ediv_in h0 h1 h2
  have hm := part_eq a b
  have hn := Int.emod_nonneg a (show b ≠ 0 by omega)
  have hl := Int.emod_lt_of_pos a (show 0 < b by omega)
  unfold num_Ceil.f
  rw [floor_yes h0 h1 h2 h3, Option.bind_some, if_pos rfl]
  simp only
  have hr : a % b ≤ a := by
    have := Int.mul_nonneg hd.1 (show 0 ≤ b by omega)
    omega
  rw [w64 (by omega) (by omega)]
  by_cases e : a % b = 0
  · rw [if_neg (by omega), if_pos e]
  · rw [if_pos (by omega), if_neg e, w64 (by omega) (by omega)]
theorem ceil_no {a b : Int} (h : ¬ (0 ≤ a ∧ a ≤ 1099511627776 ∧ 1 ≤ b ∧ b ≤ 1099511627776)) : num_Ceil.f a b = some (0, false) := by
  unfold num_Ceil.f
  rw [floor_no h, Option.bind_some, if_neg (by simp)]

theorem add_yes {a b : Int} (h0 : 0 ≤ a) (h1 : 0 ≤ b) (h2 : a + b ≤ 1099511627776) : num_Add.f a b = some (a + b, true) := by
  unfold num_Add.f num_told.f
  rw [is_yes ⟨h0, by omega⟩, Option.bind_some, if_pos rfl, is_yes ⟨h1, by omega⟩, Option.bind_some, if_pos rfl, if_pos rfl, w64 (by omega) (by omega), is_yes ⟨by omega, h2⟩, Option.bind_some, if_pos rfl, Option.bind_some]
theorem add_no {a b : Int} (h : ¬ (0 ≤ a ∧ 0 ≤ b ∧ a + b ≤ 1099511627776)) : num_Add.f a b = some (0, false) := by
  unfold num_Add.f num_told.f
  by_cases ha : 0 ≤ a ∧ a ≤ 1099511627776
  · rw [is_yes ha, Option.bind_some, if_pos rfl]
    by_cases hb : 0 ≤ b ∧ b ≤ 1099511627776
    · rw [is_yes hb, Option.bind_some, if_pos rfl, if_pos rfl, w64 (by omega) (by omega), is_no (by omega), Option.bind_some, if_neg (by simp), Option.bind_some]
    · rw [is_no hb, Option.bind_some, if_neg (by simp)]
  · rw [is_no ha, Option.bind_some, if_neg (by simp)]

end Go.Proofs.Ytfbnbnbclmemdaa.Num

/- What is proved: the walk of NumParts: called with any two int64 the law returns true; no conditions. -/
import Derived.Test.YtfbnbnbclmemdaaNum
namespace Go.Proofs.Ytfbnbnbclmemdaa.numParts
open Go.RowKit Go.Proofs.Ytfbnbnbclmemdaa.PNumEdge Go.Proofs.Ytfbnbnbclmemdaa.Num Go.Proofs.YtfbnbnbclmemdaaW.PrintWords Go.Proofs.YtfbnbnbclmemdaaW.PrintLast
set_option linter.unusedVariables false

set_option maxHeartbeats 1000000 in
theorem walk_yes (a b n l : Int) (h0 : 0 ≤ a) (h1 : a ≤ 1099511627776) (h2 : 1 ≤ b) (h3 : b ≤ 1099511627776) (n0 : 0 ≤ n) (n1 : n ≤ 1099511627776)
    (hp : wrap64 (a - wrap64 (n * b)) = l) (l0 : 0 ≤ l) (l1 : l < b) (hF : num_Floor.f a b = some (n, true)) (w : World) (hz : l = 0) (hC : num_Ceil.f a b = some (n, true)) :
    Calls Try.prog 3 #[.int .i64 a, .int .i64 b] w fun e w' => e = .returned (.bool true) ∧ Drawn0 w w' := by
  have A1 := Aside0.mk hF
  have A2 := Aside0.mk hC
  have A3 := Aside0.mk known_yes
  have e1 : (wrap64 (a - wrap64 (n * b)) == 0) = true := by rw [hp, hz]; rfl
  have e2 : decide (0 ≤ wrap64 (a - wrap64 (n * b))) = true := decide_eq_true (by omega)
  have e3 : decide (wrap64 (a - wrap64 (n * b)) < b) = true := decide_eq_true (by omega)
  clear hF hC hp hz
  go_enter Try.func3, Try.ntmps3
  go_wp2_with (first | (go_at_call 7; (with_reducible refine (num_Floor.calls a b n true _ A1.out).mono ?_); rintro e w' ⟨rfl, ⟨nd, rfl⟩⟩) | (go_at_call 8; (with_reducible refine (num_Ceil.calls a b n true _ A2.out).mono ?_); rintro e w' ⟨rfl, ⟨nd, rfl⟩⟩) | (go_at_call 9; (with_reducible refine (taskmasterlaw1_known.calls true _ A3.out).mono ?_); rintro e w' ⟨rfl, ⟨nd, rfl⟩⟩))
  go_ret
  exact ⟨by first | rfl | (simp; done) | (simp [*]; done), by repeat (first | exact Drawn0.refl _ | apply Drawn0.step)⟩

set_option maxHeartbeats 1000000 in
theorem walk_more (a b n m l : Int) (h0 : 0 ≤ a) (h1 : a ≤ 1099511627776) (h2 : 1 ≤ b) (h3 : b ≤ 1099511627776) (n0 : 0 ≤ n) (n1 : n ≤ 1099511627776)
    (hp : wrap64 (a - wrap64 (n * b)) = l) (l0 : 0 ≤ l) (l1 : l < b) (hF : num_Floor.f a b = some (n, true)) (w : World) (hz : l ≠ 0) (hC : num_Ceil.f a b = some (n + 1, true)) :
    Calls Try.prog 3 #[.int .i64 a, .int .i64 b] w fun e w' => e = .returned (.bool true) ∧ Drawn0 w w' := by
  have A1 := Aside0.mk hF
  have A2 := Aside0.mk hC
  have A3 := Aside0.mk known_yes
  have e1 : (wrap64 (a - wrap64 (n * b)) == 0) = false := by rw [hp]; simpa using hz
  have e2 : decide (0 ≤ wrap64 (a - wrap64 (n * b))) = true := decide_eq_true (by omega)
  have e3 : decide (wrap64 (a - wrap64 (n * b)) < b) = true := decide_eq_true (by omega)
  have e4 : (n + 1 == n) = false := by simp; omega
  clear hF hC hp hz
  go_enter Try.func3, Try.ntmps3
  go_wp2_with (first | (go_at_call 7; (with_reducible refine (num_Floor.calls a b n true _ A1.out).mono ?_); rintro e w' ⟨rfl, ⟨nd, rfl⟩⟩) | (go_at_call 8; (with_reducible refine (num_Ceil.calls a b (n + 1) true _ A2.out).mono ?_); rintro e w' ⟨rfl, ⟨nd, rfl⟩⟩) | (go_at_call 9; (with_reducible refine (taskmasterlaw1_known.calls true _ A3.out).mono ?_); rintro e w' ⟨rfl, ⟨nd, rfl⟩⟩))
  go_ret
  exact ⟨by first | rfl | (simp; done) | (simp [*]; done), by repeat (first | exact Drawn0.refl _ | apply Drawn0.step)⟩
set_option maxHeartbeats 1000000 in
theorem walk_no (a b : Int) (hF : num_Floor.f a b = some (0, false)) (hC : num_Ceil.f a b = some (0, false)) (w : World) (hn : (a < 0 ∧ decide (0 ≤ a) = false) ∨ (1099511627776 < a ∧ decide (0 ≤ a) = true ∧ decide (a ≤ 1099511627776) = false)
      ∨ (decide (0 ≤ a) = true ∧ decide (a ≤ 1099511627776) = true ∧ decide (1 ≤ b) = false) ∨ (decide (0 ≤ a) = true ∧ decide (a ≤ 1099511627776) = true ∧ decide (1 ≤ b) = true ∧ decide (b ≤ 1099511627776) = false)) :
    Calls Try.prog 3 #[.int .i64 a, .int .i64 b] w fun e w' => e = .returned (.bool true) ∧ Drawn0 w w' := by
  have A1 := Aside0.mk hF
  have A2 := Aside0.mk hC
  have A3 := Aside0.mk known_yes
  clear hF hC
  rcases hn with ⟨_, e1⟩ | ⟨_, e1, e2⟩ | ⟨e1, e2, e3⟩ | ⟨e1, e2, e3, e4⟩
  all_goals
    go_enter Try.func3, Try.ntmps3
    go_wp2_with (first | (go_at_call 7; (with_reducible refine (num_Floor.calls a b 0 false _ A1.out).mono ?_); rintro e w' ⟨rfl, ⟨nd, rfl⟩⟩) | (go_at_call 8; (with_reducible refine (num_Ceil.calls a b 0 false _ A2.out).mono ?_); rintro e w' ⟨rfl, ⟨nd, rfl⟩⟩) | (go_at_call 9; (with_reducible refine (taskmasterlaw1_known.calls true _ A3.out).mono ?_); rintro e w' ⟨rfl, ⟨nd, rfl⟩⟩))
    go_ret
    exact ⟨by first | rfl | (simp; done) | (simp [*]; done), by repeat (first | exact Drawn0.refl _ | apply Drawn0.step)⟩
theorem walk (a b : Int) (w0 : (Lit.int .i64 a).wf = true) (w1 : (Lit.int .i64 b).wf = true) (w : World) :
    Calls Try.prog 3 #[.int .i64 a, .int .i64 b] w fun e w' => e = .returned (.bool true) ∧ Grown w w' := by
  suffices H : Calls Try.prog 3 #[.int .i64 a, .int .i64 b] w fun e w' => e = .returned (.bool true) ∧ Drawn0 w w' from H.mono fun _ _ ⟨he, hd⟩ => ⟨he, hd.grown⟩
  by_cases h : 0 ≤ a ∧ a ≤ 1099511627776 ∧ 1 ≤ b ∧ b ≤ 1099511627776
  · obtain ⟨h0, h1, h2, h3⟩ := h
    have hd := ediv_in h0 h1 h2
    have hm := part_eq a b
    have hn := Int.emod_nonneg a (show b ≠ 0 by omega)
    have hl := Int.emod_lt_of_pos a (show 0 < b by omega)
    have hr : a % b ≤ a := by
      have := Int.mul_nonneg hd.1 (show 0 ≤ b by omega)
      omega
    have hp : wrap64 (a - wrap64 (a / b * b)) = a % b := by
      rw [w64 (n := a / b * b) (by omega) (by omega), w64 (by omega) (by omega)]; omega
    have hF := floor_yes h0 h1 h2 h3
    have hC := ceil_yes h0 h1 h2 h3
    by_cases z : a % b = 0
    · rw [if_pos z] at hC
      exact walk_yes a b (a / b) (a % b) h0 h1 h2 h3 hd.1 (by omega) hp hn hl hF w z hC
    · rw [if_neg z] at hC
      exact walk_more a b (a / b) (a / b + 1) (a % b) h0 h1 h2 h3 hd.1 (by omega) hp hn hl hF w z hC
  · refine walk_no a b (floor_no h) (ceil_no h) w ?_
    simp only [decide_eq_true_iff, decide_eq_false_iff_not]
    omega
end Go.Proofs.Ytfbnbnbclmemdaa.numParts

/- What is proved: the walk of NumOrder: called with any two int64 the law returns true; no conditions. -/
import Derived.Test.YtfbnbnbclmemdaaNumMul
namespace Go.Proofs.Ytfbnbnbclmemdaa.numOrder
open Go.RowKit Go.Proofs.Ytfbnbnbclmemdaa.PNumEdge Go.Proofs.Ytfbnbnbclmemdaa.Num Go.Proofs.YtfbnbnbclmemdaaW.PrintWords Go.Proofs.YtfbnbnbclmemdaaW.PrintLast
set_option linter.unusedVariables false
theorem addC {a b : Int} {x : Int} {p : Bool} (h : addR a b = (x, p)) (w : World) :
    Calls Try.prog 10 #[.int .i64 a, .int .i64 b] w fun e w' => e = .returned (.tuple #[.int .i64 x, .bool p]) ∧ Drawn0 w w' := by
  have := add_any a b w; rw [h] at this; exact this
theorem mulC {a b : Int} {x : Int} {p : Bool} (h : mulR a b = (x, p)) (w : World) :
    Calls Try.prog 11 #[.int .i64 a, .int .i64 b] w fun e w' => e = .returned (.tuple #[.int .i64 x, .bool p]) ∧ Drawn0 w w' := by
  have := mul_any a b w; rw [h] at this; exact this
/-- One walk for all: the six answers as variables, what the law asks of them decided. -/
theorem walk_any (a b x z u v : Int) (p r : Bool) (is : Bool) (hA : addR a b = (x, p)) (hB : addR b a = (x, p)) (hM : mulR a b = (z, r)) (hN : mulR b a = (z, r)) (hU : mulR a 1 = (u, is)) (hV : addR a 0 = (v, is))
    (hc : (is = true ∧ decide (0 ≤ a) = true ∧ decide (a ≤ 1099511627776) = true ∧ (u == a) = true ∧ (v == a) = true) ∨ (is = false ∧ decide (0 ≤ a) = false) ∨ (is = false ∧ decide (0 ≤ a) = true ∧ decide (a ≤ 1099511627776) = false)) (w : World) :
    Calls Try.prog 6 #[.int .i64 a, .int .i64 b] w fun e w' => e = .returned (.bool true) ∧ Drawn0 w w' := by
  have A1 := Aside0.mk hA
  have A2 := Aside0.mk hB
  have A3 := Aside0.mk hM
  have A4 := Aside0.mk hN
  have A5 := Aside0.mk hU
  have A6 := Aside0.mk hV
  clear hA hB hM hN hU hV
  rcases hc with ⟨rfl, e1, e2, e3, e4⟩ | ⟨rfl, e1⟩ | ⟨rfl, e1, e2⟩
  all_goals
    go_enter Try.func6, Try.ntmps6
    go_wp2_with (first | (go_at_call 10; (with_reducible refine (addC A1.out _).mono ?_); rintro e w' ⟨rfl, ⟨nd, rfl⟩⟩) | (go_at_call 10; (with_reducible refine (addC A2.out _).mono ?_); rintro e w' ⟨rfl, ⟨nd, rfl⟩⟩) | (go_at_call 11; (with_reducible refine (mulC A3.out _).mono ?_); rintro e w' ⟨rfl, ⟨nd, rfl⟩⟩) | (go_at_call 11; (with_reducible refine (mulC A4.out _).mono ?_); rintro e w' ⟨rfl, ⟨nd, rfl⟩⟩) | (go_at_call 11; (with_reducible refine (mulC A5.out _).mono ?_); rintro e w' ⟨rfl, ⟨nd, rfl⟩⟩) | (go_at_call 10; (with_reducible refine (addC A6.out _).mono ?_); rintro e w' ⟨rfl, ⟨nd, rfl⟩⟩) | (go_at_call 9; (with_reducible refine (known_any _).mono ?_); rintro e w' ⟨rfl, ⟨nd, rfl⟩⟩))
    go_ret
    exact ⟨by first | rfl | (simp; done) | (simp [*]; done), by repeat (first | exact Drawn0.refl _ | apply Drawn0.step)⟩
theorem walk (a b : Int) (w0 : (Lit.int .i64 a).wf = true) (w1 : (Lit.int .i64 b).wf = true) (w : World) :
    Calls Try.prog 6 #[.int .i64 a, .int .i64 b] w fun e w' => e = .returned (.bool true) ∧ Grown w w' := by
  suffices H : Calls Try.prog 6 #[.int .i64 a, .int .i64 b] w fun e w' => e = .returned (.bool true) ∧ Drawn0 w w' from H.mono fun _ _ ⟨he, hd⟩ => ⟨he, hd.grown⟩
  by_cases h : 0 ≤ a ∧ a ≤ 1099511627776
  · refine walk_any a b (addR a b).1 (mulR a b).1 a a (addR a b).2 (mulR a b).2 true rfl (addR_comm b a) rfl (mulR_comm b a) ?_ ?_ (Or.inl ⟨rfl, decide_eq_true h.1, decide_eq_true h.2, by simp, by simp⟩) w
    · rw [mulR_yes (by omega), Int.mul_one]
    · rw [addR_yes (by omega), Int.add_zero]
  · refine walk_any a b (addR a b).1 (mulR a b).1 0 0 (addR a b).2 (mulR a b).2 false rfl (addR_comm b a) rfl (mulR_comm b a) ?_ ?_ (Or.inr ?_) w
    · rw [mulR_no (by omega)]
    · rw [addR_no (by omega)]
    · simp only [true_and, decide_eq_true_iff, decide_eq_false_iff_not]; omega
end Go.Proofs.Ytfbnbnbclmemdaa.numOrder

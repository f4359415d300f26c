/- What is proved: the walk of NumTells: called with any two int64 the law returns true; no conditions. -/
import Derived.Test.YtfbnbnbclmemdaaNumMul
namespace Go.Proofs.Ytfbnbnbclmemdaa.numTells
open Go.RowKit Go.Proofs.Ytfbnbnbclmemdaa.PNumEdge Go.Proofs.Ytfbnbnbclmemdaa.Num Go.Proofs.YtfbnbnbclmemdaaW.PrintWords Go.Proofs.YtfbnbnbclmemdaaW.PrintLast
set_option linter.unusedVariables false
set_option linter.unusedSimpArgs false
/-- May a number be? -/
def isB (a : Int) : Bool := decide (0 ≤ a ∧ a ≤ 1099511627776)
theorem isB_yes {a : Int} (h : 0 ≤ a ∧ a ≤ 1099511627776) : isB a = true := decide_eq_true h
theorem isB_no {a : Int} (h : ¬ (0 ≤ a ∧ a ≤ 1099511627776)) : isB a = false := decide_eq_false h
theorem is_any (a : Int) (w : World) : Calls Try.prog 16 #[.int .i64 a] w fun e w' => e = .returned (.bool (isB a)) ∧ Drawn0 w w' :=
  num_Is.calls a _ w (is_eq a)
theorem is_at {a : Int} {b : Bool} (h : isB a = b) (w : World) : Calls Try.prog 16 #[.int .i64 a] w fun e w' => e = .returned (.bool b) ∧ Drawn0 w w' := by
  have := is_any a w; rw [h] at this; exact this
theorem ris_any (a : Int) (w : World) : Calls Try.prog 17 #[.int .i64 a] w fun e w' => e = .returned (.bool (isB a)) ∧ Drawn0 w w' := by
  by_cases h : 0 ≤ a ∧ a ≤ 1099511627776
  · rw [isB_yes h]
    obtain ⟨h0, h1⟩ := h
    go_enter Try.func17, Try.ntmps17
    go_wp2
    go_ret
    exact ⟨by first | rfl | (simp; done) | (simp [*]; done), by repeat (first | exact Drawn0.refl _ | apply Drawn0.step)⟩
  · rw [isB_no h]
    have e : decide (0 ≤ a) = false ∨ (decide (0 ≤ a) = true ∧ decide (a ≤ 1099511627776) = false) := by
      simp only [decide_eq_true_iff, decide_eq_false_iff_not]; omega
    clear h
    rcases e with e | ⟨e, e'⟩
    all_goals
      go_enter Try.func17, Try.ntmps17
      go_wp2
      go_ret
      exact ⟨by first | rfl | (simp; done) | (simp [*]; done), by repeat (first | exact Drawn0.refl _ | apply Drawn0.step)⟩
theorem ris_at {a : Int} {b : Bool} (h : isB a = b) (w : World) : Calls Try.prog 17 #[.int .i64 a] w fun e w' => e = .returned (.bool b) ∧ Drawn0 w w' := by
  have := ris_any a w; rw [h] at this; exact this
set_option maxHeartbeats 1000000 in
theorem radd_any (a b : Int) (wa : (Lit.int .i64 a).wf = true) (wb : (Lit.int .i64 b).wf = true) (w : World) :
    Calls Try.prog 12 #[.int .i64 a, .int .i64 b] w fun e w' => e = .returned (.tuple #[.int .i64 (addR a b).1, .bool (addR a b).2]) ∧ Drawn0 w w' := by
  by_cases ha : 0 ≤ a ∧ a ≤ 1099511627776
  · have A1 := Aside0.mk (isB_yes ha)
    by_cases hb : 0 ≤ b ∧ b ≤ 1099511627776
    · have A2 := Aside0.mk (isB_yes hb)
      by_cases hc : 0 ≤ a + b ∧ a + b ≤ 1099511627776
      · rw [addR_yes (by omega)]
        have A3 := Aside0.mk (isB_yes hc)
        obtain ⟨x0, x1⟩ := ha
        obtain ⟨y0, y1⟩ := hb
        clear hc
        go_enter Try.func12, Try.ntmps12
        go_wp2_with (first | (go_at_call 17; (with_reducible refine (ris_at A1.out _).mono ?_); rintro e w' ⟨rfl, ⟨nd, rfl⟩⟩) | (go_at_call 17; (with_reducible refine (ris_at A2.out _).mono ?_); rintro e w' ⟨rfl, ⟨nd, rfl⟩⟩) | (go_at_call 17; (with_reducible refine (ris_at A3.out _).mono ?_); rintro e w' ⟨rfl, ⟨nd, rfl⟩⟩))
        go_ret2
        exact ⟨by first | rfl | (simp; done) | (simp [*]; done), by repeat (first | exact Drawn0.refl _ | apply Drawn0.step)⟩
      · rw [addR_no (by omega)]
        have A3 := Aside0.mk (isB_no hc)
        obtain ⟨x0, x1⟩ := ha
        obtain ⟨y0, y1⟩ := hb
        clear hc
        go_enter Try.func12, Try.ntmps12
        go_wp2_with (first | (go_at_call 17; (with_reducible refine (ris_at A1.out _).mono ?_); rintro e w' ⟨rfl, ⟨nd, rfl⟩⟩) | (go_at_call 17; (with_reducible refine (ris_at A2.out _).mono ?_); rintro e w' ⟨rfl, ⟨nd, rfl⟩⟩) | (go_at_call 17; (with_reducible refine (ris_at A3.out _).mono ?_); rintro e w' ⟨rfl, ⟨nd, rfl⟩⟩))
        go_ret2
        exact ⟨by first | rfl | (simp; done) | (simp [*]; done), by repeat (first | exact Drawn0.refl _ | apply Drawn0.step)⟩
    · rw [addR_no (by omega)]
      have A2 := Aside0.mk (isB_no hb)
      clear ha hb
      go_enter Try.func12, Try.ntmps12
      go_wp2_with (first | (go_at_call 17; (with_reducible refine (ris_at A1.out _).mono ?_); rintro e w' ⟨rfl, ⟨nd, rfl⟩⟩) | (go_at_call 17; (with_reducible refine (ris_at A2.out _).mono ?_); rintro e w' ⟨rfl, ⟨nd, rfl⟩⟩))
      go_ret2
      exact ⟨by first | rfl | (simp; done) | (simp [*]; done), by repeat (first | exact Drawn0.refl _ | apply Drawn0.step)⟩
  · rw [addR_no (by omega)]
    have A1 := Aside0.mk (isB_no ha)
    clear ha
    go_enter Try.func12, Try.ntmps12
    go_wp2_with (first | (go_at_call 17; (with_reducible refine (ris_at A1.out _).mono ?_); rintro e w' ⟨rfl, ⟨nd, rfl⟩⟩))
    go_ret2
    exact ⟨by first | rfl | (simp; done) | (simp [*]; done), by repeat (first | exact Drawn0.refl _ | apply Drawn0.step)⟩
set_option maxHeartbeats 1000000 in
theorem rmul_in (a b : Int) (h0 : 0 < a) (h1 : a ≤ 1099511627776) (h2 : 0 ≤ b) (h3 : b ≤ 1099511627776) (w : World) :
    Calls Try.prog 13 #[.int .i64 a, .int .i64 b] w fun e w' => e = .returned (.tuple #[.int .i64 (mulR a b).1, .bool (mulR a b).2]) ∧ Drawn0 w w' := by
  have A1 := Aside0.mk (isB_yes (a := a) (by omega))
  have A2 := Aside0.mk (isB_yes (a := b) (by omega))
  have hd : 0 ≤ 1099511627776 / a ∧ 1099511627776 / a ≤ 1099511627776 := ediv_in (a := 1099511627776) (by omega) (by omega) (by omega)
  have key : b ≤ 1099511627776 / a ↔ b * a ≤ 1099511627776 := Int.le_ediv_iff_mul_le h0
  have hn : 0 ≤ b * a := Int.mul_nonneg h2 (by omega)
  rw [Int.mul_comm b a] at key hn
  have ez : (a == 0) = false := by simp; omega
  have ed : wrap64 (1099511627776 / a) = 1099511627776 / a := w64 (by omega) (by omega)
  have et : Int.tdiv 1099511627776 a = 1099511627776 / a := Int.tdiv_eq_ediv_of_nonneg (by omega)
  by_cases hc : 1099511627776 / a < b
  · rw [mulR_no (by omega)]
    have e1 : decide (1099511627776 / a < b) = true := decide_eq_true hc
    clear key hn
    have H := Aside0.mk hc
    clear hc
    generalize 1099511627776 / a = d at *
    go_enter Try.func13, Try.ntmps13
    go_wp2_with (first | (go_at_call 17; (with_reducible refine (ris_at A1.out _).mono ?_); rintro e w' ⟨rfl, ⟨nd, rfl⟩⟩) | (go_at_call 17; (with_reducible refine (ris_at A2.out _).mono ?_); rintro e w' ⟨rfl, ⟨nd, rfl⟩⟩))
    go_ret2
    exact ⟨by first | rfl | (simp; done) | (simp [*]; done), by repeat (first | exact Drawn0.refl _ | apply Drawn0.step)⟩
  · have hq : a * b ≤ 1099511627776 := key.1 (by omega)
    rw [mulR_yes ⟨by omega, h1, h2, h3, hq⟩]
    have e1 : decide (1099511627776 / a < b) = false := decide_eq_false hc
    have ew : wrap64 (a * b) = a * b := w64 (by omega) (by omega)
    have W := Aside0.mk ew
    clear key hn hq ew hc
    generalize 1099511627776 / a = d at *
    go_enter Try.func13, Try.ntmps13
    go_wp2_with (first | (go_at_call 17; (with_reducible refine (ris_at A1.out _).mono ?_); rintro e w' ⟨rfl, ⟨nd, rfl⟩⟩) | (go_at_call 17; (with_reducible refine (ris_at A2.out _).mono ?_); rintro e w' ⟨rfl, ⟨nd, rfl⟩⟩))
    go_ret2
    exact ⟨by first | rfl | (rw [W.out]; done) | (simp [W.out]; done), by repeat (first | exact Drawn0.refl _ | apply Drawn0.step)⟩

set_option maxHeartbeats 1000000 in
theorem rmul_any (a b : Int) (w : World) :
    Calls Try.prog 13 #[.int .i64 a, .int .i64 b] w fun e w' => e = .returned (.tuple #[.int .i64 (mulR a b).1, .bool (mulR a b).2]) ∧ Drawn0 w w' := by
  by_cases ha : 0 ≤ a ∧ a ≤ 1099511627776
  · by_cases hb : 0 ≤ b ∧ b ≤ 1099511627776
    · by_cases hz : 0 < a
      · exact rmul_in a b hz ha.2 hb.1 hb.2 w
      · obtain rfl : a = 0 := by omega
        rw [mulR_yes (by omega), Int.zero_mul]
        have A1 := Aside0.mk (isB_yes ha)
        have A2 := Aside0.mk (isB_yes hb)
        obtain ⟨y0, y1⟩ := hb
        clear ha hz
        go_enter Try.func13, Try.ntmps13
        go_wp2_with (first | (go_at_call 17; (with_reducible refine (ris_at A1.out _).mono ?_); rintro e w' ⟨rfl, ⟨nd, rfl⟩⟩) | (go_at_call 17; (with_reducible refine (ris_at A2.out _).mono ?_); rintro e w' ⟨rfl, ⟨nd, rfl⟩⟩))
        go_ret2
        exact ⟨by first | rfl | (simp; done) | (simp [*]; done), by repeat (first | exact Drawn0.refl _ | apply Drawn0.step)⟩
    · rw [mulR_no (by omega)]
      have A1 := Aside0.mk (isB_yes ha)
      have A2 := Aside0.mk (isB_no hb)
      clear ha hb
      go_enter Try.func13, Try.ntmps13
      go_wp2_with (first | (go_at_call 17; (with_reducible refine (ris_at A1.out _).mono ?_); rintro e w' ⟨rfl, ⟨nd, rfl⟩⟩) | (go_at_call 17; (with_reducible refine (ris_at A2.out _).mono ?_); rintro e w' ⟨rfl, ⟨nd, rfl⟩⟩))
      go_ret2
      exact ⟨by first | rfl | (simp; done) | (simp [*]; done), by repeat (first | exact Drawn0.refl _ | apply Drawn0.step)⟩
  · rw [mulR_no (by omega)]
    have A1 := Aside0.mk (isB_no ha)
    clear ha
    go_enter Try.func13, Try.ntmps13
    go_wp2_with (first | (go_at_call 17; (with_reducible refine (ris_at A1.out _).mono ?_); rintro e w' ⟨rfl, ⟨nd, rfl⟩⟩))
    go_ret2
    exact ⟨by first | rfl | (simp; done) | (simp [*]; done), by repeat (first | exact Drawn0.refl _ | apply Drawn0.step)⟩
theorem floorR_yes {a b : Int} (h : 0 ≤ a ∧ a ≤ 1099511627776 ∧ 1 ≤ b ∧ b ≤ 1099511627776) : floorR a b = (a / b, true) := if_pos h
theorem floorR_no {a b : Int} (h : ¬ (0 ≤ a ∧ a ≤ 1099511627776 ∧ 1 ≤ b ∧ b ≤ 1099511627776)) : floorR a b = (0, false) := if_neg h
set_option maxHeartbeats 1000000 in
theorem rfloor_any (a b : Int) (w : World) :
    Calls Try.prog 15 #[.int .i64 a, .int .i64 b] w fun e w' => e = .returned (.tuple #[.int .i64 (floorR a b).1, .bool (floorR a b).2]) ∧ Drawn0 w w' := by
  by_cases ha : 0 ≤ a ∧ a ≤ 1099511627776
  · have A1 := Aside0.mk (isB_yes ha)
    by_cases hb : 0 ≤ b ∧ b ≤ 1099511627776
    · have A2 := Aside0.mk (isB_yes hb)
      obtain ⟨x0, x1⟩ := ha
      obtain ⟨y0, y1⟩ := hb
      by_cases hz : b = 0
      · subst hz
        rw [floorR_no (by omega)]
        go_enter Try.func15, Try.ntmps15
        go_wp2_with (first | (go_at_call 17; (with_reducible refine (ris_at A1.out _).mono ?_); rintro e w' ⟨rfl, ⟨nd, rfl⟩⟩) | (go_at_call 17; (with_reducible refine (ris_at A2.out _).mono ?_); rintro e w' ⟨rfl, ⟨nd, rfl⟩⟩))
        go_ret2
        exact ⟨by first | rfl | (simp; done) | (simp [*]; done), by repeat (first | exact Drawn0.refl _ | apply Drawn0.step)⟩
      · rw [floorR_yes (by omega)]
        have hd := ediv_in x0 x1 (show 1 ≤ b by omega)
        have e1 : (b == 0) = false := by simpa using hz
        have et := Aside0.mk (show Int.tdiv a b = a / b from Int.tdiv_eq_ediv_of_nonneg (by omega))
        have ew := Aside0.mk (show wrap64 (a / b) = a / b from w64 (by omega) (by omega))
        clear hd
        go_enter Try.func15, Try.ntmps15
        go_wp2_with (first | (go_at_call 17; (with_reducible refine (ris_at A1.out _).mono ?_); rintro e w' ⟨rfl, ⟨nd, rfl⟩⟩) | (go_at_call 17; (with_reducible refine (ris_at A2.out _).mono ?_); rintro e w' ⟨rfl, ⟨nd, rfl⟩⟩))
        go_ret2
        exact ⟨by first | rfl | (rw [et.out, ew.out]; done) | (rw [ew.out]; done) | (simp [et.out, ew.out]; done), by repeat (first | exact Drawn0.refl _ | apply Drawn0.step)⟩
    · rw [floorR_no (by omega)]
      have A2 := Aside0.mk (isB_no hb)
      clear ha hb
      go_enter Try.func15, Try.ntmps15
      go_wp2_with (first | (go_at_call 17; (with_reducible refine (ris_at A1.out _).mono ?_); rintro e w' ⟨rfl, ⟨nd, rfl⟩⟩) | (go_at_call 17; (with_reducible refine (ris_at A2.out _).mono ?_); rintro e w' ⟨rfl, ⟨nd, rfl⟩⟩))
      go_ret2
      exact ⟨by first | rfl | (simp; done) | (simp [*]; done), by repeat (first | exact Drawn0.refl _ | apply Drawn0.step)⟩
  · rw [floorR_no (by omega)]
    have A1 := Aside0.mk (isB_no ha)
    clear ha
    go_enter Try.func15, Try.ntmps15
    go_wp2_with (first | (go_at_call 17; (with_reducible refine (ris_at A1.out _).mono ?_); rintro e w' ⟨rfl, ⟨nd, rfl⟩⟩))
    go_ret2
    exact ⟨by first | rfl | (simp; done) | (simp [*]; done), by repeat (first | exact Drawn0.refl _ | apply Drawn0.step)⟩
theorem rfloor_at {a b n : Int} {p : Bool} (h : floorR a b = (n, p)) (w : World) :
    Calls Try.prog 15 #[.int .i64 a, .int .i64 b] w fun e w' => e = .returned (.tuple #[.int .i64 n, .bool p]) ∧ Drawn0 w w' := by
  have := rfloor_any a b w; rw [h] at this; exact this
set_option maxHeartbeats 1000000 in
theorem rceil_any (a b : Int) (w : World) :
    Calls Try.prog 14 #[.int .i64 a, .int .i64 b] w fun e w' => e = .returned (.tuple #[.int .i64 (ceilR a b).1, .bool (ceilR a b).2]) ∧ Drawn0 w w' := by
  by_cases h : 0 ≤ a ∧ a ≤ 1099511627776 ∧ 1 ≤ b ∧ b ≤ 1099511627776
  · have A1 := Aside0.mk (floorR_yes h)
    unfold ceilR
    rw [if_pos h]
    obtain ⟨h0, h1, h2, h3⟩ := h
    have hd := ediv_in h0 h1 h2
    have hm := part_eq a b
    have hn := Int.emod_nonneg a (show b ≠ 0 by omega)
    have hl := Int.emod_lt_of_pos a (show 0 < b by omega)
    have hr : a % b ≤ a := by
      have := Int.mul_nonneg hd.1 (show 0 ≤ b by omega)
      omega
    have ew : wrap64 (a / b * b) = a - a % b := by rw [w64 (by omega) (by omega)]; omega
    by_cases z : a % b = 0
    · rw [if_pos z]
      have e1 : decide (wrap64 (a / b * b) < a) = false := decide_eq_false (by omega)
      clear hm hr ew z hn hl
      generalize a / b = n at *
      obtain ⟨n0, n1⟩ := hd
      go_enter Try.func14, Try.ntmps14
      go_wp2_with (first | (go_at_call 15; (with_reducible refine (rfloor_at A1.out _).mono ?_); rintro e w' ⟨rfl, ⟨nd, rfl⟩⟩))
      go_ret2
      exact ⟨by first | rfl | (simp; done) | (simp [*]; done), by repeat (first | exact Drawn0.refl _ | apply Drawn0.step)⟩
    · rw [if_neg z]
      have e1 : decide (wrap64 (a / b * b) < a) = true := decide_eq_true (by omega)
      clear hm hr ew z hn hl
      generalize a / b = n at *
      obtain ⟨n0, n1⟩ := hd
      go_enter Try.func14, Try.ntmps14
      go_wp2_with (first | (go_at_call 15; (with_reducible refine (rfloor_at A1.out _).mono ?_); rintro e w' ⟨rfl, ⟨nd, rfl⟩⟩))
      go_ret2
      exact ⟨by first | rfl | (simp; done) | (simp [*]; done), by repeat (first | exact Drawn0.refl _ | apply Drawn0.step)⟩
  · have A1 := Aside0.mk (floorR_no h)
    unfold ceilR
    rw [if_neg h]
    clear h
    go_enter Try.func14, Try.ntmps14
    go_wp2_with (first | (go_at_call 15; (with_reducible refine (rfloor_at A1.out _).mono ?_); rintro e w' ⟨rfl, ⟨nd, rfl⟩⟩))
    go_ret2
    exact ⟨by first | rfl | (simp; done) | (simp [*]; done), by repeat (first | exact Drawn0.refl _ | apply Drawn0.step)⟩
set_option maxHeartbeats 1000000 in
theorem walk_any (a b x y z u : Int) (p q r s is : Bool) (wa : (Lit.int .i64 a).wf = true) (wb : (Lit.int .i64 b).wf = true) (hA : addR a b = (x, p)) (hM : mulR a b = (y, q)) (hC : ceilR a b = (z, r)) (hF : floorR a b = (u, s)) (hI : isB a = is) (w : World) :
    Calls Try.prog 5 #[.int .i64 a, .int .i64 b] w fun e w' => e = .returned (.bool true) ∧ Drawn0 w w' := by
  have A1 := Aside0.mk (show ∀ w, Calls Try.prog 10 #[.int .i64 a, .int .i64 b] w fun e w' => e = .returned (.tuple #[.int .i64 x, .bool p]) ∧ Drawn0 w w' by intro w; have := add_any a b w; rw [hA] at this; exact this)
  have A2 := Aside0.mk (show ∀ w, Calls Try.prog 11 #[.int .i64 a, .int .i64 b] w fun e w' => e = .returned (.tuple #[.int .i64 y, .bool q]) ∧ Drawn0 w w' by intro w; have := mul_any a b w; rw [hM] at this; exact this)
  have A3 := Aside0.mk (show ∀ w, Calls Try.prog 8 #[.int .i64 a, .int .i64 b] w fun e w' => e = .returned (.tuple #[.int .i64 z, .bool r]) ∧ Drawn0 w w' by intro w; have := ceil_any a b w; rw [hC] at this; exact this)
  have A4 := Aside0.mk (show ∀ w, Calls Try.prog 7 #[.int .i64 a, .int .i64 b] w fun e w' => e = .returned (.tuple #[.int .i64 u, .bool s]) ∧ Drawn0 w w' by intro w; have := floor_any a b w; rw [hF] at this; exact this)
  have B1 := Aside0.mk (show ∀ w, Calls Try.prog 12 #[.int .i64 a, .int .i64 b] w fun e w' => e = .returned (.tuple #[.int .i64 x, .bool p]) ∧ Drawn0 w w' by intro w; have := radd_any a b wa wb w; rw [hA] at this; exact this)
  have B2 := Aside0.mk (show ∀ w, Calls Try.prog 13 #[.int .i64 a, .int .i64 b] w fun e w' => e = .returned (.tuple #[.int .i64 y, .bool q]) ∧ Drawn0 w w' by intro w; have := rmul_any a b w; rw [hM] at this; exact this)
  have B3 := Aside0.mk (show ∀ w, Calls Try.prog 14 #[.int .i64 a, .int .i64 b] w fun e w' => e = .returned (.tuple #[.int .i64 z, .bool r]) ∧ Drawn0 w w' by intro w; have := rceil_any a b w; rw [hC] at this; exact this)
  have B4 := Aside0.mk (show ∀ w, Calls Try.prog 15 #[.int .i64 a, .int .i64 b] w fun e w' => e = .returned (.tuple #[.int .i64 u, .bool s]) ∧ Drawn0 w w' by intro w; have := rfloor_any a b w; rw [hF] at this; exact this)
  have I := Aside0.mk hI
  clear hA hM hC hF hI wa wb
  go_enter Try.func5, Try.ntmps5
  go_wp2_with (first | (go_at_call 10; (with_reducible refine (A1.out _).mono ?_); rintro e w' ⟨rfl, ⟨nd, rfl⟩⟩) | (go_at_call 11; (with_reducible refine (A2.out _).mono ?_); rintro e w' ⟨rfl, ⟨nd, rfl⟩⟩) | (go_at_call 8; (with_reducible refine (A3.out _).mono ?_); rintro e w' ⟨rfl, ⟨nd, rfl⟩⟩) | (go_at_call 7; (with_reducible refine (A4.out _).mono ?_); rintro e w' ⟨rfl, ⟨nd, rfl⟩⟩) | (go_at_call 12; (with_reducible refine (B1.out _).mono ?_); rintro e w' ⟨rfl, ⟨nd, rfl⟩⟩) | (go_at_call 13; (with_reducible refine (B2.out _).mono ?_); rintro e w' ⟨rfl, ⟨nd, rfl⟩⟩) | (go_at_call 14; (with_reducible refine (B3.out _).mono ?_); rintro e w' ⟨rfl, ⟨nd, rfl⟩⟩) | (go_at_call 15; (with_reducible refine (B4.out _).mono ?_); rintro e w' ⟨rfl, ⟨nd, rfl⟩⟩) | (go_at_call 16; (with_reducible refine (is_at I.out _).mono ?_); rintro e w' ⟨rfl, ⟨nd, rfl⟩⟩) | (go_at_call 17; (with_reducible refine (ris_at I.out _).mono ?_); rintro e w' ⟨rfl, ⟨nd, rfl⟩⟩) | (go_at_call 9; (with_reducible refine (known_any _).mono ?_); rintro e w' ⟨rfl, ⟨nd, rfl⟩⟩))
  go_ret
  exact ⟨by first | rfl | (simp; done) | (simp [*]; done), by repeat (first | exact Drawn0.refl _ | apply Drawn0.step)⟩
theorem walk (a b : Int) (w0 : (Lit.int .i64 a).wf = true) (w1 : (Lit.int .i64 b).wf = true) (w : World) :
    Calls Try.prog 5 #[.int .i64 a, .int .i64 b] w fun e w' => e = .returned (.bool true) ∧ Grown w w' :=
  (walk_any a b _ _ _ _ _ _ _ _ _ w0 w1 rfl rfl rfl rfl rfl w).mono fun _ _ ⟨he, hd⟩ => ⟨he, hd.grown⟩
end Go.Proofs.Ytfbnbnbclmemdaa.numTells

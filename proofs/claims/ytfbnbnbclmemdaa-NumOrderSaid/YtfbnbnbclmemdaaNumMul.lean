/- What is proved: what math/bits.Mul64 and num.Mul answer: for a, b in 0..2^40 the product's two words; num.Mul's product where it is no more than 2^40, else a refusal; conditions as each theorem names them. -/
import Derived.Test.YtfbnbnbclmemdaaNum
namespace Go.Proofs.Ytfbnbnbclmemdaa.Num
open Go.RowKit Go.Proofs.Ytfbnbnbclmemdaa.PNumEdge Go.Proofs.YtfbnbnbclmemdaaW.PrintWords Go.Proofs.YtfbnbnbclmemdaaW.PrintLast
set_option linter.unusedVariables false

theorem u64w (n : Int) (h0 : 0 ≤ n) (h1 : n < 18446744073709551616) : IntKind.u64.wrap n = n := by rw [IntKind.wrap_u64]; omega
theorem low32 {n : Int} (h0 : 0 ≤ n) (h1 : n < 18446744073709551616) : Go.bits .and .u64 n 4294967295 = n % 4294967296 :=
  bits_mask .u64 64 (by decide) (fun n h0 h1 => u64w n h0 h1) 32 (by decide) n h0 h1
theorem high_of {p q r s : Int} (hp0 : 0 ≤ p) (hp : p ≤ 256 * 256) (hq0 : 0 ≤ q) (hq : q ≤ 256 * 4294967295) (hr0 : 0 ≤ r) (hr : r ≤ 256 * 4294967295) (hs0 : 0 ≤ s) (hs : s ≤ 4294967295 * 4294967295) :
    p + (q + s / 4294967296) / 4294967296 + ((q + s / 4294967296) % 4294967296 + r) / 4294967296 = (p * 18446744073709551616 + (q + r) * 4294967296 + s) / 18446744073709551616 := by
  omega
/-- The high word, as the code reckons it out of the halves. -/
def high (a b : Int) : Int :=
  IntKind.u64.wrap ((IntKind.u64.wrap ((IntKind.u64.wrap ((a / 4294967296) * (b / 4294967296))) + ((IntKind.u64.wrap ((IntKind.u64.wrap ((a / 4294967296) * (Go.bits .and .u64 b 4294967295))) + ((IntKind.u64.wrap ((Go.bits .and .u64 a 4294967295) * (Go.bits .and .u64 b 4294967295))) / 4294967296))) / 4294967296))) + ((IntKind.u64.wrap ((Go.bits .and .u64 (IntKind.u64.wrap ((IntKind.u64.wrap ((a / 4294967296) * (Go.bits .and .u64 b 4294967295))) + ((IntKind.u64.wrap ((Go.bits .and .u64 a 4294967295) * (Go.bits .and .u64 b 4294967295))) / 4294967296))) 4294967295) + (IntKind.u64.wrap ((Go.bits .and .u64 a 4294967295) * (b / 4294967296))))) / 4294967296))
theorem mul64_raw (a b : Int) (w : World) :
    Calls Try.prog 19 #[.int .u64 a, .int .u64 b] w fun e w' => e = .returned (.tuple #[.int .u64 (high a b), .int .u64 (IntKind.u64.wrap (a * b))]) ∧ Drawn0 w w' := by
  go_enter Try.func19, Try.ntmps19
  go_wp2
  go_ret2
  exact ⟨by unfold high; rfl, by repeat (first | exact Drawn0.refl _ | apply Drawn0.step)⟩
theorem high_eq {a b : Int} (h0 : 0 ≤ a) (h1 : a ≤ 1099511627776) (h2 : 0 ≤ b) (h3 : b ≤ 1099511627776) : high a b = a * b / 18446744073709551616 := by
  unfold high
  rw [low32 h0 (by omega), low32 h2 (by omega)]
  have a1 : 0 ≤ a / 4294967296 ∧ a / 4294967296 ≤ 256 := by omega
  have b1 : 0 ≤ b / 4294967296 ∧ b / 4294967296 ≤ 256 := by omega
  have a0 : 0 ≤ a % 4294967296 ∧ a % 4294967296 ≤ 4294967295 := by omega
  have b0 : 0 ≤ b % 4294967296 ∧ b % 4294967296 ≤ 4294967295 := by omega
  have ea : a = a / 4294967296 * 4294967296 + a % 4294967296 := by omega
  have eb : b = b / 4294967296 * 4294967296 + b % 4294967296 := by omega
  generalize a / 4294967296 = A at *
  generalize b / 4294967296 = B at *
  generalize a % 4294967296 = C at *
  generalize b % 4294967296 = D at *
  have p0 : 0 ≤ A * B := Int.mul_nonneg a1.1 b1.1
  have p1 : A * B ≤ 256 * 256 := Int.mul_le_mul a1.2 b1.2 b1.1 (by omega)
  have q0 : 0 ≤ A * D := Int.mul_nonneg a1.1 b0.1
  have q1 : A * D ≤ 256 * 4294967295 := Int.mul_le_mul a1.2 b0.2 b0.1 (by omega)
  have r0 : 0 ≤ C * B := Int.mul_nonneg a0.1 b1.1
  have r1 : C * B ≤ 256 * 4294967295 := by have := Int.mul_le_mul a0.2 b1.2 b1.1 (by omega); omega
  have s0 : 0 ≤ C * D := Int.mul_nonneg a0.1 b0.1
  have s1 : C * D ≤ 4294967295 * 4294967295 := Int.mul_le_mul a0.2 b0.2 b0.1 (by omega)
  have key := high_of p0 p1 q0 q1 r0 r1 s0 s1
  have eab : a * b = A * B * 18446744073709551616 + (A * D + C * B) * 4294967296 + C * D := by
    rw [ea, eb, Int.add_mul, Int.mul_add, Int.mul_add]
    have x1 : A * 4294967296 * (B * 4294967296) = A * B * 18446744073709551616 := by rw [Int.mul_assoc, Int.mul_left_comm 4294967296 B, ← Int.mul_assoc]; rfl
    have x2 : A * 4294967296 * D = A * D * 4294967296 := by rw [Int.mul_assoc, Int.mul_comm 4294967296 D, ← Int.mul_assoc]
    have x3 : C * (B * 4294967296) = C * B * 4294967296 := by rw [← Int.mul_assoc]
    rw [x1, x2, x3]; omega
  rw [eab]
  generalize A * B = P at *
  generalize A * D = Q at *
  generalize C * B = R at *
  generalize C * D = S at *
  rw [u64w P (by omega) (by omega), u64w Q (by omega) (by omega), u64w R (by omega) (by omega), u64w S (by omega) (by omega)]
  rw [u64w (Q + S / 4294967296) (by omega) (by omega), low32 (by omega) (by omega), u64w (P + (Q + S / 4294967296) / 4294967296) (by omega) (by omega), u64w ((Q + S / 4294967296) % 4294967296 + R) (by omega) (by omega), key, u64w _ (by omega) (by omega)]
/-- What num.Mul answers. -/
def mulR (a b : Int) : Int × Bool := if 0 ≤ a ∧ a ≤ 1099511627776 ∧ 0 ≤ b ∧ b ≤ 1099511627776 ∧ a * b ≤ 1099511627776 then (a * b, true) else (0, false)
theorem mulR_yes {a b : Int} (h : 0 ≤ a ∧ a ≤ 1099511627776 ∧ 0 ≤ b ∧ b ≤ 1099511627776 ∧ a * b ≤ 1099511627776) : mulR a b = (a * b, true) := if_pos h
theorem mulR_no {a b : Int} (h : ¬ (0 ≤ a ∧ a ≤ 1099511627776 ∧ 0 ≤ b ∧ b ≤ 1099511627776 ∧ a * b ≤ 1099511627776)) : mulR a b = (0, false) := if_neg h
theorem mulR_comm (a b : Int) : mulR a b = mulR b a := by
  unfold mulR
  rw [Int.mul_comm a b]
  by_cases h : 0 ≤ a ∧ a ≤ 1099511627776 ∧ 0 ≤ b ∧ b ≤ 1099511627776 ∧ b * a ≤ 1099511627776
  · rw [if_pos h, if_pos ⟨h.2.2.1, h.2.2.2.1, h.1, h.2.1, h.2.2.2.2⟩]
  · rw [if_neg h, if_neg (fun g => h ⟨g.2.2.1, g.2.2.2.1, g.1, g.2.1, g.2.2.2.2⟩)]

set_option maxHeartbeats 1000000 in
theorem mul_in (a b : Int) (h0 : 0 ≤ a) (h1 : a ≤ 1099511627776) (h2 : 0 ≤ b) (h3 : b ≤ 1099511627776) (ok : Bool) (n : Int) (hz : (high a b == 0) = ok) (hl : wrap64 (IntKind.u64.wrap (a * b)) = n)
    (m : Int) (f : Bool) (hT : num_told.f n ok = some (m, f)) (w : World) :
    Calls Try.prog 11 #[.int .i64 a, .int .i64 b] w fun e w' => e = .returned (.tuple #[.int .i64 m, .bool f]) ∧ Drawn0 w w' := by
  have A1 := Aside0.mk (is_yes ⟨h0, h1⟩)
  have A2 := Aside0.mk (is_yes ⟨h2, h3⟩)
  have A3 := Aside0.mk hT
  clear hT
  go_enter Try.func11, Try.ntmps11
  go_wp2_with (first | (go_at_call 16; (with_reducible refine (num_Is.calls a true _ A1.out).mono ?_); rintro e w' ⟨rfl, ⟨nd, rfl⟩⟩) | (go_at_call 16; (with_reducible refine (num_Is.calls b true _ A2.out).mono ?_); rintro e w' ⟨rfl, ⟨nd, rfl⟩⟩) | (go_at_call 19; (with_reducible refine (mul64_raw a b _).mono ?_); rintro e w' ⟨rfl, ⟨nd, rfl⟩⟩) | (go_at_call 18; (with_reducible refine (num_told.calls n ok m f _ A3.out).mono ?_); rintro e w' ⟨rfl, ⟨nd, rfl⟩⟩))
  go_ret2
  exact ⟨by first | rfl | (simp; done) | (simp [*]; done), by repeat (first | exact Drawn0.refl _ | apply Drawn0.step)⟩

theorem told_yes {n : Int} (h : 0 ≤ n ∧ n ≤ 1099511627776) : num_told.f n true = some (n, true) := by
  unfold num_told.f; rw [if_pos rfl, is_yes h, Option.bind_some, if_pos rfl]
theorem told_no {n : Int} (h : ¬ (0 ≤ n ∧ n ≤ 1099511627776)) : num_told.f n true = some (0, false) := by
  unfold num_told.f; rw [if_pos rfl, is_no h, Option.bind_some, if_neg (by simp)]
theorem told_not (n : Int) : num_told.f n false = some (0, false) := by unfold num_told.f; rw [if_neg (by simp)]
set_option maxHeartbeats 1000000 in
theorem mul_out (a b : Int) (h : ¬ (0 ≤ a ∧ a ≤ 1099511627776 ∧ 0 ≤ b ∧ b ≤ 1099511627776)) (w : World) :
    Calls Try.prog 11 #[.int .i64 a, .int .i64 b] w fun e w' => e = .returned (.tuple #[.int .i64 0, .bool false]) ∧ Drawn0 w w' := by
  by_cases ha : 0 ≤ a ∧ a ≤ 1099511627776
  · have A1 := Aside0.mk (is_yes ha)
    have A2 := Aside0.mk (is_no (a := b) (by omega))
    clear h ha
    go_enter Try.func11, Try.ntmps11
    go_wp2_with (first | (go_at_call 16; (with_reducible refine (num_Is.calls a true _ A1.out).mono ?_); rintro e w' ⟨rfl, ⟨nd, rfl⟩⟩) | (go_at_call 16; (with_reducible refine (num_Is.calls b false _ A2.out).mono ?_); rintro e w' ⟨rfl, ⟨nd, rfl⟩⟩))
    go_ret2
    exact ⟨by first | rfl | (simp; done) | (simp [*]; done), by repeat (first | exact Drawn0.refl _ | apply Drawn0.step)⟩
  · have A1 := Aside0.mk (is_no ha)
    clear h ha
    go_enter Try.func11, Try.ntmps11
    go_wp2_with (first | (go_at_call 16; (with_reducible refine (num_Is.calls a false _ A1.out).mono ?_); rintro e w' ⟨rfl, ⟨nd, rfl⟩⟩))
    go_ret2
    exact ⟨by first | rfl | (simp; done) | (simp [*]; done), by repeat (first | exact Drawn0.refl _ | apply Drawn0.step)⟩
theorem mul_any (a b : Int) (w : World) :
    Calls Try.prog 11 #[.int .i64 a, .int .i64 b] w fun e w' => e = .returned (.tuple #[.int .i64 (mulR a b).1, .bool (mulR a b).2]) ∧ Drawn0 w w' := by
  by_cases h : 0 ≤ a ∧ a ≤ 1099511627776 ∧ 0 ≤ b ∧ b ≤ 1099511627776
  · obtain ⟨h0, h1, h2, h3⟩ := h
    have hn : 0 ≤ a * b := Int.mul_nonneg h0 h2
    have hh := high_eq h0 h1 h2 h3
    have hl : IntKind.u64.wrap (a * b) = a * b % 18446744073709551616 := IntKind.wrap_u64 _
    by_cases hq : a * b ≤ 1099511627776
    · rw [mulR_yes ⟨h0, h1, h2, h3, hq⟩]
      refine mul_in a b h0 h1 h2 h3 true (a * b) (by rw [hh]; simp; omega) (by rw [hl]; unfold wrap64; omega) _ _ (told_yes ⟨hn, hq⟩) w
    · rw [mulR_no (by omega)]
      by_cases hz : a * b / 18446744073709551616 = 0
      · refine mul_in a b h0 h1 h2 h3 true _ (by rw [hh]; simpa using hz) rfl _ _ (told_no ?_) w
        rw [hl]; unfold wrap64; omega
      · exact mul_in a b h0 h1 h2 h3 false _ (by rw [hh]; simpa using hz) rfl _ _ (told_not _) w
  · rw [mulR_no (by omega)]
    exact mul_out a b h w
/-- What num.Add answers. -/
def addR (a b : Int) : Int × Bool := if 0 ≤ a ∧ 0 ≤ b ∧ a + b ≤ 1099511627776 then (a + b, true) else (0, false)
theorem addR_yes {a b : Int} (h : 0 ≤ a ∧ 0 ≤ b ∧ a + b ≤ 1099511627776) : addR a b = (a + b, true) := if_pos h
theorem addR_no {a b : Int} (h : ¬ (0 ≤ a ∧ 0 ≤ b ∧ a + b ≤ 1099511627776)) : addR a b = (0, false) := if_neg h
theorem addR_comm (a b : Int) : addR a b = addR b a := by
  unfold addR
  rw [Int.add_comm a b]
  by_cases h : 0 ≤ a ∧ 0 ≤ b ∧ b + a ≤ 1099511627776
  · rw [if_pos h, if_pos ⟨h.2.1, h.1, h.2.2⟩]
  · rw [if_neg h, if_neg (fun g => h ⟨g.2.1, g.1, g.2.2⟩)]
theorem add_eq (a b : Int) : num_Add.f a b = some (addR a b) := by
  by_cases h : 0 ≤ a ∧ 0 ≤ b ∧ a + b ≤ 1099511627776
  · rw [add_yes h.1 h.2.1 h.2.2, addR_yes h]
  · rw [add_no h, addR_no h]
theorem add_any (a b : Int) (w : World) :
    Calls Try.prog 10 #[.int .i64 a, .int .i64 b] w fun e w' => e = .returned (.tuple #[.int .i64 (addR a b).1, .bool (addR a b).2]) ∧ Drawn0 w w' :=
  num_Add.calls a b _ _ w (add_eq a b)
/-- What num.Floor and num.Ceil answer. -/
def floorR (a b : Int) : Int × Bool := if 0 ≤ a ∧ a ≤ 1099511627776 ∧ 1 ≤ b ∧ b ≤ 1099511627776 then (a / b, true) else (0, false)
def ceilR (a b : Int) : Int × Bool := if 0 ≤ a ∧ a ≤ 1099511627776 ∧ 1 ≤ b ∧ b ≤ 1099511627776 then (if a % b = 0 then a / b else a / b + 1, true) else (0, false)
theorem floor_eq (a b : Int) : num_Floor.f a b = some (floorR a b) := by
  unfold floorR
  by_cases h : 0 ≤ a ∧ a ≤ 1099511627776 ∧ 1 ≤ b ∧ b ≤ 1099511627776
  · rw [if_pos h, floor_yes h.1 h.2.1 h.2.2.1 h.2.2.2]
  · rw [if_neg h, floor_no h]
theorem ceil_eq (a b : Int) : num_Ceil.f a b = some (ceilR a b) := by
  unfold ceilR
  by_cases h : 0 ≤ a ∧ a ≤ 1099511627776 ∧ 1 ≤ b ∧ b ≤ 1099511627776
  · rw [if_pos h, ceil_yes h.1 h.2.1 h.2.2.1 h.2.2.2]
  · rw [if_neg h, ceil_no h]
theorem floor_any (a b : Int) (w : World) :
    Calls Try.prog 7 #[.int .i64 a, .int .i64 b] w fun e w' => e = .returned (.tuple #[.int .i64 (floorR a b).1, .bool (floorR a b).2]) ∧ Drawn0 w w' :=
  num_Floor.calls a b _ _ w (floor_eq a b)
theorem ceil_any (a b : Int) (w : World) :
    Calls Try.prog 8 #[.int .i64 a, .int .i64 b] w fun e w' => e = .returned (.tuple #[.int .i64 (ceilR a b).1, .bool (ceilR a b).2]) ∧ Drawn0 w w' :=
  num_Ceil.calls a b _ _ w (ceil_eq a b)
theorem known_any (w : World) : Calls Try.prog 9 #[] w fun e w' => e = .returned (.bool true) ∧ Drawn0 w w' := taskmasterlaw1_known.calls true w known_yes
end Go.Proofs.Ytfbnbnbclmemdaa.Num

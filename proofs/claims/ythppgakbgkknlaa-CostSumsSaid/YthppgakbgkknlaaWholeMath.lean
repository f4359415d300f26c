/- What is proved: of a double word in the range of a cost's part: cut towards zero, as an integer, and back: what the code and the reference of chapter 3 look at; conditions as each theorem names them. No program in sight. -/
import Derived.Test.YthppgakbgkknlaaFloatMath
import GoSem.Extern.MathFloor
import Derived.Laws.Cover2
namespace Go.Proofs.Ythppgakbgkknlaa.FloatMath
open Ieee
set_option exponentiation.threshold 3000
set_option linter.unusedVariables false
set_option linter.unusedSimpArgs false

theorem format_f64 : FloatKind.f64.format = double := rfl
/-- What math.Trunc gives. -/
def truncBits (b : Nat) : Nat := FloatKind.f64.encode ((FloatKind.f64.decode b).integral .zero)
/-- The extern's way, of a datum. -/
def truncOf (x : Nat) : Datum → Sem Value
  | .nan s t =>
    if FloatKind.f64.format.quiet t = t then pure (.float .f64 x) else do
    let kept ← choose (.extern "math.Floor,Ceil,Trunc,RoundToEven.signallingNaN kept" 2)
    pure (.float .f64 (if kept == 1 then x else FloatKind.f64.encode (.nan s (FloatKind.f64.format.quiet t))))
  | d => pure (.float .f64 (FloatKind.f64.encode (d.integral .zero)))
theorem trunc_of (b : Nat) : Extern.MathFloor.toIntegral "math.archTrunc" .zero #[.float .f64 b] = truncOf b (FloatKind.f64.decode b) := by
  show truncOf b (FloatKind.f64.decode b) = _
  rfl
theorem run_trunc (P : Program) (w : World) {b : Nat} {s : Bool} {m : Nat} {e : Int} (h : double.read b = .number s m e) : (Extern.MathFloor.toIntegral "math.archTrunc" .zero #[.float .f64 b]).run P w = .ok (.float .f64 (truncBits b)) w := by
  have hd : FloatKind.f64.decode b = .number s m e := h
  rw [trunc_of]
  unfold truncBits
  rw [hd]
  rfl
theorem signed_zero {m : Nat} (s : Bool) (h : s = false ∨ m = 0) : signed s m 0 = (m : Int) := by
  unfold signed
  rcases h with rfl | rfl
  · simp
  · cases s <;> simp
/-- All that the two look at, of a word in the range. -/
theorem looks {b : Nat} (h : inRange b = true) : ∃ (n : Nat) (s : Bool) (m : Nat) (e : Int), double.read b = .number s m e ∧ n ≤ 1099511627776 ∧ floatToIntVal .f64 b .i64 = some (n : Int) ∧ (double.order (truncBits b) b == some .eq) = okPart b ∧ (double.order (floatOfInt .f64 (n : Int)) b == some .eq) = okPart b ∧ part b = (if okPart b = true then (n : Int) else 0) := by
  obtain ⟨s, m, e, hr, he, hv, hm⟩ := inRange_mag h
  have hs : s = false ∨ mag (double.read b) = 0 := by
    cases s with
    | false => exact Or.inl rfl
    | true =>
      right
      have h2 : val (double.read b) = -(mag (double.read b) : Int) := by rw [hr]; rfl
      omega
  have hint : (double.read b).integral .zero = .number s (mag (double.read b) / 2 ^ 1074) 0 := by
    rw [hr]; exact integral_zero he
  have hn : mag (double.read b) / 2 ^ 1074 ≤ 1099511627776 := by
    calc mag (double.read b) / 2 ^ 1074 ≤ (2 ^ 40 * 2 ^ 1074) / 2 ^ 1074 := Nat.div_le_div_right hm
      _ = 2 ^ 40 := Nat.mul_div_cancel _ (Nat.two_pow_pos _)
      _ = 1099511627776 := by decide
  have hz : s = false ∨ mag (double.read b) / 2 ^ 1074 = 0 := hs.imp id (fun q => by rw [q, Nat.zero_div])
  have hw := whole_iff h
  have hok : okPart b = decide (mag (double.read b) % 2 ^ 1074 = 0) := by unfold okPart; rw [h, Bool.true_and]
  refine ⟨mag (double.read b) / 2 ^ 1074, s, m, e, hr, hn, ?_, ?_, ?_, ?_⟩
  · have ht : (FloatKind.f64.decode b).toInt .zero = some ((mag (double.read b) / 2 ^ 1074 : Nat) : Int) := by
      show (match (double.read b).integral .zero with | .number s m _ => some (signed s m 0) | _ => none) = _
      rw [hint]
      show some (signed s _ 0) = _
      rw [signed_zero s hz]
    unfold floatToIntVal
    rw [ht]
    show (if _ then _ else _) = _
    generalize mag (double.read b) / 2 ^ 1074 = N at hn
    rw [if_pos]
    constructor
    · show (-9223372036854775808 : Int) ≤ _; omega
    · show _ ≤ (9223372036854775807 : Int); omega
  · have ht : truncBits b = double.nearest s (mag (double.read b) / 2 ^ 1074) 0 := by
      unfold truncBits
      show double.write ((double.read b).integral .zero) = _
      rw [hint]; rfl
    rw [ht, hok]
    rcases hw s with q | ⟨q1, q2⟩
    · exact q
    · rcases hs with r | r
      · rw [q1] at r; cases r
      · exact absurd r q2
  · have ht : floatOfInt .f64 ((mag (double.read b) / 2 ^ 1074 : Nat) : Int) = double.nearest false (mag (double.read b) / 2 ^ 1074) 0 := by
      unfold floatOfInt
      show double.write (.number (decide (((mag (double.read b) / 2 ^ 1074 : Nat) : Int) < 0)) (((mag (double.read b) / 2 ^ 1074 : Nat) : Int)).natAbs 0) = _
      rw [Int.natAbs_natCast, decide_eq_false (by exact Int.not_lt.mpr (Int.natCast_nonneg _))]
      rfl
    rw [ht, hok]
    rcases hw false with q | ⟨q1, q2⟩
    · exact q
    · cases q1
  · rfl
theorem off {b : Nat} (h : inRange b = false) : okPart b = false ∧ part b = 0 := by
  have e : okPart b = false := by unfold okPart; rw [h]; rfl
  exact ⟨e, by unfold part; rw [e]; rfl⟩
/-- A part that is read is a whole number in its bounds. -/
theorem part_in (b : Nat) : 0 ≤ part b ∧ part b ≤ 1099511627776 := by
  by_cases h : inRange b = true
  · obtain ⟨n, s, m, e, _, hn, _, _, _, hp⟩ := looks h
    rw [hp]; split <;> omega
  · rw [(off (by simpa using h)).2]; omega
/-- A number of a tick count's range as a double word. -/
theorem of_int {n : Int} (h : -9007199254740992 < n ∧ n < 9007199254740992) : okPart (floatOfInt .f64 n) = decide (0 ≤ n ∧ n ≤ 1099511627776) ∧ part (floatOfInt .f64 n) = (if 0 ≤ n ∧ n ≤ 1099511627776 then n else 0) := by
  have hb : floatOfInt .f64 n = double.nearest (decide (n < 0)) n.natAbs 0 := rfl
  obtain ⟨f1, v1, m1⟩ := val_nearest (decide (n < 0)) n.natAbs (by omega)
  rw [← hb] at f1 v1 m1
  have hp : 0 < 2 ^ 1074 := Nat.two_pow_pos _
  have hin : inRange (floatOfInt .f64 n) = decide (0 ≤ n ∧ n ≤ 1099511627776) := by
    rw [Bool.eq_iff_iff, inRange_iff, v1]
    refine Iff.trans ?_ decide_eq_true_iff.symm
    have hfin : ∃ s m e, double.read (floatOfInt .f64 n) = .number s m e ∧ -1074 ≤ e := by
      rcases read_place (floatOfInt .f64 n) with q | ⟨s, q⟩ | ⟨s, t, q⟩
      · exact q
      · rw [q] at f1; cases f1
      · rw [q] at f1; cases f1
    by_cases hneg : n < 0
    · have hz : 0 < n.natAbs * 2 ^ 1074 := Nat.mul_pos (by omega) hp
      rw [if_pos (decide_eq_true hneg)]
      constructor
      · rintro ⟨_, h0, _⟩; omega
      · rintro ⟨h0, _⟩; omega
    · rw [if_neg (by simpa using hneg)]
      constructor
      · rintro ⟨_, _, h1⟩
        have h2 : n.natAbs * 2 ^ 1074 ≤ 2 ^ 40 * 2 ^ 1074 := by exact_mod_cast h1
        have h3 := Nat.le_of_mul_le_mul_right h2 hp
        have h4 : (2 : Nat) ^ 40 = 1099511627776 := by decide
        rw [h4] at h3
        omega
      · rintro ⟨h0, h1⟩
        refine ⟨hfin, Int.natCast_nonneg _, ?_⟩
        have h3 : n.natAbs * 2 ^ 1074 ≤ 2 ^ 40 * 2 ^ 1074 := Nat.mul_le_mul_right _ (by have h4 : (2 : Nat) ^ 40 = 1099511627776 := by decide
                                                                                        rw [h4]; omega)
        exact_mod_cast h3
  have hok : okPart (floatOfInt .f64 n) = decide (0 ≤ n ∧ n ≤ 1099511627776) := by
    unfold okPart
    rw [hin, m1, Nat.mul_mod_left]; simp
  refine ⟨hok, ?_⟩
  unfold part
  rw [hok, m1, Nat.mul_div_cancel _ hp]
  by_cases h0 : 0 ≤ n ∧ n ≤ 1099511627776
  · rw [if_pos (decide_eq_true h0), if_pos h0]; omega
  · rw [if_neg (by simpa using h0), if_neg h0]
end Go.Proofs.Ythppgakbgkknlaa.FloatMath

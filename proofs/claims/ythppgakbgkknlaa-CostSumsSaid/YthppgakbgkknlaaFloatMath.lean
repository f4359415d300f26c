/- What is proved: what double words stand for, at a fixed scale; whole numbers below 2^53 are exact. Plain Lean. -/
import Derived.Laws.FloatArith
namespace Go.Proofs.Ythppgakbgkknlaa.FloatMath
open Ieee
set_option exponentiation.threshold 3000
set_option linter.unusedVariables false
set_option linter.unusedSimpArgs false

/-- What a number stands for, in units of 2^-1074. -/
def val : Datum → Int
  | .number s m e => signed s m (e + 1074).toNat
  | _ => 0
def fin : Datum → Bool
  | .number _ _ e => decide (-1074 ≤ e)
  | _ => false

theorem signed_mul (s : Bool) (m a b : Nat) : signed s m (a + b) = signed s m a * (2 ^ b : Nat) := by
  unfold signed
  have e : m <<< (a + b) = m <<< a * 2 ^ b := by simp [Nat.shiftLeft_eq, Nat.pow_add, Nat.mul_assoc]
  split <;> simp [e, Int.neg_mul]

theorem compare_mul (a b : Int) (k : Nat) (hk : 0 < k) : compare (a * k) (b * k) = compare a b := by
  have hk' : (0 : Int) < k := by omega
  simp only [compare, compareOfLessAndEq]
  have h1 : (a * k < b * k) = (a < b) := propext ⟨fun h => Int.lt_of_mul_lt_mul_right h (by omega), fun h => Int.mul_lt_mul_of_pos_right h hk'⟩
  have h2 : (a * k = b * k) = (a = b) := propext ⟨fun h => Int.eq_of_mul_eq_mul_right (by omega) h, fun h => by rw [h]⟩
  simp only [h1, h2]

theorem order_val {d e : Datum} (hd : fin d = true) (he : fin e = true) : d.order e = some (compare (val d) (val e)) := by
  cases d with
  | infinity s => cases hd
  | nan s t => cases hd
  | number s m i =>
    cases e with
    | infinity s => cases he
    | nan s t => cases he
    | number t n j =>
      have hi : -1074 ≤ i := of_decide_eq_true hd
      have hj : -1074 ≤ j := of_decide_eq_true he
      show some (compare (signed s m (i - min i j).toNat) (signed t n (j - min i j).toNat)) = some (compare (signed s m (i + 1074).toNat) (signed t n (j + 1074).toNat))
      have e1 : (i + 1074).toNat = (i - min i j).toNat + (min i j + 1074).toNat := by omega
      have e2 : (j + 1074).toNat = (j - min i j).toNat + (min i j + 1074).toNat := by omega
      rw [e1, e2, signed_mul, signed_mul, compare_mul _ _ _ (Nat.two_pow_pos _)]

theorem cut_zero (s : Bool) (n k : Nat) : Toward.zero.cut s n k = n / 2 ^ k := by
  show n / 1 <<< min k (n.log2 + 2) + (false).toNat = n / 2 ^ k
  have h1 : ∀ k, 1 <<< k = 2 ^ k := fun k => by rw [Nat.shiftLeft_eq, Nat.one_mul]
  rw [h1]
  show n / 2 ^ min k (n.log2 + 2) + 0 = _
  rw [Nat.add_zero]
  by_cases hk : k ≤ n.log2 + 2
  · rw [Nat.min_eq_left hk]
  · rw [Nat.min_eq_right (by omega)]
    have hn : n < 2 ^ (n.log2 + 1) := Nat.lt_log2_self
    have a : n < 2 ^ (n.log2 + 2) := Nat.lt_of_lt_of_le hn (Nat.pow_le_pow_right (by decide) (by omega))
    have b : n < 2 ^ k := Nat.lt_of_lt_of_le hn (Nat.pow_le_pow_right (by decide) (by omega))
    rw [Nat.div_eq_of_lt a, Nat.div_eq_of_lt b]

/-- The magnitude, in units of 2^-1074. -/
def mag : Datum → Nat
  | .number _ m e => m <<< (e + 1074).toNat
  | _ => 0
/-- Cut towards zero. -/
theorem integral_zero {s : Bool} {m : Nat} {e : Int} (he : -1074 ≤ e) : (Datum.number s m e).integral .zero = .number s (mag (.number s m e) / 2 ^ 1074) 0 := by
  show Datum.number s (Toward.zero.cut s (m <<< e.toNat) (-e).toNat) 0 = .number s (m <<< (e + 1074).toNat / 2 ^ 1074) 0
  rw [cut_zero]
  congr 1
  rw [Nat.shiftLeft_eq, Nat.shiftLeft_eq]
  by_cases h : 0 ≤ e
  · have e1 : (e + 1074).toNat = e.toNat + 1074 := by omega
    have e2 : (-e).toNat = 0 := by omega
    rw [e1, e2, Nat.pow_zero, Nat.div_one, Nat.pow_add, ← Nat.mul_assoc, Nat.mul_div_cancel _ (Nat.two_pow_pos _)]
  · have e1 : e.toNat = 0 := by omega
    have e2 : 1074 = (e + 1074).toNat + (-e).toNat := by omega
    rw [e1, Nat.pow_zero, Nat.mul_one]
    have e3 : 2 ^ 1074 = 2 ^ (-e).toNat * 2 ^ (e + 1074).toNat := by rw [← Nat.pow_add]; congr 1; omega
    rw [e3, Nat.mul_div_mul_right _ _ (Nat.two_pow_pos _)]

theorem leastPlace_double : double.leastPlace = -1074 := by decide
theorem nearest_word (neg : Bool) (n : Nat) (h0 : 0 < n) (h : n < 2 ^ 53) :
    double.nearest neg n 0 = double.word neg ((n.log2 + 1022) * 2 ^ 52 + n * 2 ^ (52 - n.log2)) ∧ n.log2 ≤ 52 ∧ 2 ^ 52 ≤ n * 2 ^ (52 - n.log2) ∧ n * 2 ^ (52 - n.log2) < 2 ^ 53 := by
  have hn : n ≠ 0 := by omega
  have hL : n.log2 < 53 := (Nat.log2_lt hn).2 h
  have hlo : 2 ^ n.log2 ≤ n := Nat.log2_self_le hn
  have hhi : n < 2 ^ (n.log2 + 1) := Nat.lt_log2_self
  have hp : 0 < 2 ^ (52 - n.log2) := Nat.two_pow_pos _
  have a1 : 2 ^ 52 ≤ n * 2 ^ (52 - n.log2) := by
    have : 2 ^ n.log2 * 2 ^ (52 - n.log2) = 2 ^ 52 := by rw [← Nat.pow_add]; congr 1; omega
    rw [← this]; exact Nat.mul_le_mul_right _ hlo
  have a2 : n * 2 ^ (52 - n.log2) < 2 ^ 53 := by
    have : 2 ^ (n.log2 + 1) * 2 ^ (52 - n.log2) = 2 ^ 53 := by rw [← Nat.pow_add]; congr 1; omega
    rw [← this]; exact Nat.mul_lt_mul_of_pos_right hhi hp
  refine ⟨?_, by omega, a1, a2⟩
  unfold Format.nearest
  rw [if_neg hn]
  have hlast : max ((0 : Int) + (n.log2 : Nat) - double.fractionBits) double.leastPlace = (n.log2 : Int) - 52 := by
    rw [leastPlace_double]; show max ((0 : Int) + (n.log2 : Nat) - (52 : Nat)) (-1074) = _; omega
  simp only [hlast]
  have e1 : ((0 : Int) - ((n.log2 : Int) - 52)).toNat = 52 - n.log2 := by omega
  have e2 : ((n.log2 : Int) - 52 - 0).toNat = 0 := by omega
  have e3 : ((n.log2 : Int) - 52 - double.leastPlace).toNat = n.log2 + 1022 := by rw [leastPlace_double]; omega
  rw [e1, e2, e3]
  have hcut : ∀ m : Nat, Toward.even.cut neg m 0 = m := by
    intro m
    show m / 1 <<< min 0 (m.log2 + 2) + (decide (1 <<< min 0 (m.log2 + 2) < 2 * (m % 1 <<< min 0 (m.log2 + 2))) || (1 <<< min 0 (m.log2 + 2) == 2 * (m % 1 <<< min 0 (m.log2 + 2)) && m / 1 <<< min 0 (m.log2 + 2) % 2 == 1)).toNat = m
    simp [Nat.mod_one]
  rw [hcut, Nat.shiftLeft_eq]
  congr 1
  have hb : double.binade = 2 ^ 52 := rfl
  have hi : double.infRung = 2047 * 2 ^ 52 := rfl
  rw [hb, hi]
  have h3 : (n.log2 + 1022) * 2 ^ 52 ≤ 1074 * 2 ^ 52 := Nat.mul_le_mul_right _ (by omega)
  refine Nat.min_eq_left ?_
  have h4 : (2 : Nat) ^ 53 = 2 * 2 ^ 52 := by rw [Nat.pow_succ, Nat.mul_comm]
  rw [h4] at a2
  generalize n * 2 ^ (52 - n.log2) = m at a2
  generalize (2 : Nat) ^ 52 = p at h3 a2 ⊢
  generalize (n.log2 + 1022) * p = A at h3 ⊢
  omega

theorem read_word (neg : Bool) (k m : Nat) (hk : k ≤ 2000) (h1 : 2 ^ 52 ≤ m) (h2 : m < 2 ^ 53) :
    double.read (double.word neg (k * 2 ^ 52 + m)) = .number neg m (-1074 + (k : Nat)) := by
  have hs : double.signWeight = 2 ^ 63 := rfl
  have hb : double.binade = 2 ^ 52 := rfl
  have hi : double.infRung = 2047 * 2 ^ 52 := rfl
  have hk2 : k * 2 ^ 52 ≤ 2000 * 2 ^ 52 := Nat.mul_le_mul_right _ hk
  have hlt : k * 2 ^ 52 + m < 2 ^ 63 := by omega
  have w1 : (double.word neg (k * 2 ^ 52 + m) / double.signWeight % 2 == 1) = neg := by
    unfold Format.word
    rw [hs]
    cases neg
    · have : (k * 2 ^ 52 + m) / 2 ^ 63 = 0 := Nat.div_eq_of_lt hlt
      simp [this]
    · have : (2 ^ 63 + (k * 2 ^ 52 + m)) / 2 ^ 63 = 1 := by omega
      simp only [if_true, this]; rfl
  have w2 : double.word neg (k * 2 ^ 52 + m) % double.signWeight = k * 2 ^ 52 + m := by
    unfold Format.word
    rw [hs]
    cases neg
    · exact Nat.mod_eq_of_lt hlt
    · have : (2 ^ 63 + (k * 2 ^ 52 + m)) % 2 ^ 63 = k * 2 ^ 52 + m := by omega
      simpa using this
  unfold Format.read
  simp only [w1, w2, hb, hi]
  rw [if_neg (by omega), if_pos (by omega), leastPlace_double]
  have d1 : (k * 2 ^ 52 + m) / 2 ^ 52 = k + 1 := by omega
  have d2 : (k * 2 ^ 52 + m) % 2 ^ 52 = m - 2 ^ 52 := by omega
  rw [d1, d2, show 2 ^ 52 + (m - 2 ^ 52) = m by omega, Nat.add_sub_cancel]

/-- A whole number's double is just that number. -/
theorem read_nearest (neg : Bool) (n : Nat) (h : n < 2 ^ 53) :
    ∃ m e, double.read (double.nearest neg n 0) = .number neg m e ∧ -1074 ≤ e ∧ m <<< (e + 1074).toNat = n * 2 ^ 1074 := by
  by_cases h0 : n = 0
  · subst h0
    refine ⟨0, -1074, ?_, by omega, by simp [Nat.shiftLeft_eq]⟩
    cases neg <;> decide
  · obtain ⟨e, hL, a1, a2⟩ := nearest_word neg n (by omega) h
    refine ⟨n * 2 ^ (52 - n.log2), -1074 + (n.log2 + 1022 : Nat), ?_, by omega, ?_⟩
    · rw [e, read_word _ _ _ (by omega) a1 a2]
    · rw [Nat.shiftLeft_eq, Nat.mul_assoc, ← Nat.pow_add, show 52 - n.log2 + (-1074 + ((n.log2 + 1022 : Nat) : Int) + 1074).toNat = 1074 by omega]

/-! Parts of costs -/
/-- The bits of the last tick, as the code has them. -/
def lastBits : Nat := 4787326403894837248
def inRange (b : Nat) : Bool := (double.order b 0 == some .gt || double.order b 0 == some .eq) && (double.order b lastBits == some .lt || double.order b lastBits == some .eq)
def okPart (b : Nat) : Bool := inRange b && decide (mag (double.read b) % 2 ^ 1074 = 0)
def part (b : Nat) : Int := if okPart b = true then ((mag (double.read b) / 2 ^ 1074 : Nat) : Int) else 0

theorem read_zero : double.read 0 = .number false 0 (-1074) := by decide
theorem read_last : ∃ m e, double.read lastBits = .number false m e ∧ -1074 ≤ e ∧ m <<< (e + 1074).toNat = 2 ^ 40 * 2 ^ 1074 := by
  have h := read_nearest false (2 ^ 40) (by decide)
  have e : double.nearest false (2 ^ 40) 0 = lastBits := by decide
  rwa [e] at h

theorem read_place (b : Nat) : (∃ s m e, double.read b = .number s m e ∧ -1074 ≤ e) ∨ (∃ s, double.read b = .infinity s) ∨ (∃ s t, double.read b = .nan s t) := by
  unfold Format.read
  simp only [leastPlace_double]
  split
  · exact .inl ⟨_, _, _, rfl, by omega⟩
  · split
    · exact .inl ⟨_, _, _, rfl, by omega⟩
    · split
      · exact .inr (.inl ⟨_, rfl⟩)
      · exact .inr (.inr ⟨_, _, rfl⟩)

theorem signed_true (m k : Nat) : signed true m k = -((m <<< k : Nat) : Int) := rfl
theorem signed_false (m k : Nat) : signed false m k = ((m <<< k : Nat) : Int) := rfl

theorem order_of {a b : Nat} (ha : fin (double.read a) = true) (hb : fin (double.read b) = true) : double.order a b = some (compare (val (double.read a)) (val (double.read b))) := order_val ha hb
theorem cmp_ge (a b : Int) : ((some (compare a b) == some Ordering.gt) || (some (compare a b) == some Ordering.eq)) = decide (b ≤ a) := by
  simp only [compare, compareOfLessAndEq]
  by_cases h1 : a < b
  · simp [h1]; try omega
  · by_cases h2 : a = b
    · simp [h2]
    · simp [h1, h2]; try omega
theorem cmp_le (a b : Int) : ((some (compare a b) == some Ordering.lt) || (some (compare a b) == some Ordering.eq)) = decide (a ≤ b) := by
  simp only [compare, compareOfLessAndEq]
  by_cases h1 : a < b
  · simp [h1]; try omega
  · by_cases h2 : a = b
    · simp [h2]
    · simp [h1, h2]; try omega
theorem cmp_eq (a b : Int) : (some (compare a b) == some Ordering.eq) = decide (a = b) := by
  simp only [compare, compareOfLessAndEq]
  by_cases h1 : a < b
  · simp [h1]; try omega
  · by_cases h2 : a = b
    · simp [h2]
    · simp [h1, h2]

/-- What lies in the range is a number, between 0 and the last tick. -/
theorem inRange_iff (b : Nat) : inRange b = true ↔ (∃ s m e, double.read b = .number s m e ∧ -1074 ≤ e) ∧ 0 ≤ val (double.read b) ∧ val (double.read b) ≤ ((2 ^ 40 * 2 ^ 1074 : Nat) : Int) := by
  obtain ⟨ml, el, hl, hel, hml⟩ := read_last
  have fl : fin (double.read lastBits) = true := by rw [hl]; exact decide_eq_true hel
  have vl : val (double.read lastBits) = ((2 ^ 40 * 2 ^ 1074 : Nat) : Int) := by rw [hl]; show signed false ml _ = _; rw [signed_false, hml]
  have f0 : fin (double.read 0) = true := by rw [read_zero]; rfl
  have v0 : val (double.read 0) = 0 := by rw [read_zero]; rfl
  rcases read_place b with ⟨s, m, e, hr, he⟩ | ⟨s, hr⟩ | ⟨s, t, hr⟩
  · have fb : fin (double.read b) = true := by rw [hr]; exact decide_eq_true he
    unfold inRange
    rw [order_of fb f0, order_of fb fl, cmp_ge, cmp_le, v0, vl]
    constructor
    · intro h
      simp only [Bool.and_eq_true, decide_eq_true_eq] at h
      exact ⟨⟨s, m, e, hr, he⟩, h.1, h.2⟩
    · intro h
      simp only [Bool.and_eq_true, decide_eq_true_eq]
      exact h.2
  · constructor
    · intro h
      exfalso
      have o0 : double.order b 0 = some (if s then .lt else .gt) := by show (double.read b).order (double.read 0) = _; rw [hr, read_zero]; rfl
      have ol : double.order b lastBits = some (if s then .lt else .gt) := by show (double.read b).order (double.read lastBits) = _; rw [hr, hl]; rfl
      unfold inRange at h
      rw [o0, ol] at h
      cases s <;> simp at h
    · rintro ⟨⟨s', m, e, h, _⟩, _⟩
      rw [hr] at h; cases h
  · constructor
    · intro h
      exfalso
      have o0 : double.order b 0 = none := by show (double.read b).order (double.read 0) = _; rw [hr]; rfl
      unfold inRange at h
      rw [o0] at h
      simp at h
    · rintro ⟨⟨s', m, e, h, _⟩, _⟩
      rw [hr] at h; cases h

theorem inRange_mag {b : Nat} (h : inRange b = true) : ∃ s m e, double.read b = .number s m e ∧ -1074 ≤ e ∧ val (double.read b) = (mag (double.read b) : Nat) ∧ mag (double.read b) ≤ 2 ^ 40 * 2 ^ 1074 := by
  obtain ⟨⟨s, m, e, hr, he⟩, h0, h1⟩ := (inRange_iff b).1 h
  refine ⟨s, m, e, hr, he, ?_⟩
  rw [hr] at h0 h1 ⊢
  have hm : mag (.number s m e) = m <<< (e + 1074).toNat := rfl
  rw [hm]
  cases s
  · have hv : val (.number false m e) = ((m <<< (e + 1074).toNat : Nat) : Int) := rfl
    rw [hv] at h0 h1 ⊢
    exact ⟨rfl, by omega⟩
  · have hv : val (.number true m e) = -((m <<< (e + 1074).toNat : Nat) : Int) := rfl
    rw [hv] at h0 h1 ⊢
    have hz : m <<< (e + 1074).toNat = 0 := by omega
    rw [hz]
    exact ⟨rfl, Nat.zero_le _⟩

theorem val_nearest (s : Bool) (n : Nat) (h : n < 2 ^ 53) : fin (double.read (double.nearest s n 0)) = true ∧ val (double.read (double.nearest s n 0)) = (if s then -((n * 2 ^ 1074 : Nat) : Int) else ((n * 2 ^ 1074 : Nat) : Int)) ∧ mag (double.read (double.nearest s n 0)) = n * 2 ^ 1074 := by
  obtain ⟨m, e, hr, he, hm⟩ := read_nearest s n h
  rw [hr]
  refine ⟨decide_eq_true he, ?_, hm⟩
  rw [← hm]
  cases s
  · rw [if_neg Bool.false_ne_true]; rfl
  · rw [if_pos rfl]; rfl

/-- Cut towards zero it is the same just if it is whole: math.Trunc, and there and back. -/
theorem whole_iff {b : Nat} (h : inRange b = true) (s : Bool) : (double.order (double.nearest s (mag (double.read b) / 2 ^ 1074) 0) b == some .eq) = decide (mag (double.read b) % 2 ^ 1074 = 0) ∨ (s = true ∧ mag (double.read b) ≠ 0) := by
  obtain ⟨s', m, e, hr, he, hv, hm⟩ := inRange_mag h
  have ht : mag (double.read b) / 2 ^ 1074 < 2 ^ 53 := by
    have : mag (double.read b) / 2 ^ 1074 ≤ 2 ^ 40 := by
      calc mag (double.read b) / 2 ^ 1074 ≤ (2 ^ 40 * 2 ^ 1074) / 2 ^ 1074 := Nat.div_le_div_right hm
        _ = 2 ^ 40 := Nat.mul_div_cancel _ (Nat.two_pow_pos _)
    exact Nat.lt_of_le_of_lt this (by decide)
  obtain ⟨f1, v1, _⟩ := val_nearest s _ ht
  have fb : fin (double.read b) = true := by rw [hr]; exact decide_eq_true he
  rw [order_of f1 fb, cmp_eq, v1, hv]
  generalize mag (double.read b) = M
  have hp : 0 < 2 ^ 1074 := Nat.two_pow_pos _
  generalize (2 : Nat) ^ 1074 = p at hp
  have hd := Nat.div_add_mod M p
  rw [Nat.mul_comm] at hd
  cases s
  · left
    simp only [if_false, Bool.false_eq_true]
    rw [decide_eq_decide]
    generalize M / p * p = q at hd
    omega
  · by_cases hz : M = 0
    · left
      subst hz
      simp
    · right; exact ⟨rfl, hz⟩
end Go.Proofs.Ythppgakbgkknlaa.FloatMath

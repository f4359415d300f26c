/- What is proved: how many digits of a number below 2^64 are there: the sum that math/bits reckons in steps is the number of digits; sets of digits and how many they have; conditions as each theorem names them. No program in sight. -/
import Derived.Laws.BitsLemmas
import Derived.Laws.Entries
namespace Go.Proofs.YtfbnbnbclmemdaaDoor.BitsMath
set_option linter.unusedVariables false

/-- How many of the lowest n digits are there. -/
def pop : Nat → Nat → Nat
  | 0, _ => 0
  | n + 1, x => x % 2 + pop n (x / 2)
theorem pop_le : ∀ (n x : Nat), pop n x ≤ n
  | 0, _ => Nat.le_refl _
  | n + 1, x => by have := pop_le n (x / 2); unfold pop; omega
theorem pop_add (a : Nat) : ∀ (b x : Nat), pop (b + a) x = pop b x + pop a (x / 2 ^ b)
  | 0, x => by simp [pop]
  | b + 1, x => by
    rw [show b + 1 + a = (b + a) + 1 by omega]
    show x % 2 + pop (b + a) (x / 2) = x % 2 + pop b (x / 2) + _
    rw [pop_add a b (x / 2), Nat.div_div_eq_div_mul, show 2 * 2 ^ b = 2 ^ (b + 1) by rw [Nat.pow_succ, Nat.mul_comm]]
    omega
theorem pop_mod (b : Nat) : ∀ (x : Nat), pop b (x % 2 ^ b) = pop b x := by
  induction b with
  | zero => intro x; rfl
  | succ b ih =>
    intro x
    unfold pop
    have h1 : x % 2 ^ (b + 1) % 2 = x % 2 := Nat.mod_mod_of_dvd _ ⟨2 ^ b, by rw [Nat.pow_succ, Nat.mul_comm]⟩
    have h2 : x % 2 ^ (b + 1) / 2 = x / 2 % 2 ^ b := by
      rw [Nat.pow_succ, Nat.mul_comm, Nat.mod_mul_right_div_self]
    rw [h1, h2, ih]
/-- By bytes. -/
theorem pop_byte (n r q : Nat) (hr : r < 256) : pop (8 + n) (r + 256 * q) = pop 8 r + pop n q := by
  rw [pop_add n 8]
  have e : (r + 256 * q) / 2 ^ 8 = q := by omega
  rw [e]
  have e2 : pop 8 (r + 256 * q) = pop 8 r := by
    rw [← pop_mod 8 (r + 256 * q), show (r + 256 * q) % 2 ^ 8 = r by omega]
  rw [e2]

/-! ### The steps, byte by byte -/
theorem and_byte (r q m M : Nat) (hr : r < 256) (hm : m < 256) : (r + 256 * q) &&& (m + 256 * M) = (r &&& m) + 256 * (q &&& M) := by
  have h1 : (r &&& m) < 256 := Nat.lt_of_le_of_lt Nat.and_le_left hr
  apply Nat.eq_of_testBit_eq
  intro i
  rw [Nat.testBit_and, Nat.add_comm r, Nat.add_comm m, Nat.add_comm (r &&& m), show (256 : Nat) = 2 ^ 8 from rfl, Nat.testBit_two_pow_mul_add _ hr, Nat.testBit_two_pow_mul_add _ hm, Nat.testBit_two_pow_mul_add _ h1]
  split
  · rw [Nat.testBit_and]
  · rw [Nat.testBit_and]
def st1 (M x : Nat) : Nat := (x / 2 &&& M) + (x &&& M)
def st2 (M x : Nat) : Nat := (x / 4 &&& M) + (x &&& M)
def st3 (M x : Nat) : Nat := (x / 16 + x) &&& M
theorem low1 : ∀ r, r < 256 → ∀ e, e < 2 → (r / 2 + 128 * e) &&& 85 = r / 2 &&& 85 := by decide +kernel
theorem low2 : ∀ r, r < 256 → ∀ e, e < 4 → (r / 4 + 64 * e) &&& 51 = r / 4 &&& 51 := by decide +kernel
theorem st1_byte (r q M : Nat) (hr : r < 256) : st1 (85 + 256 * M) (r + 256 * q) = st1 85 r + 256 * st1 M q := by
  unfold st1
  have e : (r + 256 * q) / 2 = (r / 2 + 128 * (q % 2)) + 256 * (q / 2) := by omega
  rw [e, and_byte _ _ 85 M (by omega) (by omega), and_byte r q 85 M hr (by omega), low1 r hr _ (by omega), Nat.mul_add]
  omega
theorem st2_byte (r q M : Nat) (hr : r < 256) : st2 (51 + 256 * M) (r + 256 * q) = st2 51 r + 256 * st2 M q := by
  unfold st2
  have e : (r + 256 * q) / 4 = (r / 4 + 64 * (q % 4)) + 256 * (q / 4) := by omega
  rw [e, and_byte _ _ 51 M (by omega) (by omega), and_byte r q 51 M hr (by omega), low2 r hr _ (by omega), Nat.mul_add]
  omega
theorem low3 : ∀ r, r < 103 → ∀ e, e < 5 → r / 16 ≤ 4 → r % 16 ≤ 4 → (r / 16 + 16 * e + r) &&& 15 = (r / 16 + r) &&& 15 := by decide +kernel
theorem st3_byte (r q M : Nat) (hr : r < 103) (h1 : r / 16 ≤ 4) (h2 : r % 16 ≤ 4) (hq : q % 16 ≤ 4) : st3 (15 + 256 * M) (r + 256 * q) = st3 15 r + 256 * st3 M q := by
  unfold st3
  have e : (r + 256 * q) / 16 + (r + 256 * q) = (r / 16 + 16 * (q % 16) + r) + 256 * (q / 16 + q) := by omega
  rw [e, and_byte _ _ 15 M (by omega) (by omega), low3 r hr _ (by omega) h1 h2]
/-- A byte's three steps. -/
theorem byte_tells : ∀ r, r < 256 → st1 85 r < 256 ∧ st2 51 (st1 85 r) < 103 ∧ st2 51 (st1 85 r) / 16 ≤ 4 ∧ st2 51 (st1 85 r) % 16 ≤ 4 ∧ st3 15 (st2 51 (st1 85 r)) = pop 8 r := by decide +kernel
def rep (m : Nat) : Nat → Nat
  | 0 => 0
  | k + 1 => m + 256 * rep m k
/-- The bytes of the sum. -/
def bsum : Nat → Nat → Nat
  | 0, _ => 0
  | k + 1, x => pop 8 (x % 256) + 256 * bsum k (x / 256)
theorem st_zero (M : Nat) : st1 M 0 = 0 ∧ st2 M 0 = 0 ∧ st3 M 0 = 0 := by
  unfold st1 st2 st3
  simp
theorem steps : ∀ (k x : Nat), x < 256 ^ k → (st2 (rep 51 k) (st1 (rep 85 k) x)) % 16 ≤ 4 ∧ st3 (rep 15 k) (st2 (rep 51 k) (st1 (rep 85 k) x)) = bsum k x
  | 0, x, h => by
    obtain rfl : x = 0 := by simpa using h
    rw [(st_zero _).1, (st_zero _).2.1, (st_zero _).2.2]
    exact ⟨by omega, rfl⟩
  | k + 1, x, h => by
    have hx : x = x % 256 + 256 * (x / 256) := by omega
    have hq : x / 256 < 256 ^ k := by
      rw [Nat.div_lt_iff_lt_mul (by omega), ← Nat.pow_succ]; exact h
    obtain ⟨i1, i2⟩ := steps k (x / 256) hq
    obtain ⟨b1, b2, b3, b4, b5⟩ := byte_tells (x % 256) (by omega)
    have e1 : st1 (rep 85 (k + 1)) x = st1 85 (x % 256) + 256 * st1 (rep 85 k) (x / 256) := by
      conv => lhs; rw [hx]
      exact st1_byte _ _ _ (by omega)
    have e2 : st2 (rep 51 (k + 1)) (st1 (rep 85 (k + 1)) x) = st2 51 (st1 85 (x % 256)) + 256 * st2 (rep 51 k) (st1 (rep 85 k) (x / 256)) := by
      rw [e1]; exact st2_byte _ _ _ b1
    rw [e2]
    refine ⟨by omega, ?_⟩
    show st3 (15 + 256 * rep 15 k) _ = _
    rw [st3_byte _ _ _ b2 b3 b4 i1, i2, b5]; rfl
theorem pop8_le (x : Nat) : pop 8 x ≤ 8 := pop_le 8 x
theorem part_low {y a b : Nat} (ha : a < 256) (hy : y = a + 256 * b) : y / 256 = b := by omega
theorem part_low' {y a b : Nat} (ha : a < 65536) (hy : y = a + 65536 * b) : y / 65536 = b := by omega
theorem part_low'' {y a b : Nat} (ha : a < 4294967296) (hy : y = a + 4294967296 * b) : y / 4294967296 = b := by omega
theorem part_mod {s t : Nat} (hs : s < 128) : (s + 256 * t) % 128 = s := by omega
theorem id0 (c0 c1 c2 c3 c4 c5 c6 c7 : Nat) : c0 + 256 * c1 + 65536 * c2 + 16777216 * c3 + 4294967296 * c4 + 1099511627776 * c5 + 281474976710656 * c6 + 72057594037927936 * c7 = c0 + 256 * (c1 + 256 * (c2 + 256 * (c3 + 256 * (c4 + 256 * (c5 + 256 * (c6 + 256 * c7)))))) := by omega
theorem id1 (c0 c1 c2 c3 c4 c5 c6 c7 : Nat) : (c0 + 256 * c1 + 65536 * c2 + 16777216 * c3 + 4294967296 * c4 + 1099511627776 * c5 + 281474976710656 * c6 + 72057594037927936 * c7) + (c1 + 256 * (c2 + 256 * (c3 + 256 * (c4 + 256 * (c5 + 256 * (c6 + 256 * c7)))))) = ((c0 + c1) + 256 * (c1 + c2)) + 65536 * ((c2 + c3) + 256 * (c3 + c4) + 65536 * ((c4 + c5) + 256 * (c5 + c6) + 65536 * ((c6 + c7) + 256 * c7))) := by omega
theorem id2 (c0 c1 c2 c3 c4 c5 c6 c7 : Nat) : ((c0 + c1) + 256 * (c1 + c2)) + 65536 * ((c2 + c3) + 256 * (c3 + c4) + 65536 * ((c4 + c5) + 256 * (c5 + c6) + 65536 * ((c6 + c7) + 256 * c7))) + ((c2 + c3) + 256 * (c3 + c4) + 65536 * ((c4 + c5) + 256 * (c5 + c6) + 65536 * ((c6 + c7) + 256 * c7))) =
    ((c0 + c1 + c2 + c3) + 256 * (c1 + c2 + c3 + c4) + 65536 * ((c2 + c3 + c4 + c5) + 256 * (c3 + c4 + c5 + c6))) + 4294967296 * ((c4 + c5 + c6 + c7) + 256 * (c5 + c6 + c7) + 65536 * ((c6 + c7) + 256 * c7)) := by omega
theorem id3 (c0 c1 c2 c3 c4 c5 c6 c7 : Nat) : ((c0 + c1 + c2 + c3) + 256 * (c1 + c2 + c3 + c4) + 65536 * ((c2 + c3 + c4 + c5) + 256 * (c3 + c4 + c5 + c6))) + 4294967296 * ((c4 + c5 + c6 + c7) + 256 * (c5 + c6 + c7) + 65536 * ((c6 + c7) + 256 * c7)) + ((c4 + c5 + c6 + c7) + 256 * (c5 + c6 + c7) + 65536 * ((c6 + c7) + 256 * c7)) =
    (c0 + c1 + c2 + c3 + c4 + c5 + c6 + c7) + 256 * ((c1 + c2 + c3 + c4) + (c5 + c6 + c7) + 256 * ((c2 + c3 + c4 + c5) + (c6 + c7) + 256 * (c3 + c4 + c5 + c6 + c7)) + 16777216 * ((c4 + c5 + c6 + c7) + 256 * (c5 + c6 + c7) + 65536 * ((c6 + c7) + 256 * c7))) := by omega
/-- The last three steps: the sum of the bytes. -/
theorem fold_eight (c0 c1 c2 c3 c4 c5 c6 c7 y : Nat) (h0 : c0 ≤ 8) (h1 : c1 ≤ 8) (h2 : c2 ≤ 8) (h3 : c3 ≤ 8) (h4 : c4 ≤ 8) (h5 : c5 ≤ 8) (h6 : c6 ≤ 8) (h7 : c7 ≤ 8)
    (hy : y = c0 + 256 * c1 + 65536 * c2 + 16777216 * c3 + 4294967296 * c4 + 1099511627776 * c5 + 281474976710656 * c6 + 72057594037927936 * c7) :
    y + y / 256 < 18446744073709551616 ∧ (y + y / 256) + (y + y / 256) / 65536 < 18446744073709551616 ∧ (y + y / 256) + (y + y / 256) / 65536 + ((y + y / 256) + (y + y / 256) / 65536) / 4294967296 < 18446744073709551616 ∧
    ((y + y / 256) + (y + y / 256) / 65536 + ((y + y / 256) + (y + y / 256) / 65536) / 4294967296) % 128 = c0 + c1 + c2 + c3 + c4 + c5 + c6 + c7 := by
  have e1 : y / 256 = c1 + 256 * (c2 + 256 * (c3 + 256 * (c4 + 256 * (c5 + 256 * (c6 + 256 * c7))))) := part_low (a := c0) (by clear hy; omega) (by rw [hy]; exact id0 c0 c1 c2 c3 c4 c5 c6 c7)
  have z : y + y / 256 = ((c0 + c1) + 256 * (c1 + c2)) + 65536 * ((c2 + c3) + 256 * (c3 + c4) + 65536 * ((c4 + c5) + 256 * (c5 + c6) + 65536 * ((c6 + c7) + 256 * c7))) := by rw [e1, hy]; exact id1 c0 c1 c2 c3 c4 c5 c6 c7
  clear e1
  generalize y + y / 256 = Z at z ⊢
  have e2 : Z / 65536 = (c2 + c3) + 256 * (c3 + c4) + 65536 * ((c4 + c5) + 256 * (c5 + c6) + 65536 * ((c6 + c7) + 256 * c7)) := part_low' (a := (c0 + c1) + 256 * (c1 + c2)) (by omega) z
  have z2 : Z + Z / 65536 = ((c0 + c1 + c2 + c3) + 256 * (c1 + c2 + c3 + c4) + 65536 * ((c2 + c3 + c4 + c5) + 256 * (c3 + c4 + c5 + c6))) + 4294967296 * ((c4 + c5 + c6 + c7) + 256 * (c5 + c6 + c7) + 65536 * ((c6 + c7) + 256 * c7)) := by rw [e2, z]; exact id2 c0 c1 c2 c3 c4 c5 c6 c7
  have zb : Z < 18446744073709551616 := by rw [z]; clear z2 z e2 hy; omega
  clear e2 z hy
  generalize Z + Z / 65536 = V at z2 ⊢
  have e3 : V / 4294967296 = (c4 + c5 + c6 + c7) + 256 * (c5 + c6 + c7) + 65536 * ((c6 + c7) + 256 * c7) := part_low'' (a := (c0 + c1 + c2 + c3) + 256 * (c1 + c2 + c3 + c4) + 65536 * ((c2 + c3 + c4 + c5) + 256 * (c3 + c4 + c5 + c6))) (by omega) z2
  have vb : V < 18446744073709551616 := by rw [z2]; clear z2 e3 zb; omega
  have z3 : V + V / 4294967296 = (c0 + c1 + c2 + c3 + c4 + c5 + c6 + c7) + 256 * ((c1 + c2 + c3 + c4) + (c5 + c6 + c7) + 256 * ((c2 + c3 + c4 + c5) + (c6 + c7) + 256 * (c3 + c4 + c5 + c6 + c7)) + 16777216 * ((c4 + c5 + c6 + c7) + 256 * (c5 + c6 + c7) + 65536 * ((c6 + c7) + 256 * c7))) := by rw [e3, z2]; exact id3 c0 c1 c2 c3 c4 c5 c6 c7
  clear z2 e3
  refine ⟨zb, vb, by rw [z3]; clear z3 zb vb; omega, ?_⟩
  rw [z3]
  exact part_mod (by clear z3 zb vb; omega)
theorem bsum_eight (x : Nat) : bsum 8 x = pop 8 (x % 256) + 256 * pop 8 (x / 256 % 256) + 65536 * pop 8 (x / 256 / 256 % 256) + 16777216 * pop 8 (x / 256 / 256 / 256 % 256) + 4294967296 * pop 8 (x / 256 / 256 / 256 / 256 % 256) +
    1099511627776 * pop 8 (x / 256 / 256 / 256 / 256 / 256 % 256) + 281474976710656 * pop 8 (x / 256 / 256 / 256 / 256 / 256 / 256 % 256) + 72057594037927936 * pop 8 (x / 256 / 256 / 256 / 256 / 256 / 256 / 256 % 256) := by
  simp only [bsum]; omega
theorem pop_step (n x : Nat) : pop (8 + n) x = pop 8 (x % 256) + pop n (x / 256) := by
  have h := pop_byte n (x % 256) (x / 256) (by omega)
  rw [show x % 256 + 256 * (x / 256) = x by omega] at h
  exact h
theorem pop_eight (x : Nat) : pop 64 x = pop 8 (x % 256) + pop 8 (x / 256 % 256) + pop 8 (x / 256 / 256 % 256) + pop 8 (x / 256 / 256 / 256 % 256) + pop 8 (x / 256 / 256 / 256 / 256 % 256) +
    pop 8 (x / 256 / 256 / 256 / 256 / 256 % 256) + pop 8 (x / 256 / 256 / 256 / 256 / 256 / 256 % 256) + pop 8 (x / 256 / 256 / 256 / 256 / 256 / 256 / 256 % 256) := by
  rw [show (64 : Nat) = 8 + (8 + (8 + (8 + (8 + (8 + (8 + (8 + 0))))))) from rfl, pop_step, pop_step, pop_step, pop_step, pop_step, pop_step, pop_step, pop_step]
  simp only [pop]
  omega
/-! ### Sets of digits -/
theorem pop_mono : ∀ (n a b : Nat), (∀ i, a.testBit i = true → b.testBit i = true) → pop n a ≤ pop n b
  | 0, _, _, _ => Nat.le_refl _
  | n + 1, a, b, h => by
    unfold pop
    have h0 : a % 2 ≤ b % 2 := by
      have := h 0
      rw [Nat.testBit_zero, Nat.testBit_zero] at this
      simp only [decide_eq_true_iff] at this
      omega
    have h1 := pop_mono n (a / 2) (b / 2) (fun i hi => by
      rw [Nat.testBit_div_two] at hi ⊢
      exact h (i + 1) hi)
    omega
end Go.Proofs.YtfbnbnbclmemdaaDoor.BitsMath

/- What is proved: what math/bits.OnesCount64, bits.Count and the reference's Has, List and Count of chapter 2 answer at any 64 digits: how many there are, which; conditions as each theorem names them. -/
import Derived.Test.YtfbnbnbclmemdaaDoorBitsMath
import Derived.Test.YtfbnbnbclmemdaaDoorQBixf20
import Derived.Test.YtfbnbnbclmemdaaDoorQBixf12
import Derived.Test.YtfbnbnbclmemdaaDoorQBixf15
import Derived.Test.YtfbnbnbclmemdaaDoorQBixf17
namespace Go.Proofs.YtfbnbnbclmemdaaDoor.BitsPure
open Go.RowKit Go.Proofs.YtfbnbnbclmemdaaDoor.QBi Go.Proofs.YtfbnbnbclmemdaaDoorW.PrintWords Go.Proofs.YtfbnbnbclmemdaaDoorW.PrintLast Go.Proofs.YtfbnbnbclmemdaaDoorW.PrintMore Go.Proofs.YtfbnbnbclmemdaaDoor.BitsMath
set_option linter.unusedVariables false

theorem wrapN {a : Nat} (h : a < 18446744073709551616) : IntKind.u64.wrap (a : Int) = (a : Int) := by rw [IntKind.wrap_u64]; omega
theorem wr64 (n : Int) (h0 : 0 ≤ n) (h1 : n < 2 ^ 64) : IntKind.u64.wrap n = n := by rw [IntKind.wrap_u64]; omega
theorem andN (a b : Nat) (ha : a < 18446744073709551616) (hb : b < 18446744073709551616) : Go.bits .and .u64 (a : Int) (b : Int) = ((a &&& b : Nat) : Int) := (bits_nat .u64 64 (by decide) wr64 a b ha hb).1
theorem orN (a b : Nat) (ha : a < 18446744073709551616) (hb : b < 18446744073709551616) : Go.bits .or .u64 (a : Int) (b : Int) = ((a ||| b : Nat) : Int) := (bits_nat .u64 64 (by decide) wr64 a b ha hb).2
theorem and_lt {a b : Nat} (ha : a < 18446744073709551616) : a &&& b < 18446744073709551616 := Nat.lt_of_le_of_lt Nat.and_le_left ha
theorem or_lt {a b : Nat} (ha : a < 18446744073709551616) (hb : b < 18446744073709551616) : a ||| b < 18446744073709551616 := Nat.or_lt_two_pow (n := 64) ha hb
def S1 (x : Int) : Int := IntKind.u64.wrap ((Go.bits .and .u64 (x / 2) 6148914691236517205) + (Go.bits .and .u64 x 6148914691236517205))
def S2 (x : Int) : Int := IntKind.u64.wrap ((Go.bits .and .u64 (x / 4) 3689348814741910323) + (Go.bits .and .u64 x 3689348814741910323))
def S3 (x : Int) : Int := Go.bits .and .u64 (IntKind.u64.wrap ((x / 16) + x)) 1085102592571150095
def S4 (x : Int) : Int := IntKind.u64.wrap (x + x / 256)
def S5 (x : Int) : Int := IntKind.u64.wrap (x + x / 65536)
def S6 (x : Int) : Int := IntKind.u64.wrap (x + x / 4294967296)
theorem ones_steps (x : Int) : bits_OnesCount64.f x = some (Go.bits .and .i64 (wrap64 (S6 (S5 (S4 (S3 (S2 (S1 x))))))) 127) := by
  unfold bits_OnesCount64.f S6 S5 S4 S3 S2 S1
  rfl
theorem S1_eq (n : Nat) (h : n < 18446744073709551616) (hs : st1 (rep 85 8) n < 18446744073709551616) : S1 (n : Int) = (st1 (rep 85 8) n : Nat) := by
  have e : (6148914691236517205 : Int) = ((rep 85 8 : Nat) : Int) := by decide
  unfold S1
  rw [e, show (n : Int) / 2 = ((n / 2 : Nat) : Int) by omega, andN _ _ (by omega) (by decide), andN _ _ h (by decide), ← Int.natCast_add]
  exact wrapN hs
theorem S2_eq (n : Nat) (h : n < 18446744073709551616) (hs : st2 (rep 51 8) n < 18446744073709551616) : S2 (n : Int) = (st2 (rep 51 8) n : Nat) := by
  have e : (3689348814741910323 : Int) = ((rep 51 8 : Nat) : Int) := by decide
  unfold S2
  rw [e, show (n : Int) / 4 = ((n / 4 : Nat) : Int) by omega, andN _ _ (by omega) (by decide), andN _ _ h (by decide), ← Int.natCast_add]
  exact wrapN hs
theorem S3_eq (n : Nat) (h : n / 16 + n < 18446744073709551616) : S3 (n : Int) = (st3 (rep 15 8) n : Nat) := by
  have e : (1085102592571150095 : Int) = ((rep 15 8 : Nat) : Int) := by decide
  unfold S3
  rw [e, show (n : Int) / 16 = ((n / 16 : Nat) : Int) by omega, ← Int.natCast_add, wrapN h, andN _ _ h (by decide)]
  rfl
theorem st1_lt {k : Nat} : ∀ x, x < 256 ^ k → st1 (rep 85 k) x < 256 ^ k := by
  induction k with
  | zero => intro x h; obtain rfl : x = 0 := by simpa using h
            rw [(st_zero _).1]; decide
  | succ k ih =>
    intro x h
    have hq : x / 256 < 256 ^ k := by rw [Nat.div_lt_iff_lt_mul (by omega), ← Nat.pow_succ]; exact h
    have hb := byte_tells (x % 256) (by omega)
    have e1 : st1 (rep 85 (k + 1)) x = st1 85 (x % 256) + 256 * st1 (rep 85 k) (x / 256) := by
      conv => lhs; rw [show x = x % 256 + 256 * (x / 256) by omega]
      exact st1_byte _ _ _ (by omega)
    have := ih _ hq
    rw [e1, Nat.pow_succ]; omega
theorem st2_lt {k : Nat} : ∀ x, x < 256 ^ k → 255 * st2 (rep 51 k) (st1 (rep 85 k) x) + 68 ≤ 68 * 256 ^ k := by
  induction k with
  | zero => intro x h; obtain rfl : x = 0 := by simpa using h
            rw [(st_zero _).1, (st_zero _).2.1]; decide
  | succ k ih =>
    intro x h
    have hq : x / 256 < 256 ^ k := by rw [Nat.div_lt_iff_lt_mul (by omega), ← Nat.pow_succ]; exact h
    have hb := byte_tells (x % 256) (by omega)
    have e1 : st1 (rep 85 (k + 1)) x = st1 85 (x % 256) + 256 * st1 (rep 85 k) (x / 256) := by
      conv => lhs; rw [show x = x % 256 + 256 * (x / 256) by omega]
      exact st1_byte _ _ _ (by omega)
    have e2 : st2 (rep 51 (k + 1)) (st1 (rep 85 (k + 1)) x) = st2 51 (st1 85 (x % 256)) + 256 * st2 (rep 51 k) (st1 (rep 85 k) (x / 256)) := by
      rw [e1]; exact st2_byte _ _ _ hb.1
    have := ih _ hq
    rw [e2, Nat.pow_succ]; omega
theorem mask7 (u : Nat) (h : u < 18446744073709551616) : Go.bits .and .i64 (wrap64 (u : Int)) 127 = ((u % 128 : Nat) : Int) := by
  have e : Go.bits .and .i64 (wrap64 (u : Int)) 127 = IntKind.i64.wrap ((BitVec.ofInt 64 (wrap64 (u : Int)) &&& BitVec.ofInt 64 127).toNat : Int) := rfl
  have e1 : (BitVec.ofInt 64 (wrap64 (u : Int))).toNat = u := by
    rw [BitVec.toNat_ofInt]
    unfold wrap64
    omega
  have e2 : (BitVec.ofInt 64 127).toNat = 2 ^ 7 - 1 := by decide
  rw [e, BitVec.toNat_and, e1, e2, Nat.and_two_pow_sub_one_eq_mod, IntKind.wrap_i64]
  omega
theorem ones_eq (n : Nat) (h : n < 18446744073709551616) : bits_OnesCount64.f (n : Int) = some ((pop 64 n : Nat) : Int) := by
  have hk : n < 256 ^ 8 := h
  have a1 := st1_lt n hk
  have a2 := st2_lt n hk
  obtain ⟨_, a3⟩ := steps 8 n hk
  rw [show (256 : Nat) ^ 8 = 18446744073709551616 by decide] at a1 a2
  rw [ones_steps, S1_eq n h a1, S2_eq _ a1 (by omega), S3_eq _ (by omega), a3]
  obtain ⟨f1, f2, f3, f4⟩ := fold_eight _ _ _ _ _ _ _ _ (bsum 8 n) (pop8_le _) (pop8_le _) (pop8_le _) (pop8_le _) (pop8_le _) (pop8_le _) (pop8_le _) (pop8_le _) (bsum_eight n)
  rw [← pop_eight] at f4
  have hp := pop_le 64 n
  generalize bsum 8 n = y at *
  have g1 : S4 (y : Int) = ((y + y / 256 : Nat) : Int) := by unfold S4; rw [show (y : Int) + (y : Int) / 256 = ((y + y / 256 : Nat) : Int) by omega]; exact wrapN f1
  rw [g1]
  generalize y + y / 256 = z at *
  have g2 : S5 (z : Int) = ((z + z / 65536 : Nat) : Int) := by unfold S5; rw [show (z : Int) + (z : Int) / 65536 = ((z + z / 65536 : Nat) : Int) by omega]; exact wrapN f2
  rw [g2]
  generalize z + z / 65536 = v at *
  have g3 : S6 (v : Int) = ((v + v / 4294967296 : Nat) : Int) := by unfold S6; rw [show (v : Int) + (v : Int) / 4294967296 = ((v + v / 4294967296 : Nat) : Int) by omega]; exact wrapN f3
  rw [g3]
  generalize v + v / 4294967296 = u at *
  rw [mask7 u f3, f4]
theorem ones_int (x : Int) (h0 : 0 ≤ x) (h1 : x < 18446744073709551616) : bits_OnesCount64.f x = some ((pop 64 x.toNat : Nat) : Int) := by
  obtain ⟨n, rfl⟩ := Int.eq_ofNat_of_zero_le h0
  rw [ones_eq n (by omega)]; rfl
theorem count_int (x : Int) (h0 : 0 ≤ x) (h1 : x < 18446744073709551616) : bits_Count.f x = some ((pop 64 x.toNat : Nat) : Int) := by
  unfold bits_Count.f; rw [ones_int x h0 h1]; rfl

/-! ### The reference -/
theorem has_eq (n : Nat) (i : Int) (h : n < 18446744073709551616) : taskmasterref2_Has.f (n : Int) i = some (decide (0 ≤ i ∧ i < 64) && n.testBit i.toNat) := by
  unfold taskmasterref2_Has.f
  by_cases h0 : i ≥ 0
  · rw [if_pos h0]
    by_cases h1 : i < 64
    · have e1 : IntKind.u64.wrap i = i := by rw [IntKind.wrap_u64]; omega
      rw [if_pos h1, e1, if_pos h0, decide_eq_true (show 0 ≤ i ∧ i < 64 from ⟨h0, h1⟩), Bool.true_and]
      obtain ⟨j, rfl⟩ := Int.eq_ofNat_of_zero_le h0
      have e2 : shr .u64 (n : Int) (j : Int) = ((n / 2 ^ j : Nat) : Int) := by
        unfold shr
        rw [Int.toNat_natCast]
        have hj : j ≤ IntKind.u64.bits := by show j ≤ 64; omega
        rw [show min j IntKind.u64.bits = j from Nat.min_eq_left hj]
        norm_cast
      rw [e2]
      have hd : n / 2 ^ j < 18446744073709551616 := Nat.lt_of_le_of_lt (Nat.div_le_self _ _) h
      have e3 := andN (n / 2 ^ j) 1 hd (by decide)
      rw [show ((1 : Nat) : Int) = 1 from rfl] at e3
      rw [e3, Nat.and_one_is_mod, Int.toNat_natCast, Nat.testBit_eq_decide_div_mod_eq]
      congr 1
      by_cases hq : n / 2 ^ j % 2 = 1
      · rw [decide_eq_true hq, hq]; rfl
      · have hz : n / 2 ^ j % 2 = 0 := by omega
        rw [decide_eq_false hq, hz]; rfl
    · rw [if_neg h1, decide_eq_false (by omega)]; rfl
  · rw [if_neg h0, decide_eq_false (by omega)]; rfl
/-- A set's numbers from i on. -/
def listFrom (n : Nat) : Nat → Nat → List Int
  | 0, _ => []
  | d + 1, i => if n.testBit i then (i : Int) :: listFrom n d (i + 1) else listFrom n d (i + 1)
theorem listFrom_length (n : Nat) : ∀ (d i : Nat), (listFrom n d i).length = pop d (n / 2 ^ i)
  | 0, i => rfl
  | d + 1, i => by
    unfold listFrom pop
    rw [Nat.div_div_eq_div_mul, show 2 ^ i * 2 = 2 ^ (i + 1) from (Nat.pow_succ 2 i).symm]
    have := listFrom_length n d (i + 1)
    rw [Nat.testBit_eq_decide_div_mod_eq]
    by_cases hb : n / 2 ^ i % 2 = 1
    · rw [decide_eq_true hb, if_pos rfl, List.length_cons, this]; omega
    · rw [decide_eq_false hb, if_neg (by simp), this]; omega
theorem list_loop (n : Nat) (h : n < 18446744073709551616) : ∀ (d k i : Nat) (acc : List Int), i + d = 64 → d < k → acc.length ≤ i → taskmasterref2_List.l0 k (n : Int) acc (i : Int) = some (acc ++ listFrom n d i) := by
  intro d
  induction d with
  | zero =>
    intro k i acc hi hk ha
    obtain ⟨k, rfl⟩ : ∃ m, k = m + 1 := ⟨k - 1, by omega⟩
    unfold taskmasterref2_List.l0
    rw [if_neg (by omega)]; unfold listFrom; rw [List.append_nil]
  | succ d ih =>
    intro k i acc hi hk ha
    obtain ⟨k, rfl⟩ : ∃ m, k = m + 1 := ⟨k - 1, by omega⟩
    unfold taskmasterref2_List.l0
    have ew : wrap64 ((i : Int) + 1) = ((i + 1 : Nat) : Int) := by unfold wrap64; omega
    rw [if_pos (by omega), has_eq n i h, Option.bind_some, decide_eq_true (show 0 ≤ (i : Int) ∧ (i : Int) < 64 by omega), Bool.true_and, Int.toNat_natCast, ew]
    unfold listFrom
    by_cases hb : n.testBit i = true
    · rw [if_pos hb, if_pos (by omega), ih k (i + 1) _ (by omega) (by omega) (by simp; omega), if_pos hb, List.append_assoc]; rfl
    · rw [if_neg hb, ih k (i + 1) _ (by omega) (by omega) (by omega), if_neg hb]
theorem list_eq (x : Int) (h0 : 0 ≤ x) (h1 : x < 18446744073709551616) (k : Nat) (hk : 64 < k) : taskmasterref2_List.f k x = some (listFrom x.toNat 64 0) := by
  obtain ⟨n, rfl⟩ := Int.eq_ofNat_of_zero_le h0
  unfold taskmasterref2_List.f
  have := list_loop n (by omega) 64 k 0 [] (by omega) hk (Nat.zero_le _)
  rw [List.nil_append] at this
  exact this
end Go.Proofs.YtfbnbnbclmemdaaDoor.BitsPure

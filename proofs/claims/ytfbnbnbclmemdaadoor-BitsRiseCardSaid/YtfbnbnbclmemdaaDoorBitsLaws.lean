/- What is proved: chapter 2's laws of bits (One, Of, Parts, Tells, Rise) come to 'true' at every argument, in plain Lean; conditions as each theorem names them. -/
import Derived.Test.YtfbnbnbclmemdaaDoorBitsPure
import Derived.Test.YtfbnbnbclmemdaaDoorHandTz
import Derived.Test.YtfbnbnbclmemdaaDoorQBixf3
import Derived.Test.YtfbnbnbclmemdaaDoorQBixf4
import Derived.Test.YtfbnbnbclmemdaaDoorQBixf5
import Derived.Test.YtfbnbnbclmemdaaDoorQBixf6
import Derived.Test.YtfbnbnbclmemdaaDoorQBixf7
namespace Go.Proofs.YtfbnbnbclmemdaaDoor.Pure
open Go.RowKit Go.Proofs.YtfbnbnbclmemdaaDoor.QBi Go.Proofs.YtfbnbnbclmemdaaDoorW.PrintWords Go.Proofs.YtfbnbnbclmemdaaDoorW.PrintLast Go.Proofs.YtfbnbnbclmemdaaDoorW.PrintMore Go.Proofs.YtfbnbnbclmemdaaDoor.BitsMath Go.Proofs.YtfbnbnbclmemdaaDoor.BitsPure
set_option linter.unusedVariables false

theorem evp {α : Type} {c : Prop} [Decidable c] {f g : Nat → Option α} {r : α} (h : c) (k : Ev f r) : Ev (fun n => if c then f n else g n) r := Ev.congr (fun _ => if_pos h) k
theorem evn {α : Type} {c : Prop} [Decidable c] {f g : Nat → Option α} {r : α} (h : ¬ c) (k : Ev g r) : Ev (fun n => if c then f n else g n) r := Ev.congr (fun _ => if_neg h) k
theorem evb {α β : Type} {o : Option α} {f : Nat → α → Option β} {a : α} {r : β} (h : o = some a) (k : Ev (fun n => f n a) r) : Ev (fun n => o.bind (f n)) r := Ev.congr (fun n => by rw [h]; rfl) k
theorem w64 {n : Int} (h0 : -9223372036854775808 ≤ n) (h1 : n ≤ 9223372036854775807) : wrap64 n = n := by unfold wrap64; omega
theorem wi {i : Nat} (h : i ≤ 1000000) : wrap64 ((i : Int) + 1) = ((i + 1 : Nat) : Int) := w64 (by omega) (by omega)
theorem rd_drop {l : List Int} {i : Nat} (h : i < l.length) : l.drop i = rd l (i : Int) :: l.drop (i + 1) := by
  rw [List.drop_eq_getElem_cons h]; unfold rd
  rw [Int.toNat_natCast, List.getD_eq_getElem?_getD, List.getElem?_eq_getElem h]; rfl
theorem u64_in {n : Int} (h : (Lit.int .u64 n).wf = true) : 0 ≤ n ∧ n < 18446744073709551616 := by
  simp only [Lit.wf, IntKind.min, IntKind.max, IntKind.signed, IntKind.bits, Bool.and_eq_true] at h
  simp at h
  omega
/-! ### The least digit -/
theorem ctz_spec {n : Nat} (h0 : n ≠ 0) (h : n < 18446744073709551616) : ∃ k m, Lib.ctz 64 n = k ∧ n = 2 ^ k * (2 * m + 1) ∧ k < 64 := by
  obtain ⟨m, h1, h2⟩ := Lib.ctzFrom_spec 64 n (by omega) h
  refine ⟨Lib.ctzFrom 64 n, m, ?_, h1, h2⟩
  unfold Lib.ctz; rw [if_neg h0]
theorem bit_of {k m : Nat} (j : Nat) : (2 ^ k * (2 * m + 1)).testBit j = (if j < k then false else (2 * m + 1).testBit (j - k)) := by
  have := Nat.testBit_two_pow_mul_add (2 * m + 1) (b := 0) (i := k) (Nat.two_pow_pos k) j
  rw [Nat.add_zero, Nat.zero_testBit] at this
  exact this
theorem clear_of {k m : Nat} (j : Nat) : ((2 ^ k * (2 * m + 1)) &&& (2 ^ k * (2 * m + 1) - 1)).testBit j = ((2 ^ k * (2 * m + 1)).testBit j && decide (j ≠ k)) := by
  have hp := Nat.two_pow_pos k
  have e : 2 ^ k * (2 * m + 1) - 1 = 2 ^ k * (2 * m) + (2 ^ k - 1) := by rw [Nat.mul_add, Nat.mul_one]; omega
  rw [Nat.testBit_and, bit_of, e, Nat.testBit_two_pow_mul_add (2 * m) (by omega) j]
  by_cases hj : j < k
  · rw [if_pos hj]; rfl
  · rw [if_neg hj, if_neg hj]
    by_cases hk : j = k
    · subst hk
      rw [Nat.sub_self, Nat.testBit_zero, Nat.testBit_zero]
      simp
    · obtain ⟨d, rfl⟩ : ∃ d, j = k + (d + 1) := ⟨j - k - 1, by omega⟩
      rw [show k + (d + 1) - k = d + 1 by omega, ← Nat.testBit_div_two, ← Nat.testBit_div_two, show (2 * m + 1) / 2 = m by omega, show 2 * m / 2 = m by omega]
      simp
theorem list_congr {a b : Nat} : ∀ (d i : Nat), (∀ j, i ≤ j → j < i + d → a.testBit j = b.testBit j) → listFrom a d i = listFrom b d i
  | 0, _, _ => rfl
  | d + 1, i, h => by
    unfold listFrom
    rw [h i (Nat.le_refl _) (by omega), list_congr d (i + 1) (fun j h1 h2 => h j (by omega) (by omega))]
theorem list_first {a b k : Nat} : ∀ (d i : Nat), i ≤ k → k < i + d → a.testBit k = true → b.testBit k = false → (∀ j, j < k → a.testBit j = false) → (∀ j, j ≠ k → b.testBit j = a.testBit j) → listFrom a d i = (k : Int) :: listFrom b d i
  | 0, i, h0, h1, _, _, _, _ => absurd h1 (by omega)
  | d + 1, i, h0, h1, ha, hb, hl, he => by
    by_cases hi : i = k
    · subst hi
      show (if a.testBit i = true then _ else _) = _ :: (if b.testBit i = true then _ else _)
      rw [if_pos ha, if_neg (by rw [hb]; simp), list_congr d (i + 1) (fun j h1 _ => (he j (by omega)).symm)]
    · show (if a.testBit i = true then _ else _) = _ :: (if b.testBit i = true then _ else _)
      rw [if_neg (by rw [hl i (by omega)]; simp), if_neg (by rw [he i hi, hl i (by omega)]; simp)]
      exact list_first d (i + 1) (by omega) (by omega) ha hb hl he
theorem list_zero : ∀ (d i : Nat), listFrom 0 d i = []
  | 0, _ => rfl
  | d + 1, i => by unfold listFrom; rw [if_neg (by rw [Nat.zero_testBit]; simp)]; exact list_zero d (i + 1)
theorem list_step {n : Nat} (h0 : n ≠ 0) (h : n < 18446744073709551616) : listFrom n 64 0 = ((Lib.ctz 64 n : Nat) : Int) :: listFrom (n &&& (n - 1)) 64 0 := by
  obtain ⟨k, m, e, rfl, hk⟩ := ctz_spec h0 h
  rw [e]
  have hb : (2 ^ k * (2 * m + 1)).testBit k = true := by rw [bit_of, if_neg (by omega), Nat.sub_self, Nat.testBit_zero]; simp
  refine list_first 64 0 (by omega) (by omega) hb ?_ (fun j hj => by rw [bit_of, if_pos hj]) (fun j hj => ?_)
  · rw [clear_of]; simp
  · rw [clear_of]; simp [hj]
theorem tz_eq {n : Nat} (h : n < 18446744073709551616) : bits_TrailingZeros64.f (n : Int) = some ((Lib.ctz 64 n : Nat) : Int) := by
  unfold bits_TrailingZeros64.f; rw [if_pos (by omega), Int.toNat_natCast]
theorem blist_loop (d : Nat) : ∀ (n : Nat) (acc : List Int), n < 18446744073709551616 → (listFrom n 64 0).length = d → acc.length + d ≤ 64 → Ev (fun k => bits_List.l0 k (n : Int) acc) (acc ++ listFrom n 64 0) := by
  induction d with
  | zero =>
    intro n acc hn hl ha
    have hz : n = 0 := by
      rcases Nat.eq_zero_or_pos n with h | h
      · exact h
      · rw [list_step (by omega) hn] at hl; simp at hl
    subst hz
    refine Ev.step (fun k => by rw [bits_List.l0]) ?_
    refine evp (show ((0 : Nat) : Int) = 0 from rfl) ?_
    rw [list_zero, List.append_nil]; exact Ev.now _
  | succ d ih =>
    intro n acc hn hl ha
    have h0 : n ≠ 0 := by
      rintro rfl
      rw [list_zero] at hl; simp at hl
    rw [list_step h0 hn] at hl ⊢
    refine Ev.step (fun k => by rw [bits_List.l0]) ?_
    refine evn (by omega) ?_
    refine evb (tz_eq hn) ?_
    refine evp (by omega) ?_
    rw [show (n : Int) - 1 = ((n - 1 : Nat) : Int) by omega, wrapN (by omega), andN n (n - 1) hn (by omega)]
    have r := ih (n &&& (n - 1)) (acc ++ [((Lib.ctz 64 n : Nat) : Int)]) (and_lt hn) (by simpa using hl) (by simp; omega)
    rw [List.append_assoc] at r; exact r
theorem pop_list (n : Nat) : (listFrom n 64 0).length = pop 64 n := by rw [listFrom_length, Nat.pow_zero, Nat.div_one]
theorem blist_ev {n : Nat} (h : n < 18446744073709551616) : Ev (fun k => bits_List.f k (n : Int)) (listFrom n 64 0) := by
  have hp := pop_le 64 n
  have r := blist_loop (listFrom n 64 0).length n [] h rfl (by rw [pop_list]; simpa using hp)
  rw [List.nil_append] at r; exact r
theorem list_mem (n : Nat) : ∀ (d i j : Nat), ((j : Int) ∈ listFrom n d i) ↔ (i ≤ j ∧ j < i + d ∧ n.testBit j = true)
  | 0, i, j => by unfold listFrom; simp; omega
  | d + 1, i, j => by
    have r := list_mem n d (i + 1) j
    unfold listFrom
    by_cases hS : n.testBit i = true
    · rw [if_pos hS, List.mem_cons, r]
      constructor
      · rintro (h | h)
        · obtain rfl : j = i := by omega
          exact ⟨Nat.le_refl _, by omega, hS⟩
        · exact ⟨by omega, by omega, h.2.2⟩
      · rintro ⟨h1, h2, h3⟩
        by_cases e : j = i
        · exact Or.inl (by omega)
        · exact Or.inr ⟨by omega, by omega, h3⟩
    · rw [if_neg hS, r]
      constructor
      · rintro ⟨h1, h2, h3⟩; exact ⟨by omega, by omega, h3⟩
      · rintro ⟨h1, h2, h3⟩
        refine ⟨?_, by omega, h3⟩
        by_cases e : j = i
        · subst e; exact absurd h3 hS
        · omega
theorem list_all (n : Nat) : ∀ (d i : Nat), ∀ x ∈ listFrom n d i, ∃ j : Nat, x = (j : Int) ∧ i ≤ j ∧ j < i + d
  | 0, i, x, hx => by cases hx
  | d + 1, i, x, hx => by
    unfold listFrom at hx
    by_cases hS : n.testBit i = true
    · rw [if_pos hS] at hx
      rcases List.mem_cons.mp hx with rfl | hx
      · exact ⟨i, rfl, by omega, by omega⟩
      · obtain ⟨j, h1, h2, h3⟩ := list_all n d (i + 1) x hx; exact ⟨j, h1, by omega, by omega⟩
    · rw [if_neg hS] at hx
      obtain ⟨j, h1, h2, h3⟩ := list_all n d (i + 1) x hx; exact ⟨j, h1, by omega, by omega⟩

/-! ### Has, Of -/
theorem bis_eq (i : Int) : bits_is.f i = some (decide (0 ≤ i ∧ i < 64)) := by
  unfold bits_is.f
  by_cases h : i ≥ 0
  · rw [if_pos h]; simp [show 0 ≤ i from h]
  · rw [if_neg h]; simp [show ¬ 0 ≤ i from h]
theorem bhas_eq (n : Nat) (i : Int) (h : n < 18446744073709551616) : bits_Has.f (n : Int) i = some (decide (0 ≤ i ∧ i < 64) && n.testBit i.toNat) := by
  have r := has_eq n i h
  unfold taskmasterref2_Has.f at r
  unfold bits_Has.f
  rw [bis_eq, Option.bind_some]
  by_cases h0 : 0 ≤ i
  · by_cases h1 : i < 64
    · have e1 : IntKind.u64.wrap i = i := by rw [IntKind.wrap_u64]; omega
      rw [if_pos (show i ≥ 0 from h0), if_pos h1, e1, if_pos h0] at r
      rw [if_pos (decide_eq_true ⟨h0, h1⟩), if_pos h0]; exact r
    · rw [if_neg (by simp; omega), decide_eq_false (by omega)]; rfl
  · rw [if_neg (by simp; omega), decide_eq_false (by omega)]; rfl
/-- Numbers as a set. -/
def ofL : Nat → List Int → Nat
  | a, [] => a
  | a, x :: l => if 0 ≤ x ∧ x < 64 then ofL (a ||| 2 ^ x.toNat) l else ofL a l
theorem two_lt {i : Nat} (h : i < 64) : 2 ^ i < 18446744073709551616 := Nat.pow_lt_pow_right (a := 2) (by decide) h
theorem ofL_lt : ∀ (l : List Int) (a : Nat), a < 18446744073709551616 → ofL a l < 18446744073709551616
  | [], a, h => h
  | x :: l, a, h => by
    unfold ofL
    split
    · exact ofL_lt l _ (or_lt h (two_lt (by omega)))
    · exact ofL_lt l a h
theorem ofL_bit (j : Nat) (hj : j < 64) : ∀ (l : List Int) (a : Nat), (ofL a l).testBit j = (a.testBit j || decide ((j : Int) ∈ l))
  | [], a => by simp [ofL]
  | x :: l, a => by
    unfold ofL
    by_cases hx : 0 ≤ x ∧ x < 64
    · rw [if_pos hx, ofL_bit j hj l, Nat.testBit_or, Nat.testBit_two_pow]
      by_cases e : (j : Int) = x
      · have : x.toNat = j := by omega
        simp [e, this]
      · have : x.toNat ≠ j := by omega
        simp [e, this]
    · rw [if_neg hx, ofL_bit j hj l]
      have : ¬ (j : Int) = x := by omega
      simp [this]
theorem shl_eq {i : Nat} (h : i < 64) : shl .u64 1 (i : Int) = ((2 ^ i : Nat) : Int) := by
  unfold shl
  rw [Int.toNat_natCast, show min i IntKind.u64.bits = i from Nat.min_eq_left (show i ≤ 64 by omega), Int.one_mul]
  have e : (2 : Int) ^ i = ((2 ^ i : Nat) : Int) := by norm_cast
  rw [e]
  exact wrapN (two_lt h)
theorem of_loop (l : List Int) (hl : l.length ≤ 1000) (d : Nat) : ∀ (i a : Nat), i + d = l.length → a < 18446744073709551616 → Ev (fun k => bits_Of.l0 k (a : Int) l (l.length : Int) (i : Int)) ((ofL a (l.drop i) : Nat) : Int) := by
  induction d with
  | zero =>
    intro i a hi ha
    rw [List.drop_eq_nil_of_le (by omega)]
    show Ev _ (a : Int)
    exact Ev.step (fun k => by rw [bits_Of.l0]) (evn (by omega) (Ev.now _))
  | succ d ih =>
    intro i a hi ha
    rw [rd_drop (l := l) (i := i) (by omega)]
    generalize hx : rd l (i : Int) = x
    refine Ev.step (fun k => by rw [bits_Of.l0, hx]) (evp (by omega) (evp (by omega) (evp (by omega) (evb (bis_eq x) ?_))))
    unfold ofL
    by_cases h : 0 ≤ x ∧ x < 64
    · obtain ⟨j, rfl⟩ := Int.eq_ofNat_of_zero_le h.1
      refine evp (decide_eq_true h) (evp h.1 ?_)
      rw [if_pos h, shl_eq (by omega), orN a (2 ^ j) ha (two_lt (by omega)), wi (by omega), Int.toNat_natCast]
      exact ih (i + 1) _ (by omega) (or_lt ha (two_lt (by omega)))
    · rw [if_neg h, wi (by omega)]
      exact evn (by simp; omega) (ih (i + 1) a (by omega) ha)
theorem of_ev (l : List Int) (hl : l.length ≤ 1000) : Ev (fun k => bits_Of.f k l) ((ofL 0 l : Nat) : Int) := of_loop l hl l.length 0 0 (by omega) (by decide)
theorem rof_loop (l : List Int) (hl : l.length ≤ 1000) (d : Nat) : ∀ (i a : Nat), i + d = l.length → a < 18446744073709551616 → Ev (fun k => taskmasterref2_Of.l0 k l (a : Int) (i : Int)) ((ofL a (l.drop i) : Nat) : Int) := by
  induction d with
  | zero =>
    intro i a hi ha
    rw [List.drop_eq_nil_of_le (by omega)]
    show Ev _ (a : Int)
    exact Ev.step (fun k => by rw [taskmasterref2_Of.l0]) (evn (by omega) (Ev.now _))
  | succ d ih =>
    intro i a hi ha
    rw [rd_drop (l := l) (i := i) (by omega)]
    generalize hx : rd l (i : Int) = x
    refine Ev.step (fun k => by rw [taskmasterref2_Of.l0, hx]) (evp (by omega) (evp (by omega) ?_))
    rw [wi (by omega)]
    unfold ofL
    by_cases h : 0 ≤ x ∧ x < 64
    · obtain ⟨j, rfl⟩ := Int.eq_ofNat_of_zero_le h.1
      refine evp h.1 (evp h.2 ?_)
      rw [wrapN (by omega), if_pos h, shl_eq (by omega), orN a (2 ^ j) ha (two_lt (by omega)), Int.toNat_natCast]
      exact evp h.1 (ih (i + 1) _ (by omega) (or_lt ha (two_lt (by omega))))
    · rw [if_neg h]
      by_cases h0 : x ≥ 0
      · exact evp h0 (evn (by omega) (ih (i + 1) a (by omega) ha))
      · exact evn h0 (ih (i + 1) a (by omega) ha)
theorem rof_ev (l : List Int) (hl : l.length ≤ 1000) : Ev (fun k => taskmasterref2_Of.f k l) ((ofL 0 l : Nat) : Int) := rof_loop l hl l.length 0 0 (by omega) (by decide)
theorem bits_ext {a b : Nat} (ha : a < 18446744073709551616) (hb : b < 18446744073709551616) (h : ∀ j, j < 64 → a.testBit j = b.testBit j) : a = b := by
  refine Nat.eq_of_testBit_eq (fun j => ?_)
  by_cases hj : j < 64
  · exact h j hj
  · have hp : 18446744073709551616 ≤ 2 ^ j := Nat.pow_le_pow_right (show 2 > 0 by decide) (show 64 ≤ j by omega)
    rw [Nat.testBit_lt_two_pow (Nat.lt_of_lt_of_le ha hp), Nat.testBit_lt_two_pow (Nat.lt_of_lt_of_le hb hp)]
theorem of_list {n : Nat} (h : n < 18446744073709551616) : ofL 0 (listFrom n 64 0) = n := by
  refine bits_ext (ofL_lt _ 0 (by decide)) h (fun j hj => ?_)
  rw [ofL_bit j hj, Nat.zero_testBit, Bool.false_or]
  have e := list_mem n 64 0 j
  by_cases hb : n.testBit j = true
  · rw [hb]; exact decide_eq_true (e.mpr ⟨by omega, by omega, hb⟩)
  · rw [decide_eq_false (fun hm => hb (e.mp hm).2.2)]; simpa using hb
theorem of_two {a b : Nat} (ha : a < 18446744073709551616) (hb : b < 18446744073709551616) : ofL 0 (listFrom a 64 0 ++ listFrom b 64 0) = a ||| b := by
  refine bits_ext (ofL_lt _ 0 (by decide)) (or_lt ha hb) (fun j hj => ?_)
  rw [ofL_bit j hj, Nat.zero_testBit, Bool.false_or, Nat.testBit_or]
  have e1 := list_mem a 64 0 j
  have e2 := list_mem b 64 0 j
  by_cases h1 : a.testBit j = true
  · rw [h1]; exact decide_eq_true (List.mem_append.mpr (Or.inl (e1.mpr ⟨by omega, by omega, h1⟩)))
  · by_cases h2 : b.testBit j = true
    · rw [h2, Bool.or_true]; exact decide_eq_true (List.mem_append.mpr (Or.inr (e2.mpr ⟨by omega, by omega, h2⟩)))
    · rw [decide_eq_false (fun hm => by
        rcases List.mem_append.mp hm with hm | hm
        · exact h1 (e1.mp hm).2.2
        · exact h2 (e2.mp hm).2.2)]
      simp [h1, h2]
theorem pop_parts : ∀ (n a b : Nat), pop n (a &&& b) + pop n (a ||| b) = pop n a + pop n b
  | 0, _, _ => rfl
  | n + 1, a, b => by
    have r := pop_parts n (a / 2) (b / 2)
    unfold pop
    have e1 : (a &&& b) / 2 = a / 2 &&& b / 2 := by
      refine Nat.eq_of_testBit_eq (fun j => ?_)
      rw [Nat.testBit_div_two, Nat.testBit_and, Nat.testBit_and, Nat.testBit_div_two, Nat.testBit_div_two]
    have e2 : (a ||| b) / 2 = a / 2 ||| b / 2 := by
      refine Nat.eq_of_testBit_eq (fun j => ?_)
      rw [Nat.testBit_div_two, Nat.testBit_or, Nat.testBit_or, Nat.testBit_div_two, Nat.testBit_div_two]
    have m1 : (a &&& b) % 2 = (if a % 2 = 1 ∧ b % 2 = 1 then 1 else 0) := by
      have := Nat.testBit_and a b 0
      rw [Nat.testBit_zero, Nat.testBit_zero, Nat.testBit_zero] at this
      by_cases h : a % 2 = 1 ∧ b % 2 = 1
      · rw [if_pos h]; rw [decide_eq_true h.1, decide_eq_true h.2] at this; simpa using this
      · rw [if_neg h]
        have q : (decide (a % 2 = 1) && decide (b % 2 = 1)) = false := by
          rw [← Bool.decide_and]; exact decide_eq_false h
        rw [q] at this
        have := of_decide_eq_false this
        omega
    have m2 : (a ||| b) % 2 = (if a % 2 = 1 ∨ b % 2 = 1 then 1 else 0) := by
      have := Nat.testBit_or a b 0
      rw [Nat.testBit_zero, Nat.testBit_zero, Nat.testBit_zero] at this
      by_cases h : a % 2 = 1 ∨ b % 2 = 1
      · rw [if_pos h]
        have q : (decide (a % 2 = 1) || decide (b % 2 = 1)) = true := by
          rw [← Bool.decide_or]; exact decide_eq_true h
        rw [q] at this
        exact of_decide_eq_true this
      · rw [if_neg h]
        have q : (decide (a % 2 = 1) || decide (b % 2 = 1)) = false := by
          rw [← Bool.decide_or]; exact decide_eq_false h
        rw [q] at this
        have := of_decide_eq_false this
        omega
    rw [e1, e2, m1, m2]
    split <;> split <;> omega
theorem known2 : Ev (fun k => taskmasterlaw2_known.f k) true := Ev.of (fun k => taskmasterlaw2_known.mono k) (k := 10) (by decide +kernel)
theorem bcount {n : Nat} (h : n < 18446744073709551616) : bits_Count.f (n : Int) = some ((pop 64 n : Nat) : Int) := by
  have := count_int (n : Int) (by omega) (by omega)
  rw [Int.toNat_natCast] at this; exact this
theorem BitsOf (l0 : (List Int)) (a1 : Int) (w0 : ∀ y ∈ l0, (Lit.int .i64 y).wf = true) (w1 : (Lit.int .u64 a1).wf = true) : ∃ k : Nat, taskmasterlaw2_BitsOf.f k l0 a1 = some true := by
  refine Ev.rounds ?_
  obtain ⟨g0, g1⟩ := u64_in w1
  obtain ⟨n, rfl⟩ := Int.eq_ofNat_of_zero_le g0
  have hn : n < 18446744073709551616 := by omega
  unfold taskmasterlaw2_BitsOf.f
  by_cases c0 : (l0.length : Int) > 200
  · exact evp c0 (Ev.now true)
  have hp := pop_le 64 n
  have hl := pop_list n
  exact evn c0 (Ev.bind (of_ev l0 (by omega)) (Ev.bind (rof_ev l0 (by omega)) (evp rfl (Ev.bind (blist_ev hn) (Ev.bind (of_ev (listFrom n 64 0) (by omega)) (evp (by rw [of_list hn]) (Ev.bind known2 (Ev.now true))))))))
theorem BitsParts (a0 : Int) (a1 : Int) (w0 : (Lit.int .u64 a0).wf = true) (w1 : (Lit.int .u64 a1).wf = true) : ∃ k : Nat, taskmasterlaw2_BitsParts.f k a0 a1 = some true := by
  refine Ev.rounds ?_
  obtain ⟨g0, g1⟩ := u64_in w0
  obtain ⟨g2, g3⟩ := u64_in w1
  obtain ⟨a, rfl⟩ := Int.eq_ofNat_of_zero_le g0
  obtain ⟨b, rfl⟩ := Int.eq_ofNat_of_zero_le g2
  have ha : a < 18446744073709551616 := by omega
  have hb : b < 18446744073709551616 := by omega
  unfold taskmasterlaw2_BitsParts.f
  rw [andN a b ha hb, orN a b ha hb]
  have p1 := pop_le 64 (a &&& b)
  have p2 := pop_le 64 (a ||| b)
  have p3 := pop_le 64 a
  have p4 := pop_le 64 b
  have p5 := pop_parts 64 a b
  have l1 := pop_list a
  have l2 := pop_list b
  refine evb (bcount (and_lt ha)) (evb (bcount (or_lt ha hb)) (evb (bcount ha) (evb (bcount hb) ?_)))
  rw [← Int.natCast_add, ← Int.natCast_add, p5]
  refine evp rfl (Ev.bind (blist_ev ha) (Ev.bind (blist_ev hb) (evp (by omega) (Ev.bind (of_ev _ (by rw [List.length_append]; omega)) (evp (by rw [of_two ha hb]) (Ev.bind known2 (Ev.now true)))))))
theorem least_eq {n : Nat} (h : n < 18446744073709551616) : bits_Least.f (n : Int) = some (if n = 0 then (0, false) else (((Lib.ctz 64 n : Nat) : Int), true)) := by
  unfold bits_Least.f
  by_cases h0 : n = 0
  · subst h0; rfl
  · rw [if_neg (by omega), tz_eq h, Option.bind_some, if_neg h0]
theorem ints_loop (l : List Int) (hl : l.length ≤ 1000) (d : Nat) : ∀ i : Nat, i + d = l.length → Ev (fun k => taskmasterref2_Ints.l0 k l l (i : Int)) true := by
  induction d with
  | zero => intro i hi; exact Ev.step (fun k => by rw [taskmasterref2_Ints.l0]) (evn (by omega) (Ev.now _))
  | succ d ih =>
    intro i hi
    refine Ev.step (fun k => by rw [taskmasterref2_Ints.l0]) (evp (by omega) (evp (by omega) (evp (by omega) (evp rfl ?_))))
    rw [wi (by omega)]; exact ih (i + 1) (by omega)
theorem ints_ev (l : List Int) (hl : l.length ≤ 1000) : Ev (fun k => taskmasterref2_Ints.f k l l) true := by
  unfold taskmasterref2_Ints.f
  exact evp rfl (ints_loop l hl l.length 0 (by omega))
theorem rlist_ev {n : Nat} (h : n < 18446744073709551616) : Ev (fun k => taskmasterref2_List.f k (n : Int)) (listFrom n 64 0) := ⟨65, fun k hk => by
  have := list_eq (n : Int) (by omega) (by omega) k (by omega)
  rw [Int.toNat_natCast] at this; exact this⟩
theorem BitsTells (a0 : Int) (a1 : Int) (w0 : (Lit.int .u64 a0).wf = true) (w1 : (Lit.int .i64 a1).wf = true) : ∃ k : Nat, taskmasterlaw2_BitsTells.f k a0 a1 = some true := by
  refine Ev.rounds ?_
  obtain ⟨g0, g1⟩ := u64_in w0
  obtain ⟨n, rfl⟩ := Int.eq_ofNat_of_zero_le g0
  have hn : n < 18446744073709551616 := by omega
  have hp := pop_le 64 n
  have hl := pop_list n
  unfold taskmasterlaw2_BitsTells.f
  refine Ev.bind (rlist_ev hn) (evb (least_eq hn) ?_)
  have fin : ∀ (x6 : Int) (x7 : Bool) (x8 : Int), x6 = x8 → (x7 == decide (((listFrom n 64 0).length : Int) > 0)) = true → Ev (fun k => taskmasterlaw2_BitsTells.j0 k (n : Int) a1 (listFrom n 64 0) x6 x7 x8) true := by
    intro x6 x7 x8 h1 h2
    refine Ev.step (fun k => by rw [taskmasterlaw2_BitsTells.j0]) (Ev.bind (blist_ev hn) (Ev.bind (ints_ev (listFrom n 64 0) (by omega)) (evp rfl (evb (bcount hn) ?_))))
    refine evp (by rw [hl]) (evb (bhas_eq n a1 hn) (evb (has_eq n a1 hn) ?_))
    exact evp (by simp) (evp h1 (evp h2 (Ev.bind known2 (Ev.now true))))
  by_cases h0 : n = 0
  · subst h0
    rw [if_pos rfl]
    have e : listFrom 0 64 0 = [] := list_zero 64 0
    refine evn (by rw [e]; simp) (fin 0 false 0 rfl (by rw [e]; rfl))
  · rw [if_neg h0]
    have e := list_step h0 hn
    have hlen : ((listFrom n 64 0).length : Int) > 0 := by rw [e, List.length_cons]; omega
    refine evp hlen (evp hlen (fin _ true _ ?_ (by rw [decide_eq_true hlen]; rfl)))
    rw [e]; rfl
theorem BitsOne (a0 : Int) (w0 : (Lit.int .i64 a0).wf = true) : ∃ k : Nat, taskmasterlaw2_BitsOne.f k a0 = some true := by
  refine Ev.rounds ?_
  unfold taskmasterlaw2_BitsOne.f
  have ho := of_ev [a0] (by simp)
  by_cases hin : 0 ≤ a0 ∧ a0 < 64
  · obtain ⟨i, rfl⟩ := Int.eq_ofNat_of_zero_le hin.1
    have hi : i < 64 := by omega
    have e : ofL 0 [(i : Int)] = 2 ^ i := by unfold ofL; rw [if_pos hin, Nat.zero_or, Int.toNat_natCast]; rfl
    rw [e] at ho
    have h2 := two_lt hi
    have h0 : 2 ^ i ≠ 0 := Nat.pos_iff_ne_zero.mp (Nat.two_pow_pos i)
    refine Ev.bind ho (evn (by omega) ?_)
    rw [decide_eq_false (by omega)]
    have hl := least_eq h2
    rw [if_neg h0] at hl
    have hk : Lib.ctz 64 (2 ^ i) = i := by
      obtain ⟨k, m, e1, e2, e3⟩ := ctz_spec h0 h2
      rw [e1]
      have hb : (2 ^ k * (2 * m + 1)).testBit k = true := by rw [bit_of, if_neg (by omega), Nat.sub_self, Nat.testBit_zero]; simp
      rw [← e2, Nat.testBit_two_pow] at hb
      exact (of_decide_eq_true hb).symm
    rw [hk] at hl
    have hc := bcount h2
    have hc1 : pop 64 (2 ^ i) = 1 := (show ∀ i, i < 64 → pop 64 (2 ^ i) = 1 by decide +kernel) i hi
    rw [hc1] at hc
    have hh := bhas_eq (2 ^ i) (i : Int) h2
    rw [decide_eq_true hin, Int.toNat_natCast, Nat.testBit_two_pow_self] at hh
    refine Ev.step (fun k => by rw [taskmasterlaw2_BitsOne.j0, if_neg (by simp)]) (evb hl ?_)
    rw [wrapN (by omega), shl_eq hi]
    exact evp (by omega) (evp rfl (evp rfl (evp rfl (evb hc (evp rfl (evb hh (evp rfl (Ev.bind known2 (Ev.now true)))))))))
  · have e : ofL 0 [a0] = 0 := by unfold ofL; rw [if_neg hin]; rfl
    rw [e] at ho
    have hh := bhas_eq 9223372036854775809 a0 (by decide)
    rw [decide_eq_false hin, Bool.false_and] at hh
    have j : Ev (fun k => taskmasterlaw2_BitsOne.j0 k a0 ((0 : Nat) : Int) true) true := by
      refine Ev.step (fun k => by rw [taskmasterlaw2_BitsOne.j0, if_pos rfl]) ?_
      refine evp (show ((0 : Nat) : Int) = 0 from rfl) ?_
      refine evb hh ?_
      exact evn (by simp) (Ev.bind known2 (Ev.now true))
    refine Ev.bind ho ?_
    by_cases c0 : a0 < 0
    · exact evp c0 j
    · rw [decide_eq_true (show a0 > 63 by omega)]; exact evn c0 j
theorem rise_loop {n : Nat} (hn : n < 18446744073709551616) (d : Nat) : ∀ (i p : Nat) (last : Int) (m : Nat), p + m = 64 → (listFrom n 64 0).drop i = listFrom n m p → i + (listFrom n m p).length = (listFrom n 64 0).length → (listFrom n m p).length = d → last < (p : Int) →
    Ev (fun k => taskmasterlaw2_BitsRise.l0 k (n : Int) (listFrom n 64 0) last (i : Int)) true := by
  have hl := pop_list n
  have hp := pop_le 64 n
  induction d with
  | zero =>
    intro i p last m hm hd hlen h0 hlast
    refine Ev.step (fun k => by rw [taskmasterlaw2_BitsRise.l0]) ?_
    refine evn (by omega) ?_
    refine evb (bcount hn) ?_
    exact evp (by rw [hl]) (Ev.bind known2 (Ev.now true))
  | succ d ih =>
    intro i p last m hm hd hlen h0 hlast
    -- the first one of what is left
    have find : ∀ (m p : Nat), p + m = 64 → (listFrom n m p).length = d + 1 → ∃ j q, p ≤ j ∧ j < 64 ∧ n.testBit j = true ∧ j + 1 + q = 64 ∧ listFrom n m p = (j : Int) :: listFrom n q (j + 1) := by
      intro m
      induction m with
      | zero => intro p _ h; simp [listFrom] at h
      | succ m ihm =>
        intro p hpm h
        have e : listFrom n (m + 1) p = if n.testBit p = true then (p : Int) :: listFrom n m (p + 1) else listFrom n m (p + 1) := rfl
        by_cases hb : n.testBit p = true
        · rw [if_pos hb] at e; exact ⟨p, m, Nat.le_refl _, by omega, hb, by omega, e⟩
        · rw [if_neg hb] at e
          rw [e] at h
          obtain ⟨j, q, h1, h2, h3, h4, h5⟩ := ihm (p + 1) (by omega) h
          exact ⟨j, q, by omega, h2, h3, h4, e.trans h5⟩
    obtain ⟨j, q, h1, h2, h3, h4, h5⟩ := find m p hm h0
    have hlt : i < (listFrom n 64 0).length := by omega
    have hrd : rd (listFrom n 64 0) (i : Int) = (j : Int) ∧ (listFrom n 64 0).drop (i + 1) = listFrom n q (j + 1) := by
      have := rd_drop hlt
      rw [hd, h5] at this
      exact ⟨(List.cons.inj this).1.symm, (List.cons.inj this).2.symm⟩
    rw [h5, List.length_cons] at h0 hlen
    have hh := bhas_eq n (j : Int) hn
    rw [decide_eq_true (show 0 ≤ (j : Int) ∧ (j : Int) < 64 by omega), Int.toNat_natCast, h3] at hh
    refine Ev.step (fun k => by rw [taskmasterlaw2_BitsRise.l0, hrd.1]) (evp (by omega) (evp (by omega) (evn (by omega) (evb hh (evp rfl ?_)))))
    rw [wi (by omega)]
    exact ih (i + 1) (j + 1) (j : Int) q h4 hrd.2 (by omega) (by omega) (by omega)
theorem BitsRise (a0 : Int) (w0 : (Lit.int .u64 a0).wf = true) : ∃ k : Nat, taskmasterlaw2_BitsRise.f k a0 = some true := by
  refine Ev.rounds ?_
  obtain ⟨g0, g1⟩ := u64_in w0
  obtain ⟨n, rfl⟩ := Int.eq_ofNat_of_zero_le g0
  have hn : n < 18446744073709551616 := by omega
  unfold taskmasterlaw2_BitsRise.f
  exact Ev.bind (blist_ev hn) (rise_loop hn _ 0 0 (-1) 64 (by omega) (List.drop_zero ..) (by omega) rfl (by omega))
end Go.Proofs.YtfbnbnbclmemdaaDoor.Pure

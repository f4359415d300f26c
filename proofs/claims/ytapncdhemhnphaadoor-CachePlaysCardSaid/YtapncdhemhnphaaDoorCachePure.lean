/- What is proved: what the lists and sets of bits compute, in plain Lean; conditions as each theorem names them. -/
import Derived.Test.YtapncdhemhnphaaDoorHandTz
import Derived.Laws.BitsLemmas
import Derived.Laws.BitsAllLaws
import Derived.Test.YtapncdhemhnphaaDoorQCaxf34
import Derived.Test.YtapncdhemhnphaaDoorQCaxf31
import Derived.Test.YtapncdhemhnphaaDoorQCaxf35
namespace Go.Proofs.YtapncdhemhnphaaDoor.Pure
open Go.RowKit Go.Proofs.YtapncdhemhnphaaDoor.QCa Go.Proofs.YtapncdhemhnphaaDoorW.PrintWords Go.Proofs.YtapncdhemhnphaaDoorW.PrintLast Go.Proofs.YtapncdhemhnphaaDoorW.PrintMore
set_option linter.unusedVariables false

theorem wrapN {a : Nat} (h : a < 18446744073709551616) : IntKind.u64.wrap (a : Int) = (a : Int) := by rw [IntKind.wrap_u64]; omega
theorem wr64 (n : Int) (h0 : 0 ≤ n) (h1 : n < 2 ^ 64) : IntKind.u64.wrap n = n := by rw [IntKind.wrap_u64]; omega
theorem andN (a b : Nat) (ha : a < 18446744073709551616) (hb : b < 18446744073709551616) : Go.bits .and .u64 (a : Int) (b : Int) = ((a &&& b : Nat) : Int) := (bits_nat .u64 64 (by decide) wr64 a b ha hb).1
theorem orN (a b : Nat) (ha : a < 18446744073709551616) (hb : b < 18446744073709551616) : Go.bits .or .u64 (a : Int) (b : Int) = ((a ||| b : Nat) : Int) := (bits_nat .u64 64 (by decide) wr64 a b ha hb).2
theorem and_lt {a b : Nat} (ha : a < 18446744073709551616) : a &&& b < 18446744073709551616 := Nat.lt_of_le_of_lt Nat.and_le_left ha
theorem or_lt {a b : Nat} (ha : a < 18446744073709551616) (hb : b < 18446744073709551616) : a ||| b < 18446744073709551616 := Nat.or_lt_two_pow (n := 64) ha hb
theorem shr_one (n j : Nat) (h : n < 18446744073709551616) (hj : j < 64) : (Go.bits .and .u64 (shr .u64 (n : Int) (j : Int)) 1 == 1) = n.testBit j := by
  have e2 : shr .u64 (n : Int) (j : Int) = ((n / 2 ^ j : Nat) : Int) := by
    unfold shr
    rw [Int.toNat_natCast]
    have hj : j ≤ IntKind.u64.bits := by show j ≤ 64; omega
    rw [show min j IntKind.u64.bits = j from Nat.min_eq_left hj]
    norm_cast
  rw [e2]
  have hd : n / 2 ^ j < 18446744073709551616 := Nat.lt_of_le_of_lt (Nat.div_le_self _ _) h
  have e3 := andN (n / 2 ^ j) 1 hd (by decide)
  rw [show ((1 : Nat) : Int) = 1 from rfl] at e3
  rw [e3, Nat.and_one_is_mod, Nat.testBit_eq_decide_div_mod_eq]
  by_cases hq : n / 2 ^ j % 2 = 1
  · rw [decide_eq_true hq, hq]; rfl
  · have hz : n / 2 ^ j % 2 = 0 := by omega
    rw [decide_eq_false hq, hz]; rfl
theorem evp {α : Type} {c : Prop} [Decidable c] {f g : Nat → Option α} {r : α} (h : c) (k : Ev f r) : Ev (fun n => if c then f n else g n) r := Ev.congr (fun _ => if_pos h) k
theorem evn {α : Type} {c : Prop} [Decidable c] {f g : Nat → Option α} {r : α} (h : ¬ c) (k : Ev g r) : Ev (fun n => if c then f n else g n) r := Ev.congr (fun _ => if_neg h) k
theorem evb {α β : Type} {o : Option α} {f : Nat → α → Option β} {a : α} {r : β} (h : o = some a) (k : Ev (fun n => f n a) r) : Ev (fun n => o.bind (f n)) r := Ev.congr (fun n => by rw [h]; rfl) k
theorem w64 {n : Int} (h0 : -9223372036854775808 ≤ n) (h1 : n ≤ 9223372036854775807) : wrap64 n = n := by unfold wrap64; omega
theorem wi {i : Nat} (h : i ≤ 1000000) : wrap64 ((i : Int) + 1) = ((i + 1 : Nat) : Int) := w64 (by omega) (by omega)
theorem rd_drop {l : List Int} {i : Nat} (h : i < l.length) : l.drop i = rd l (i : Int) :: l.drop (i + 1) := by
  rw [List.drop_eq_getElem_cons h]; unfold rd
  rw [Int.toNat_natCast, List.getD_eq_getElem?_getD, List.getElem?_eq_getElem h]; rfl
theorem ctz_spec {n : Nat} (h0 : n ≠ 0) (h : n < 18446744073709551616) : ∃ k m, Lib.ctz 64 n = k ∧ n = 2 ^ k * (2 * m + 1) ∧ k < 64 := by
  obtain ⟨m, h1, h2⟩ := Lib.ctzFrom_spec 64 n (by omega) h
  refine ⟨Lib.ctzFrom 64 n, m, ?_, h1, h2⟩
  unfold Lib.ctz; rw [if_neg h0]
theorem bit_of {k m : Nat} (j : Nat) : (2 ^ k * (2 * m + 1)).testBit j = (if j < k then false else (2 * m + 1).testBit (j - k)) := by
  have := Nat.testBit_two_pow_mul_add (2 * m + 1) (b := 0) (i := k) (Nat.two_pow_pos k) j
  rw [Nat.add_zero, Nat.zero_testBit] at this
  exact this
theorem tz_eq {n : Nat} (h : n < 18446744073709551616) : bits_TrailingZeros64.f (n : Int) = some ((Lib.ctz 64 n : Nat) : Int) := by
  unfold bits_TrailingZeros64.f; rw [if_pos (by omega), Int.toNat_natCast]
theorem bis_eq (i : Int) : bits_is.f i = some (decide (0 ≤ i ∧ i < 64)) := by
  unfold bits_is.f
  by_cases h : i ≥ 0
  · rw [if_pos h]; simp [show 0 ≤ i from h]
  · rw [if_neg h]; simp [show ¬ 0 ≤ i from h]
theorem u64_in {n : Int} (h : (Lit.int .u64 n).wf = true) : 0 ≤ n ∧ n < 18446744073709551616 := by
  simp only [Lit.wf, IntKind.min, IntKind.max, IntKind.signed, IntKind.bits, Bool.and_eq_true] at h
  simp at h
  omega
theorem has_eq (n : Nat) (i : Int) (h : n < 18446744073709551616) : taskmasterref2_Has.f (n : Int) i = some (decide (0 ≤ i ∧ i < 64) && n.testBit i.toNat) := by
  unfold taskmasterref2_Has.f
  by_cases h0 : i ≥ 0
  · rw [if_pos h0]
    by_cases h1 : i < 64
    · have e1 : IntKind.u64.wrap i = i := by rw [IntKind.wrap_u64]; omega
      rw [if_pos h1, e1, if_pos h0, decide_eq_true (show 0 ≤ i ∧ i < 64 from ⟨h0, h1⟩), Bool.true_and]
      obtain ⟨j, rfl⟩ := Int.eq_ofNat_of_zero_le h0
      have e2 : shr .u64 (n : Int) (j : Int) = ((n / 2 ^ j : Nat) : Int) := by
        unfold shr
        rw [Int.toNat_natCast]
        have hj : j ≤ IntKind.u64.bits := by show j ≤ 64; omega
        rw [show min j IntKind.u64.bits = j from Nat.min_eq_left hj]
        norm_cast
      rw [e2]
      have hd : n / 2 ^ j < 18446744073709551616 := Nat.lt_of_le_of_lt (Nat.div_le_self _ _) h
      have e3 := andN (n / 2 ^ j) 1 hd (by decide)
      rw [show ((1 : Nat) : Int) = 1 from rfl] at e3
      rw [e3, Nat.and_one_is_mod, Int.toNat_natCast, Nat.testBit_eq_decide_div_mod_eq]
      congr 1
      by_cases hq : n / 2 ^ j % 2 = 1
      · rw [decide_eq_true hq, hq]; rfl
      · have hz : n / 2 ^ j % 2 = 0 := by omega
        rw [decide_eq_false hq, hz]; rfl
    · rw [if_neg h1, decide_eq_false (by omega)]; rfl
  · rw [if_neg h0, decide_eq_false (by omega)]; rfl
def ofL : Nat → List Int → Nat
  | a, [] => a
  | a, x :: l => if 0 ≤ x ∧ x < 64 then ofL (a ||| 2 ^ x.toNat) l else ofL a l
theorem two_lt {i : Nat} (h : i < 64) : 2 ^ i < 18446744073709551616 := Nat.pow_lt_pow_right (a := 2) (by decide) h
theorem ofL_lt : ∀ (l : List Int) (a : Nat), a < 18446744073709551616 → ofL a l < 18446744073709551616
  | [], a, h => h
  | x :: l, a, h => by
    unfold ofL
    split
    · exact ofL_lt l _ (or_lt h (two_lt (by omega)))
    · exact ofL_lt l a h
theorem shl_eq {i : Nat} (h : i < 64) : shl .u64 1 (i : Int) = ((2 ^ i : Nat) : Int) := by
  unfold shl
  rw [Int.toNat_natCast, show min i IntKind.u64.bits = i from Nat.min_eq_left (show i ≤ 64 by omega), Int.one_mul]
  have e : (2 : Int) ^ i = ((2 ^ i : Nat) : Int) := by norm_cast
  rw [e]
  exact wrapN (two_lt h)
theorem of_loop (l : List Int) (hl : l.length ≤ 1000) (d : Nat) : ∀ (i a : Nat), i + d = l.length → a < 18446744073709551616 → Ev (fun k => bits_Of.l0 k (a : Int) l (l.length : Int) (i : Int)) ((ofL a (l.drop i) : Nat) : Int) := by
  induction d with
  | zero =>
    intro i a hi ha
    rw [List.drop_eq_nil_of_le (by omega)]
    show Ev _ (a : Int)
    exact Ev.step (fun k => by rw [bits_Of.l0]) (evn (by omega) (Ev.now _))
  | succ d ih =>
    intro i a hi ha
    rw [rd_drop (l := l) (i := i) (by omega)]
    generalize hx : rd l (i : Int) = x
    refine Ev.step (fun k => by rw [bits_Of.l0, hx]) (evp (by omega) (evp (by omega) (evp (by omega) (evb (bis_eq x) ?_))))
    unfold ofL
    by_cases h : 0 ≤ x ∧ x < 64
    · obtain ⟨j, rfl⟩ := Int.eq_ofNat_of_zero_le h.1
      refine evp (decide_eq_true h) (evp h.1 ?_)
      rw [if_pos h, shl_eq (by omega), orN a (2 ^ j) ha (two_lt (by omega)), wi (by omega), Int.toNat_natCast]
      exact ih (i + 1) _ (by omega) (or_lt ha (two_lt (by omega)))
    · rw [if_neg h, wi (by omega)]
      exact evn (by simp; omega) (ih (i + 1) a (by omega) ha)
theorem of_ev (l : List Int) (hl : l.length ≤ 1000) : Ev (fun k => bits_Of.f k l) ((ofL 0 l : Nat) : Int) := of_loop l hl l.length 0 0 (by omega) (by decide)
theorem ofL_one (y : Int) : ofL 0 [y] = if 0 ≤ y ∧ y < 64 then 2 ^ y.toNat else 0 := by
  unfold ofL ofL
  split
  · rw [Nat.zero_or]
  · rfl
theorem andNotN (a b : Nat) (ha : a < 18446744073709551616) (hb : b < 18446744073709551616) : Go.bits .andNot .u64 (a : Int) (b : Int) = ((a &&& (18446744073709551615 - b) : Nat) : Int) := u64_andNot_nat a b ha hb
/-- A set's numbers from i on. -/
def listFrom (n : Nat) : Nat → Nat → List Int
  | 0, _ => []
  | d + 1, i => if n.testBit i then (i : Int) :: listFrom n d (i + 1) else listFrom n d (i + 1)
theorem listFrom_le (n : Nat) : ∀ (d i : Nat), (listFrom n d i).length ≤ d
  | 0, i => Nat.le_refl _
  | d + 1, i => by
    unfold listFrom
    have := listFrom_le n d (i + 1)
    split
    · rw [List.length_cons]; omega
    · omega
theorem clear_of {k m : Nat} (j : Nat) : ((2 ^ k * (2 * m + 1)) &&& (2 ^ k * (2 * m + 1) - 1)).testBit j = ((2 ^ k * (2 * m + 1)).testBit j && decide (j ≠ k)) := by
  have hp := Nat.two_pow_pos k
  have e : 2 ^ k * (2 * m + 1) - 1 = 2 ^ k * (2 * m) + (2 ^ k - 1) := by rw [Nat.mul_add, Nat.mul_one]; omega
  rw [Nat.testBit_and, bit_of, e, Nat.testBit_two_pow_mul_add (2 * m) (by omega) j]
  by_cases hj : j < k
  · rw [if_pos hj]; rfl
  · rw [if_neg hj, if_neg hj]
    by_cases hk : j = k
    · subst hk
      rw [Nat.sub_self, Nat.testBit_zero, Nat.testBit_zero]
      simp
    · obtain ⟨d, rfl⟩ : ∃ d, j = k + (d + 1) := ⟨j - k - 1, by omega⟩
      rw [show k + (d + 1) - k = d + 1 by omega, ← Nat.testBit_div_two, ← Nat.testBit_div_two, show (2 * m + 1) / 2 = m by omega, show 2 * m / 2 = m by omega]
      simp
theorem list_congr {a b : Nat} : ∀ (d i : Nat), (∀ j, i ≤ j → j < i + d → a.testBit j = b.testBit j) → listFrom a d i = listFrom b d i
  | 0, _, _ => rfl
  | d + 1, i, h => by
    unfold listFrom
    rw [h i (Nat.le_refl _) (by omega), list_congr d (i + 1) (fun j h1 h2 => h j (by omega) (by omega))]
theorem list_first {a b k : Nat} : ∀ (d i : Nat), i ≤ k → k < i + d → a.testBit k = true → b.testBit k = false → (∀ j, j < k → a.testBit j = false) → (∀ j, j ≠ k → b.testBit j = a.testBit j) → listFrom a d i = (k : Int) :: listFrom b d i
  | 0, i, h0, h1, _, _, _, _ => absurd h1 (by omega)
  | d + 1, i, h0, h1, ha, hb, hl, he => by
    by_cases hi : i = k
    · subst hi
      show (if a.testBit i = true then _ else _) = _ :: (if b.testBit i = true then _ else _)
      rw [if_pos ha, if_neg (by rw [hb]; simp), list_congr d (i + 1) (fun j h1 _ => (he j (by omega)).symm)]
    · show (if a.testBit i = true then _ else _) = _ :: (if b.testBit i = true then _ else _)
      rw [if_neg (by rw [hl i (by omega)]; simp), if_neg (by rw [he i hi, hl i (by omega)]; simp)]
      exact list_first d (i + 1) (by omega) (by omega) ha hb hl he
theorem list_zero : ∀ (d i : Nat), listFrom 0 d i = []
  | 0, _ => rfl
  | d + 1, i => by unfold listFrom; rw [if_neg (by rw [Nat.zero_testBit]; simp)]; exact list_zero d (i + 1)
theorem list_step {n : Nat} (h0 : n ≠ 0) (h : n < 18446744073709551616) : listFrom n 64 0 = ((Lib.ctz 64 n : Nat) : Int) :: listFrom (n &&& (n - 1)) 64 0 := by
  obtain ⟨k, m, e, rfl, hk⟩ := ctz_spec h0 h
  rw [e]
  have hb : (2 ^ k * (2 * m + 1)).testBit k = true := by rw [bit_of, if_neg (by omega), Nat.sub_self, Nat.testBit_zero]; simp
  refine list_first 64 0 (by omega) (by omega) hb ?_ (fun j hj => by rw [bit_of, if_pos hj]) (fun j hj => ?_)
  · rw [clear_of]; simp
  · rw [clear_of]; simp [hj]
theorem blist_loop (d : Nat) : ∀ (n : Nat) (acc : List Int), n < 18446744073709551616 → (listFrom n 64 0).length = d → acc.length + d ≤ 64 → Ev (fun k => bits_List.l0 k (n : Int) acc) (acc ++ listFrom n 64 0) := by
  induction d with
  | zero =>
    intro n acc hn hl ha
    have hz : n = 0 := by
      rcases Nat.eq_zero_or_pos n with h | h
      · exact h
      · rw [list_step (by omega) hn] at hl; simp at hl
    subst hz
    refine Ev.step (fun k => by rw [bits_List.l0]) ?_
    refine evp (show ((0 : Nat) : Int) = 0 from rfl) ?_
    rw [list_zero, List.append_nil]; exact Ev.now _
  | succ d ih =>
    intro n acc hn hl ha
    have h0 : n ≠ 0 := by
      rintro rfl
      rw [list_zero] at hl; simp at hl
    rw [list_step h0 hn] at hl ⊢
    refine Ev.step (fun k => by rw [bits_List.l0]) ?_
    refine evn (by omega) ?_
    refine evb (tz_eq hn) ?_
    refine evp (by omega) ?_
    rw [show (n : Int) - 1 = ((n - 1 : Nat) : Int) by omega, wrapN (by omega), andN n (n - 1) hn (by omega)]
    have r := ih (n &&& (n - 1)) (acc ++ [((Lib.ctz 64 n : Nat) : Int)]) (and_lt hn) (by simpa using hl) (by simp; omega)
    rw [List.append_assoc] at r; exact r
theorem blist_ev {n : Nat} (h : n < 18446744073709551616) : Ev (fun k => bits_List.f k (n : Int)) (listFrom n 64 0) := by
  have r := blist_loop (listFrom n 64 0).length n [] h rfl (by have := listFrom_le n 64 0; simpa using this)
  rw [List.nil_append] at r; exact r
end Go.Proofs.YtapncdhemhnphaaDoor.Pure

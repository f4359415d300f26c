/- What is proved: what the methods of a Ready compute, in plain Lean; conditions as each theorem names them. -/
import Derived.Test.YtapncdhemhnphaaDoorHandTz
import Derived.Laws.BitsLemmas
import Derived.Laws.BitsAllLaws
import Derived.Test.YtapncdhemhnphaaDoorHandDrop
import Derived.Test.YtapncdhemhnphaaDoorQRpxf11
import Derived.Test.YtapncdhemhnphaaDoorQRpxf10
namespace Go.Proofs.YtapncdhemhnphaaDoor.Pure
open Go.RowKit Go.Proofs.YtapncdhemhnphaaDoor.QRp Go.Proofs.YtapncdhemhnphaaDoorW.PrintWords Go.Proofs.YtapncdhemhnphaaDoorW.PrintLast Go.Proofs.YtapncdhemhnphaaDoorW.PrintMore
set_option linter.unusedVariables false

theorem wrapN {a : Nat} (h : a < 18446744073709551616) : IntKind.u64.wrap (a : Int) = (a : Int) := by rw [IntKind.wrap_u64]; omega
theorem wr64 (n : Int) (h0 : 0 ≤ n) (h1 : n < 2 ^ 64) : IntKind.u64.wrap n = n := by rw [IntKind.wrap_u64]; omega
theorem andN (a b : Nat) (ha : a < 18446744073709551616) (hb : b < 18446744073709551616) : Go.bits .and .u64 (a : Int) (b : Int) = ((a &&& b : Nat) : Int) := (bits_nat .u64 64 (by decide) wr64 a b ha hb).1
theorem orN (a b : Nat) (ha : a < 18446744073709551616) (hb : b < 18446744073709551616) : Go.bits .or .u64 (a : Int) (b : Int) = ((a ||| b : Nat) : Int) := (bits_nat .u64 64 (by decide) wr64 a b ha hb).2
theorem and_lt {a b : Nat} (ha : a < 18446744073709551616) : a &&& b < 18446744073709551616 := Nat.lt_of_le_of_lt Nat.and_le_left ha
theorem or_lt {a b : Nat} (ha : a < 18446744073709551616) (hb : b < 18446744073709551616) : a ||| b < 18446744073709551616 := Nat.or_lt_two_pow (n := 64) ha hb
theorem shr_one (n j : Nat) (h : n < 18446744073709551616) (hj : j < 64) : (Go.bits .and .u64 (shr .u64 (n : Int) (j : Int)) 1 == 1) = n.testBit j := by
  have e2 : shr .u64 (n : Int) (j : Int) = ((n / 2 ^ j : Nat) : Int) := by
    unfold shr
    rw [Int.toNat_natCast]
    have hj : j ≤ IntKind.u64.bits := by show j ≤ 64; omega
    rw [show min j IntKind.u64.bits = j from Nat.min_eq_left hj]
    norm_cast
  rw [e2]
  have hd : n / 2 ^ j < 18446744073709551616 := Nat.lt_of_le_of_lt (Nat.div_le_self _ _) h
  have e3 := andN (n / 2 ^ j) 1 hd (by decide)
  rw [show ((1 : Nat) : Int) = 1 from rfl] at e3
  rw [e3, Nat.and_one_is_mod, Nat.testBit_eq_decide_div_mod_eq]
  by_cases hq : n / 2 ^ j % 2 = 1
  · rw [decide_eq_true hq, hq]; rfl
  · have hz : n / 2 ^ j % 2 = 0 := by omega
    rw [decide_eq_false hq, hz]; rfl
theorem evp {α : Type} {c : Prop} [Decidable c] {f g : Nat → Option α} {r : α} (h : c) (k : Ev f r) : Ev (fun n => if c then f n else g n) r := Ev.congr (fun _ => if_pos h) k
theorem evn {α : Type} {c : Prop} [Decidable c] {f g : Nat → Option α} {r : α} (h : ¬ c) (k : Ev g r) : Ev (fun n => if c then f n else g n) r := Ev.congr (fun _ => if_neg h) k
theorem evb {α β : Type} {o : Option α} {f : Nat → α → Option β} {a : α} {r : β} (h : o = some a) (k : Ev (fun n => f n a) r) : Ev (fun n => o.bind (f n)) r := Ev.congr (fun n => by rw [h]; rfl) k
theorem w64 {n : Int} (h0 : -9223372036854775808 ≤ n) (h1 : n ≤ 9223372036854775807) : wrap64 n = n := by unfold wrap64; omega
theorem wi {i : Nat} (h : i ≤ 1000000) : wrap64 ((i : Int) + 1) = ((i + 1 : Nat) : Int) := w64 (by omega) (by omega)
theorem rd_drop {l : List Int} {i : Nat} (h : i < l.length) : l.drop i = rd l (i : Int) :: l.drop (i + 1) := by
  rw [List.drop_eq_getElem_cons h]; unfold rd
  rw [Int.toNat_natCast, List.getD_eq_getElem?_getD, List.getElem?_eq_getElem h]; rfl
theorem ctz_spec {n : Nat} (h0 : n ≠ 0) (h : n < 18446744073709551616) : ∃ k m, Lib.ctz 64 n = k ∧ n = 2 ^ k * (2 * m + 1) ∧ k < 64 := by
  obtain ⟨m, h1, h2⟩ := Lib.ctzFrom_spec 64 n (by omega) h
  refine ⟨Lib.ctzFrom 64 n, m, ?_, h1, h2⟩
  unfold Lib.ctz; rw [if_neg h0]
theorem bit_of {k m : Nat} (j : Nat) : (2 ^ k * (2 * m + 1)).testBit j = (if j < k then false else (2 * m + 1).testBit (j - k)) := by
  have := Nat.testBit_two_pow_mul_add (2 * m + 1) (b := 0) (i := k) (Nat.two_pow_pos k) j
  rw [Nat.add_zero, Nat.zero_testBit] at this
  exact this
theorem tz_eq {n : Nat} (h : n < 18446744073709551616) : bits_TrailingZeros64.f (n : Int) = some ((Lib.ctz 64 n : Nat) : Int) := by
  unfold bits_TrailingZeros64.f; rw [if_pos (by omega), Int.toNat_natCast]
theorem bis_eq (i : Int) : bits_is.f i = some (decide (0 ≤ i ∧ i < 64)) := by
  unfold bits_is.f
  by_cases h : i ≥ 0
  · rw [if_pos h]; simp [show 0 ≤ i from h]
  · rw [if_neg h]; simp [show ¬ 0 ≤ i from h]
theorem bhas_eq (n : Nat) (i : Int) (h : n < 18446744073709551616) : bits_Has.f (n : Int) i = some (decide (0 ≤ i ∧ i < 64) && n.testBit i.toNat) := by
  unfold bits_Has.f
  rw [bis_eq, Option.bind_some]
  by_cases hd : 0 ≤ i ∧ i < 64
  · obtain ⟨j, rfl⟩ := Int.eq_ofNat_of_zero_le hd.1
    rw [if_pos (decide_eq_true hd), if_pos hd.1, shr_one n j h (by omega), decide_eq_true hd, Bool.true_and, Int.toNat_natCast]
  · rw [if_neg (by simp; omega), decide_eq_false hd]; rfl
def ofL : Nat → List Int → Nat
  | a, [] => a
  | a, x :: l => if 0 ≤ x ∧ x < 64 then ofL (a ||| 2 ^ x.toNat) l else ofL a l
theorem two_lt {i : Nat} (h : i < 64) : 2 ^ i < 18446744073709551616 := Nat.pow_lt_pow_right (a := 2) (by decide) h
theorem ofL_lt : ∀ (l : List Int) (a : Nat), a < 18446744073709551616 → ofL a l < 18446744073709551616
  | [], a, h => h
  | x :: l, a, h => by
    unfold ofL
    split
    · exact ofL_lt l _ (or_lt h (two_lt (by omega)))
    · exact ofL_lt l a h
theorem shl_eq {i : Nat} (h : i < 64) : shl .u64 1 (i : Int) = ((2 ^ i : Nat) : Int) := by
  unfold shl
  rw [Int.toNat_natCast, show min i IntKind.u64.bits = i from Nat.min_eq_left (show i ≤ 64 by omega), Int.one_mul]
  have e : (2 : Int) ^ i = ((2 ^ i : Nat) : Int) := by norm_cast
  rw [e]
  exact wrapN (two_lt h)
theorem of_loop (l : List Int) (hl : l.length ≤ 1000) (d : Nat) : ∀ (i a : Nat), i + d = l.length → a < 18446744073709551616 → Ev (fun k => bits_Of.l0 k (a : Int) l (l.length : Int) (i : Int)) ((ofL a (l.drop i) : Nat) : Int) := by
  induction d with
  | zero =>
    intro i a hi ha
    rw [List.drop_eq_nil_of_le (by omega)]
    show Ev _ (a : Int)
    exact Ev.step (fun k => by rw [bits_Of.l0]) (evn (by omega) (Ev.now _))
  | succ d ih =>
    intro i a hi ha
    rw [rd_drop (l := l) (i := i) (by omega)]
    generalize hx : rd l (i : Int) = x
    refine Ev.step (fun k => by rw [bits_Of.l0, hx]) (evp (by omega) (evp (by omega) (evp (by omega) (evb (bis_eq x) ?_))))
    unfold ofL
    by_cases h : 0 ≤ x ∧ x < 64
    · obtain ⟨j, rfl⟩ := Int.eq_ofNat_of_zero_le h.1
      refine evp (decide_eq_true h) (evp h.1 ?_)
      rw [if_pos h, shl_eq (by omega), orN a (2 ^ j) ha (two_lt (by omega)), wi (by omega), Int.toNat_natCast]
      exact ih (i + 1) _ (by omega) (or_lt ha (two_lt (by omega)))
    · rw [if_neg h, wi (by omega)]
      exact evn (by simp; omega) (ih (i + 1) a (by omega) ha)
theorem of_ev (l : List Int) (hl : l.length ≤ 1000) : Ev (fun k => bits_Of.f k l) ((ofL 0 l : Nat) : Int) := of_loop l hl l.length 0 0 (by omega) (by decide)
theorem least_eq {n : Nat} (h : n < 18446744073709551616) : bits_Least.f (n : Int) = some (if n = 0 then (0, false) else (((Lib.ctz 64 n : Nat) : Int), true)) := by
  unfold bits_Least.f
  by_cases h0 : n = 0
  · subst h0; rfl
  · rw [if_neg (by omega), tz_eq h, Option.bind_some, if_neg h0]
theorem or_self {a j : Nat} (h : a.testBit j = true) : a ||| 2 ^ j = a := by
  refine Nat.eq_of_testBit_eq (fun i => ?_)
  rw [Nat.testBit_or, Nat.testBit_two_pow]
  by_cases e : j = i
  · subst e; simp [h]
  · simp [e]
theorem rhas_eq {a : Nat} (ha : a < 18446744073709551616) (y : Int) : ready_Ready_Has.f (a : Int) y = some (decide (0 ≤ y ∧ y < 64) && a.testBit y.toNat, (a : Int)) := by
  unfold ready_Ready_Has.f
  rw [bhas_eq a y ha]; rfl
/-- Put: whether it was new, and what is there then. -/
def isNew (a : Nat) (y : Int) : Bool := decide (0 ≤ y ∧ y < 64) && !a.testBit y.toNat
def added (a : Nat) (y : Int) : Nat := if isNew a y = true then a ||| 2 ^ y.toNat else a
theorem added_lt {a : Nat} (ha : a < 18446744073709551616) (y : Int) : added a y < 18446744073709551616 := by
  unfold added isNew
  split
  · next h =>
    have h1 : 0 ≤ y ∧ y < 64 := by
      rw [Bool.and_eq_true] at h; exact of_decide_eq_true h.1
    exact or_lt ha (two_lt (by omega))
  · exact ha
theorem ofL_one (y : Int) : ofL 0 [y] = if 0 ≤ y ∧ y < 64 then 2 ^ y.toNat else 0 := by
  unfold ofL ofL
  split
  · rw [Nat.zero_or]
  · rfl
theorem put_eq {a : Nat} (ha : a < 18446744073709551616) (y : Int) : Ev (fun k => ready_Ready_Put.f k (a : Int) y) (isNew a y, ((added a y : Nat) : Int)) := by
  unfold ready_Ready_Put.f
  have ho := of_ev [y] (by simp)
  rw [ofL_one] at ho
  by_cases hd : 0 ≤ y ∧ y < 64
  · by_cases hb : a.testBit y.toNat = true
    · have e : isNew a y = false := by unfold isNew; rw [hb]; simp
      refine evb (rhas_eq ha y) (evp (by rw [decide_eq_true hd, hb]; rfl) ?_)
      unfold added; rw [e]; exact Ev.now _
    · have e : isNew a y = true := by unfold isNew; rw [decide_eq_true hd]; simpa using hb
      refine evb (rhas_eq ha y) (evn (by rw [decide_eq_true hd]; simpa using hb) ?_)
      rw [if_pos hd] at ho
      refine Ev.bind ho ?_
      show Ev (fun _ => some ((((2 ^ y.toNat : Nat) : Int) != 0), Go.bits .or .u64 (a : Int) ((2 ^ y.toNat : Nat) : Int))) _
      rw [orN a (2 ^ y.toNat) ha (two_lt (by omega))]
      unfold added; rw [e, if_pos rfl]
      have hz : (((2 ^ y.toNat : Nat) : Int) != 0) = true := by
        have := Nat.two_pow_pos y.toNat
        generalize 2 ^ y.toNat = q at this ⊢
        simp
        omega
      rw [hz]; exact Ev.now _
  · have e : isNew a y = false := by unfold isNew; rw [decide_eq_false hd]; rfl
    refine evb (rhas_eq ha y) (evn (by rw [decide_eq_false hd]; simp) ?_)
    rw [if_neg hd] at ho
    refine Ev.bind ho ?_
    show Ev (fun _ => some ((((0 : Nat) : Int) != 0), Go.bits .or .u64 (a : Int) ((0 : Nat) : Int))) _
    rw [orN a 0 ha (by decide), Nat.or_zero]
    unfold added; rw [e]; exact Ev.now _
theorem andNotN (a b : Nat) (ha : a < 18446744073709551616) (hb : b < 18446744073709551616) : Go.bits .andNot .u64 (a : Int) (b : Int) = ((a &&& (18446744073709551615 - b) : Nat) : Int) := u64_andNot_nat a b ha hb
/-- Drop: whether it was there, and what is there then. -/
def isIn (a : Nat) (y : Int) : Bool := decide (0 ≤ y ∧ y < 64) && a.testBit y.toNat
def less (a : Nat) (y : Int) : Nat := if isIn a y = true then a &&& (18446744073709551615 - 2 ^ y.toNat) else a
theorem less_lt {a : Nat} (ha : a < 18446744073709551616) (y : Int) : less a y < 18446744073709551616 := by
  unfold less
  split
  · exact and_lt ha
  · exact ha
theorem drop_eq {a : Nat} (ha : a < 18446744073709551616) (y : Int) : Ev (fun k => ready_Ready_Drop.f k (a : Int) y) (isIn a y, ((less a y : Nat) : Int)) := by
  unfold ready_Ready_Drop.f
  refine evb (rhas_eq ha y) ?_
  by_cases h : isIn a y = true
  · have hd : 0 ≤ y ∧ y < 64 := by unfold isIn at h; rw [Bool.and_eq_true] at h; exact of_decide_eq_true h.1
    refine evp h ?_
    have ho := of_ev [y] (by simp)
    rw [ofL_one, if_pos hd] at ho
    refine Ev.bind ho ?_
    show Ev (fun _ => some (true, Go.bits .andNot .u64 (a : Int) ((2 ^ y.toNat : Nat) : Int))) _
    rw [andNotN a _ ha (two_lt (by omega))]
    unfold less; rw [h, if_pos rfl]; exact Ev.now _
  · refine evn h ?_
    unfold less
    have e : isIn a y = false := by simpa using h
    rw [e]; exact Ev.now _
theorem first_eq {a : Nat} (ha : a < 18446744073709551616) : ready_Ready_First.f (a : Int) = some (if a = 0 then (0, false, (a : Int)) else (((Lib.ctz 64 a : Nat) : Int), true, (a : Int))) := by
  unfold ready_Ready_First.f
  rw [least_eq ha]
  by_cases h : a = 0
  · rw [if_pos h, if_pos h]; rfl
  · rw [if_neg h, if_neg h]; rfl
theorem rahead_eq {a : Nat} (ha : a < 18446744073709551616) (i : Int) : ready_Ready_Ahead.f (a : Int) i = some (if a = 0 then false else decide (((Lib.ctz 64 a : Nat) : Int) < i), (a : Int)) := by
  unfold ready_Ready_Ahead.f
  rw [first_eq ha]
  by_cases h : a = 0
  · rw [if_pos h, if_pos h]; rfl
  · rw [if_neg h, if_neg h]; rfl
end Go.Proofs.YtapncdhemhnphaaDoor.Pure

/- What is proved: what again.Own and again.Made and the reference's Own, Made and Work answer at a set that may be, in closed form; conditions as each theorem names them. -/
import Derived.Test.YtmhioeoioohmpaaRefSet
import Derived.Test.YtmhioeoioohmpaaBitsPure
import Derived.Test.YtmhioeoioohmpaaOpenAg
import Derived.Test.YtmhioeoioohmpaaQAgxf11
import Derived.Test.YtmhioeoioohmpaaQAgxf15
import Derived.Test.YtmhioeoioohmpaaQAgxf27
import Derived.Test.YtmhioeoioohmpaaQAgxf28
namespace Go.Proofs.Ytmhioeoioohmpaa.AgainPure
open Go.RowKit Go.Proofs.Ytmhioeoioohmpaa.QAg Go.Proofs.YtmhioeoioohmpaaW.PrintWords Go.Proofs.YtmhioeoioohmpaaW.PrintLast Go.Proofs.YtmhioeoioohmpaaW.PrintMore Go.Proofs.Ytmhioeoioohmpaa.RefSet Go.Proofs.Ytmhioeoioohmpaa.BitsPure Go.Proofs.Ytmhioeoioohmpaa.BitsMath
set_option linter.unusedVariables false

theorem u64_in {n : Int} (h : (Lit.int .u64 n).wf = true) : 0 ≤ n ∧ n < 18446744073709551616 := by
  simp only [Lit.wf, IntKind.min, IntKind.max, IntKind.signed, IntKind.bits, Bool.and_eq_true] at h
  simp at h
  omega
theorem i64_in' {n : Int} (h : (Lit.int .i64 n).wf = true) : -9223372036854775808 ≤ n ∧ n ≤ 9223372036854775807 := by
  simp only [Lit.wf, IntKind.min, IntKind.max, IntKind.signed, IntKind.bits, Bool.and_eq_true, decide_eq_true_eq, if_true] at h
  omega
/-- A task's sets are sets. -/
def SetsOK (l : List S31) : Prop := ∀ y ∈ l, (0 ≤ y.f7 ∧ y.f7 < 18446744073709551616) ∧ (0 ≤ y.f8 ∧ y.f8 < 18446744073709551616)
theorem sets_of {l : List S31} (h : ∀ y ∈ l, wf31 y) : SetsOK l := fun y hy => ⟨u64_in (h y hy).2.2.2.2.2.2.2.1, u64_in (h y hy).2.2.2.2.2.2.2.2⟩
theorem sizes_of {l : List S31} (h : ∀ y ∈ l, wf31 y) : ∀ y ∈ l, y.f0.size ≤ 9223372036854775807 := fun y hy => (h y hy).1
theorem rd_in {l : List S31} {i : Int} (h0 : 0 ≤ i) (h1 : i < (l.length : Int)) : rd_T31 l i ∈ l := by
  unfold rd_T31; rw [List.getD_eq_getElem?_getD, List.getElem?_eq_getElem (show i.toNat < l.length by omega)]; exact List.getElem_mem _
theorem rd_dropT {l : List S31} {i : Nat} (h : i < l.length) : l.drop i = rd_T31 l (i : Int) :: l.drop (i + 1) := by
  rw [List.drop_eq_getElem_cons h]; unfold rd_T31
  rw [Int.toNat_natCast, List.getD_eq_getElem?_getD, List.getElem?_eq_getElem h]; rfl
/-- All that is needed again. -/
def orAll : List S31 → Nat → Nat
  | [], a => a
  | x :: l, a => orAll l (a ||| x.f8.toNat)
theorem orAll_lt {l : List S31} (h : SetsOK l) : ∀ a, a < 18446744073709551616 → orAll l a < 18446744073709551616 := by
  induction l with
  | nil => intro a ha; exact ha
  | cons x l ih =>
    intro a ha
    have hx := (h x List.mem_cons_self).2
    exact ih (fun y hy => h y (List.mem_cons_of_mem _ hy)) _ (or_lt ha (by omega))
theorem or_int {a : Nat} {u : Int} (ha : a < 18446744073709551616) (h : 0 ≤ u ∧ u < 18446744073709551616) : Go.bits .or .u64 (a : Int) u = ((a ||| u.toNat : Nat) : Int) := by
  obtain ⟨n, rfl⟩ := Int.eq_ofNat_of_zero_le h.1
  exact orN a n ha (by omega)
theorem and_int {a : Nat} {u : Int} (ha : a < 18446744073709551616) (h : 0 ≤ u ∧ u < 18446744073709551616) : Go.bits .and .u64 u (a : Int) = ((u.toNat &&& a : Nat) : Int) := by
  obtain ⟨n, rfl⟩ := Int.eq_ofNat_of_zero_le h.1
  exact andN n a (by omega) ha
theorem and_int' {a : Nat} {u : Int} (ha : a < 18446744073709551616) (h : 0 ≤ u ∧ u < 18446744073709551616) : Go.bits .and .u64 (a : Int) u = ((a &&& u.toNat : Nat) : Int) := by
  obtain ⟨n, rfl⟩ := Int.eq_ofNat_of_zero_le h.1
  exact andN a n ha (by omega)
theorem is_at (r : Int) (l : List S31) (i : Int) : again_is.f r l i = some (decide (0 ≤ i ∧ i < (l.length : Int))) := by
  unfold again_is.f
  by_cases h : 0 ≤ i
  · rw [if_pos (show i ≥ 0 from h)]; simp [h]
  · rw [if_neg (show ¬ i ≥ 0 from h)]; simp [h]
/-- How long sets take. -/
def ticksV (r : Int) (x : Nat) : Int := wrap64 (r * (pop 64 x : Nat))
theorem ticks_eq (r : Int) (l : List S31) (n : Nat) (h : n < 18446744073709551616) : again_ticks.f r l (n : Int) = some (ticksV r n) := by
  unfold again_ticks.f
  rw [count_int (n : Int) (by omega) (by omega), Option.bind_some]; rfl
theorem ticksV_in {r : Int} (h0 : 0 ≤ r) (h1 : r ≤ 10000) (x : Nat) : ticksV r x = r * (pop 64 x : Nat) ∧ 0 ≤ ticksV r x ∧ ticksV r x ≤ 640000 := by
  have hp := pop_le 64 x
  have a : 0 ≤ r * ((pop 64 x : Nat) : Int) := Int.mul_nonneg h0 (by omega)
  have b : r * ((pop 64 x : Nat) : Int) ≤ 10000 * 64 := Int.mul_le_mul h1 (by omega) (by omega) (by omega)
  have e : ticksV r x = r * (pop 64 x : Nat) := w64 (by omega) (by omega)
  rw [e]; exact ⟨rfl, a, by omega⟩
def ownV (r : Int) (l : List S31) (i : Int) : Int := if 0 ≤ i ∧ i < (l.length : Int) then ticksV r (rd_T31 l i).f8.toNat else 0
def madeV (r : Int) (l : List S31) (i : Int) : Int := if 0 ≤ i ∧ i < (l.length : Int) then ticksV r ((rd_T31 l i).f7.toNat &&& orAll (l.drop (i.toNat + 1)) 0) else 0
theorem own_eq {r : Int} {l : List S31} (h : SetsOK l) (i : Int) : again_Own.f r l i = some (ownV r l i) := by
  unfold again_Own.f ownV
  rw [is_at, Option.bind_some]
  by_cases c : 0 ≤ i ∧ i < (l.length : Int)
  · have hx := (h _ (rd_in c.1 c.2)).2
    rw [decide_eq_true c, if_pos rfl, if_pos c.1, if_pos c.2, if_pos c]
    have := ticks_eq r l (rd_T31 l i).f8.toNat (by omega)
    rw [Int.toNat_of_nonneg hx.1] at this
    rw [this]; rfl
  · rw [decide_eq_false c, if_neg (by simp), if_neg c]
theorem made_loop {r : Int} {l L : List S31} (h : SetsOK l) (hL : SetsOK L) (hl : l.length ≤ 9223372036854775807) {i : Int} (c : 0 ≤ i ∧ i < (L.length : Int)) (d : Nat) : ∀ (k j a : Nat), j + d = l.length → d < k → a < 18446744073709551616 →
    again_Made.l0 k i (a : Int) l (l.length : Int) (j : Int) r L = some (ticksV r ((rd_T31 L i).f7.toNat &&& orAll (l.drop j) a)) := by
  induction d with
  | zero =>
    intro k j a hj hk ha
    obtain ⟨k, rfl⟩ : ∃ m, k = m + 1 := ⟨k - 1, by omega⟩
    simp only [again_Made.l0]
    have hx := (hL _ (rd_in c.1 c.2)).1
    rw [if_neg (by omega), if_pos c.1, if_pos c.2, and_int ha hx, List.drop_eq_nil_of_le (by omega), ticks_eq _ _ _ (and_lt (by omega)), Option.bind_some]; rfl
  | succ d ih =>
    intro k j a hj hk ha
    obtain ⟨k, rfl⟩ : ∃ m, k = m + 1 := ⟨k - 1, by omega⟩
    have hlt : j < l.length := by omega
    have hx := (h _ (rd_in (i := (j : Int)) (by omega) (by omega))).2
    simp only [again_Made.l0]
    rw [if_pos (by omega), if_pos (by omega), if_pos (by omega), or_int ha hx, w64 (n := (j : Int) + 1) (by omega) (by omega), rd_dropT hlt]
    have := ih k (j + 1) (a ||| (rd_T31 l (j : Int)).f8.toNat) (by omega) (by omega) (or_lt ha (by omega))
    rw [show ((j + 1 : Nat) : Int) = (j : Int) + 1 by omega] at this
    exact this
theorem made_eq {r : Int} {l : List S31} (h : SetsOK l) (hl : l.length ≤ 1000) (i : Int) (k : Nat) (hk : 1000 < k) : again_Made.f k r l i = some (madeV r l i) := by
  unfold again_Made.f madeV
  rw [is_at, Option.bind_some]
  by_cases c : 0 ≤ i ∧ i < (l.length : Int)
  · rw [decide_eq_true c, if_pos rfl, if_pos c, w64 (n := i + 1) (by omega) (by omega), if_pos (by omega), if_pos (by omega), Option.bind_some, show (i + 1).toNat = i.toNat + 1 by omega]
    have hd : SetsOK (l.drop (i.toNat + 1)) := fun y hy => h y (List.mem_of_mem_drop hy)
    have hdl : (l.drop (i.toNat + 1)).length ≤ l.length := by rw [List.length_drop]; omega
    have := made_loop (r := r) hd h (by omega) c (l.drop (i.toNat + 1)).length k 0 0 (by omega) (by omega) (by omega)
    rw [List.drop_zero] at this
    exact this
  · rw [decide_eq_false c, if_neg (by simp), if_neg c]
theorem made_ev {r : Int} {l : List S31} (h : SetsOK l) (hl : l.length ≤ 1000) (i : Int) : Ev (fun k => again_Made.f k r l i) (madeV r l i) := ⟨1001, fun k hk => made_eq h hl i k (by omega)⟩
theorem ownV_in {r : Int} (h0 : 0 ≤ r) (h1 : r ≤ 10000) (l : List S31) (i : Int) : 0 ≤ ownV r l i ∧ ownV r l i ≤ 640000 := by
  unfold ownV
  split
  · exact (ticksV_in h0 h1 _).2
  · omega
theorem madeV_in {r : Int} (h0 : 0 ≤ r) (h1 : r ≤ 10000) (l : List S31) (i : Int) : 0 ≤ madeV r l i ∧ madeV r l i ≤ 640000 := by
  unfold madeV
  split
  · exact (ticksV_in h0 h1 _).2
  · omega
theorem ticks_mono {r : Int} (h0 : 0 ≤ r) (h1 : r ≤ 10000) {x y : Nat} (h : ∀ i, x.testBit i = true → y.testBit i = true) : ticksV r x ≤ ticksV r y := by
  rw [(ticksV_in h0 h1 x).1, (ticksV_in h0 h1 y).1]
  exact Int.mul_le_mul_of_nonneg_left (by have := pop_mono 64 x y h; omega) h0
theorem and_sub (x y : Nat) : ∀ i, (x &&& y).testBit i = true → x.testBit i = true := fun i h => by
  rw [Nat.testBit_and] at h; exact (Bool.and_eq_true_iff.1 h).1
end Go.Proofs.Ytmhioeoioohmpaa.AgainPure

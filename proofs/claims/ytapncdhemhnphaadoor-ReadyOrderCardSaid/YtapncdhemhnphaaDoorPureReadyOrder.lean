/- What is proved: chapter 23's law ReadyOrder comes to 'true' at every argument, in plain Lean; conditions as each theorem names them. -/
import Derived.Test.YtapncdhemhnphaaDoorReadyPure
import Derived.Test.YtapncdhemhnphaaDoorHandNil
import Derived.Test.YtapncdhemhnphaaDoorQRoxf5
import Derived.Test.YtapncdhemhnphaaDoorQRoxf12
namespace Go.Proofs.YtapncdhemhnphaaDoor.Pure
open Go.RowKit Go.Proofs.YtapncdhemhnphaaDoor.QRo Go.Proofs.YtapncdhemhnphaaDoorW.PrintWords Go.Proofs.YtapncdhemhnphaaDoorW.PrintLast Go.Proofs.YtapncdhemhnphaaDoorW.PrintMore
set_option linter.unusedVariables false

theorem known23 : Ev (fun k => taskmasterlaw23_known.f k) true := Ev.of (fun k => taskmasterlaw23_known.mono k) (k := 10) (by decide +kernel)
/-- How many numbers are in it. -/
def cnt (a : Nat) : Nat := (List.range 64).countP (fun i => a.testBit i)
theorem cnt_one (p q : Nat → Bool) (j : Nat) (h : ∀ i, i ≠ j → p i = q i) (hp : p j = false) (hq : q j = true) : ∀ n, (List.range n).countP q = (List.range n).countP p + (if j < n then 1 else 0)
  | 0 => by simp
  | n + 1 => by
    rw [List.range_succ, List.countP_append, List.countP_append, cnt_one p q j h hp hq n, List.countP_singleton, List.countP_singleton]
    by_cases e : n = j
    · subst e; simp [hp, hq]
    · rw [h n e]
      by_cases c : j < n
      · rw [if_pos c, if_pos (show j < n + 1 by omega)]; omega
      · rw [if_neg c, if_neg (show ¬ j < n + 1 by omega)]; omega
theorem cnt_zero {a : Nat} (ha : a < 18446744073709551616) (h : cnt a = 0) : a = 0 := by
  refine Nat.eq_of_testBit_eq (fun i => ?_)
  rw [Nat.zero_testBit]
  by_cases hi : i < 64
  · have := List.countP_eq_zero.mp h i (by simpa using hi)
    simpa using this
  · exact Nat.testBit_lt_two_pow (Nat.lt_of_lt_of_le ha (Nat.pow_le_pow_right (n := 2) (i := 64) (by decide) (by omega)))
theorem cnt_pos {a : Nat} (h : 0 < cnt a) : a ≠ 0 := fun e => by
  subst e
  have : cnt 0 = 0 := by decide
  omega
theorem cnt_le (a : Nat) : cnt a ≤ 64 := by
  have := List.countP_le_length (p := fun i => a.testBit i) (l := List.range 64)
  rw [List.length_range] at this
  exact this
theorem cnt_added (a : Nat) (y : Int) : cnt (added a y) = cnt a + (if isNew a y = true then 1 else 0) := by
  unfold added
  by_cases h : isNew a y = true
  · rw [if_pos h, if_pos h]
    unfold isNew at h
    rw [Bool.and_eq_true] at h
    have hd := of_decide_eq_true h.1
    have hb : a.testBit y.toNat = false := by simpa using h.2
    have := cnt_one (fun i => a.testBit i) (fun i => (a ||| 2 ^ y.toNat).testBit i) y.toNat (fun i hi => by
      show a.testBit i = (a ||| 2 ^ y.toNat).testBit i
      rw [Nat.testBit_or, Nat.testBit_two_pow, decide_eq_false (fun e => hi e.symm), Bool.or_false]) hb (by
      show (a ||| 2 ^ y.toNat).testBit y.toNat = true
      rw [Nat.testBit_or, Nat.testBit_two_pow]; simp) 64
    rw [if_pos (by omega)] at this
    exact this
  · rw [if_neg h, if_neg h]; rfl
theorem less_bit {a : Nat} {y : Int} (h : isIn a y = true) (i : Nat) : (less a y).testBit i = (a.testBit i && (decide (i < 64) && !decide (y.toNat = i))) := by
  unfold less
  rw [if_pos h, Nat.testBit_and]
  have hd : 0 ≤ y ∧ y < 64 := by unfold isIn at h; rw [Bool.and_eq_true] at h; exact of_decide_eq_true h.1
  have e : 18446744073709551615 - 2 ^ y.toNat = 2 ^ 64 - (2 ^ y.toNat + 1) := by
    have : (2 : Nat) ^ 64 = 18446744073709551616 := by decide
    omega
  rw [e, Nat.testBit_two_pow_sub_succ (two_lt (by omega)), Nat.testBit_two_pow]
theorem cnt_less {a : Nat} {y : Int} (h : isIn a y = true) : cnt a = cnt (less a y) + 1 := by
  have h' := h
  unfold isIn at h'
  rw [Bool.and_eq_true] at h'
  have hd := of_decide_eq_true h'.1
  have hb := h'.2
  have hlt : (List.range 64).countP (fun i => a.testBit i && decide (i < 64)) = cnt a := by
    unfold cnt
    refine List.countP_congr (fun i hi => ?_)
    rw [List.mem_range] at hi
    simp [hi]
  have := cnt_one (fun i => (less a y).testBit i) (fun i => a.testBit i && decide (i < 64)) y.toNat (fun i hi => by
    show (less a y).testBit i = (a.testBit i && decide (i < 64))
    rw [less_bit h, decide_eq_false (show ¬ y.toNat = i from fun e => hi e.symm), Bool.not_false, Bool.and_true]) (by
    show (less a y).testBit y.toNat = false
    rw [less_bit h]; simp) (by
    show (a.testBit y.toNat && decide (y.toNat < 64)) = true
    rw [hb, decide_eq_true (by omega)]; rfl) 64
  rw [if_pos (by omega), hlt] at this
  exact this
theorem take_loop (d : Nat) : ∀ (a : Nat) (n i last : Int), a < 18446744073709551616 → cnt a = d → n - i = (d : Int) → 0 ≤ i → n ≤ 100 → (∀ j, a.testBit j = true → last < (j : Int)) → Ev (fun k => taskmasterlaw23_ReadyOrder.l1 k n last i (a : Int)) true := by
  induction d with
  | zero =>
    intro a n i last ha hc hn h0 hN hl
    obtain rfl := cnt_zero ha hc
    refine Ev.step (fun k => by rw [taskmasterlaw23_ReadyOrder.l1]) ?_
    refine evn (by omega) ?_
    refine evb (show nil_First.f = some (0, false) from rfl) ?_
    refine evb (rahead_eq (a := 0) (by decide) 64) ?_
    refine evn (by simp) ?_
    refine evb (show nil_Put.f = some false from rfl) (evn (by simp) ?_)
    refine evb (show nil_Drop.f = some false from rfl) (evn (by simp) ?_)
    refine evb (show nil_Has.f = some false from rfl) (evn (by simp) (evn (by simp) ?_))
    refine evb (show nil_Ahead.f = some false from rfl) (evn (by simp) ?_)
    exact Ev.bind known23 (Ev.now true)
  | succ d ih =>
    intro a n i last ha hc hn h0 hN hl
    have hz : a ≠ 0 := cnt_pos (by omega)
    obtain ⟨k, m, e1, e2, e3⟩ := ctz_spec hz ha
    have hk : a.testBit k = true := by rw [e2, bit_of, if_neg (by omega), Nat.sub_self, Nat.testBit_zero]; simp
    have hmin : ∀ j, j < k → a.testBit j = false := fun j hj => by rw [e2, bit_of, if_pos hj]
    have hin : isIn a (k : Int) = true := by unfold isIn; rw [decide_eq_true (by omega), Bool.true_and, Int.toNat_natCast]; exact hk
    refine Ev.step (fun k => by rw [taskmasterlaw23_ReadyOrder.l1]) ?_
    refine evp (by omega) ?_
    refine evb (first_eq ha) ?_
    rw [if_neg hz, e1]
    refine evp rfl ?_
    have hlk := hl k hk
    refine evn (show ¬ (k : Int) ≤ last by omega) ?_
    refine evb (rahead_eq ha (k : Int)) ?_
    rw [if_neg hz, e1]
    refine evn (by simp) ?_
    refine evb (rhas_eq ha (k : Int)) ?_
    refine evp hin ?_
    refine Ev.bind (drop_eq ha (k : Int)) ?_
    rw [hin]
    refine evp rfl ?_
    rw [w64 (n := i + 1) (by omega) (by omega)]
    have hcl := cnt_less hin
    refine ih (less a (k : Int)) n (i + 1) (k : Int) (less_lt ha _) (by omega) (by omega) (by omega) hN (fun j hj => ?_)
    rw [less_bit hin, Bool.and_eq_true, Bool.and_eq_true, Int.toNat_natCast] at hj
    have h1 : ¬ k = j := by simpa using hj.2.2
    by_cases q : j < k
    · rw [hmin j q] at hj; cases hj.1
    · omega
theorem put_loop (l : List Int) (hl : l.length ≤ 100) (d : Nat) : ∀ (i a : Nat), i + d = l.length → a < 18446744073709551616 → Ev (fun k => taskmasterlaw23_ReadyOrder.l0 k l ((cnt a : Nat) : Int) (i : Int) (a : Int)) true := by
  induction d with
  | zero =>
    intro i a hi ha
    refine Ev.step (fun k => by rw [taskmasterlaw23_ReadyOrder.l0]) ?_
    refine evn (by omega) ?_
    have := cnt_le a
    exact take_loop (cnt a) a _ 0 (-1) ha rfl (by omega) (by omega) (by omega) (fun j _ => by omega)
  | succ d ih =>
    intro i a hi ha
    generalize hy : rd l (i : Int) = y
    refine Ev.step (fun k => by rw [taskmasterlaw23_ReadyOrder.l0, hy]) ?_
    refine evp (by omega) (evp (by omega) ?_)
    refine Ev.bind (put_eq ha y) ?_
    have hc := cnt_added a y
    have h64 := cnt_le a
    by_cases h : isNew a y = true
    · rw [if_pos h] at hc
      refine evp h ?_
      rw [wi (i := cnt a) (by omega), wi (i := i) (by omega)]
      have := ih (i + 1) (added a y) (by omega) (added_lt ha y)
      rw [hc] at this
      exact this
    · rw [if_neg h] at hc
      refine evn h ?_
      rw [wi (by omega)]
      have := ih (i + 1) (added a y) (by omega) (added_lt ha y)
      rw [hc] at this
      exact this
theorem ReadyOrder (l0 : (List Int)) (w0 : ∀ y ∈ l0, (Lit.int .i64 y).wf = true) : ∃ k : Nat, taskmasterlaw23_ReadyOrder.f k l0 = some true := by
  refine Ev.rounds ?_
  unfold taskmasterlaw23_ReadyOrder.f
  by_cases c0 : (l0.length : Int) > 100
  · exact evp c0 (Ev.now true)
  refine evn c0 (evb rfl ?_)
  exact put_loop l0 (by omega) l0.length 0 0 (by omega) (by decide)
end Go.Proofs.YtapncdhemhnphaaDoor.Pure

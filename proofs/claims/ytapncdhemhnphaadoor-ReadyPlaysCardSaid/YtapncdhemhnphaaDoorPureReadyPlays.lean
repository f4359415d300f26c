/- What is proved: chapter 23's law ReadyPlays comes to 'true' at every argument, in plain Lean; conditions as each theorem names them. -/
import Derived.Test.YtapncdhemhnphaaDoorReadyPure
import Derived.Test.YtapncdhemhnphaaDoorHandArr
import Derived.Test.YtapncdhemhnphaaDoorOpenRp
import Derived.Test.YtapncdhemhnphaaDoorQRpxf4
import Derived.Test.YtapncdhemhnphaaDoorQRpxf12
namespace Go.Proofs.YtapncdhemhnphaaDoor.Pure
open Go.RowKit Go.Proofs.YtapncdhemhnphaaDoor.QRp Go.Proofs.YtapncdhemhnphaaDoorW.PrintWords Go.Proofs.YtapncdhemhnphaaDoorW.PrintLast Go.Proofs.YtapncdhemhnphaaDoorW.PrintMore
set_option linter.unusedVariables false

theorem known23 : Ev (fun k => taskmasterlaw23_known.f k) true := Ev.of (fun k => taskmasterlaw23_known.mono k) (k := 10) (by decide +kernel)
theorem ref_has (a : Nat) (y : Int) : taskmasterref23_Ready_Has.f (a : Int) y = some (isIn a y, (a : Int)) := rfl
theorem ref_put (a : Nat) (y : Int) : taskmasterref23_Ready_Put.f (a : Int) y = some (isNew a y, ((added a y : Nat) : Int)) := by
  unfold taskmasterref23_Ready_Put.f addA added
  have e : newA (a : Int) y = isNew a y := rfl
  rw [e]
  by_cases h : isNew a y = true
  · rw [if_pos h, if_pos h, Int.toNat_natCast]
  · rw [if_neg h, if_neg h]
theorem ref_drop {a : Nat} (ha : a < 18446744073709551616) (y : Int) : taskmasterref23_Ready_Drop.f (a : Int) y = some (isIn a y, ((less a y : Nat) : Int)) := by
  unfold taskmasterref23_Ready_Drop.f dropA less
  have e : inA (a : Int) y = isIn a y := rfl
  rw [e]
  by_cases h : isIn a y = true
  · rw [if_pos h, if_pos h, Int.toNat_natCast]
    have hd : 0 ≤ y ∧ y < 64 := by unfold isIn at h; rw [Bool.and_eq_true] at h; exact of_decide_eq_true h.1
    have hb : a.testBit y.toNat = true := by unfold isIn at h; rw [Bool.and_eq_true] at h; exact h.2
    have e2 : a ^^^ 2 ^ y.toNat = a &&& (18446744073709551615 - 2 ^ y.toNat) := by
      refine Nat.eq_of_testBit_eq (fun i => ?_)
      have e3 : 18446744073709551615 - 2 ^ y.toNat = 2 ^ 64 - (2 ^ y.toNat + 1) := by
        have : (2 : Nat) ^ 64 = 18446744073709551616 := by decide
        omega
      rw [xor_bit hb, Nat.testBit_and, e3, Nat.testBit_two_pow_sub_succ (two_lt (by omega)), Nat.testBit_two_pow]
      by_cases q : i = y.toNat
      · rw [if_pos q, q]; simp
      · rw [if_neg q, decide_eq_false (show ¬ y.toNat = i from fun z => q z.symm)]
        by_cases c : i < 64
        · simp [c]
        · rw [Nat.testBit_lt_two_pow (Nat.lt_of_lt_of_le ha (Nat.pow_le_pow_right (n := 2) (i := 64) (by decide) (by omega)))]; rfl
    rw [e2]
  · rw [if_neg h, if_neg h]
theorem fst_none {n : Nat} : ∀ d i : Nat, (∀ j, n.testBit j = false) → fstA n d i = (0, false)
  | 0, _, _ => rfl
  | d + 1, i, h => by
    unfold fstA
    rw [h i, if_neg (by simp)]; exact fst_none d (i + 1) h
theorem fst_some {n k : Nat} (hk : n.testBit k = true) : ∀ d i : Nat, i ≤ k → k < i + d → (∀ j, j < k → n.testBit j = false) → fstA n d i = ((k : Int), true)
  | 0, i, h1, h2, _ => absurd h2 (by omega)
  | d + 1, i, h1, h2, h => by
    unfold fstA
    by_cases e : i = k
    · subst e; rw [if_pos hk]
    · rw [h i (by omega), if_neg (by simp)]; exact fst_some hk d (i + 1) (by omega) (by omega) h
theorem fst_eq {a : Nat} (ha : a < 18446744073709551616) : fstA a 64 0 = if a = 0 then (0, false) else (((Lib.ctz 64 a : Nat) : Int), true) := by
  by_cases h0 : a = 0
  · subst h0; rw [if_pos rfl]; exact fst_none 64 0 (fun j => Nat.zero_testBit j)
  · rw [if_neg h0]
    obtain ⟨k, m, e1, e2, e3⟩ := ctz_spec h0 ha
    have hk : a.testBit k = true := by rw [e2, bit_of, if_neg (by omega), Nat.sub_self, Nat.testBit_zero]; simp
    rw [e1]
    exact fst_some hk 64 0 (by omega) (by omega) (fun j hj => by rw [e2, bit_of, if_pos hj])
theorem ref_first (a : Nat) : taskmasterref23_Ready_First.f (a : Int) = some ((fstA a 64 0).1, (fstA a 64 0).2, (a : Int)) := rfl
theorem ref_ahead (a : Nat) (i : Int) : taskmasterref23_Ready_Ahead.f (a : Int) i = some ((fstA a 64 0).2 && decide ((fstA a 64 0).1 < i), (a : Int)) := rfl
theorem cod_first {a : Nat} (ha : a < 18446744073709551616) : ready_Ready_First.f (a : Int) = some ((fstA a 64 0).1, (fstA a 64 0).2, (a : Int)) := by
  rw [first_eq ha, fst_eq ha]
  by_cases h0 : a = 0
  · rw [if_pos h0, if_pos h0]
  · rw [if_neg h0, if_neg h0]
theorem cod_ahead {a : Nat} (ha : a < 18446744073709551616) (i : Int) : ready_Ready_Ahead.f (a : Int) i = some ((fstA a 64 0).2 && decide ((fstA a 64 0).1 < i), (a : Int)) := by
  rw [rahead_eq ha, fst_eq ha]
  by_cases h0 : a = 0
  · rw [if_pos h0, if_pos h0]; rfl
  · rw [if_neg h0, if_neg h0]; simp
theorem after (l : List S34) (hl : l.length ≤ 200) (i a : Nat) (hi : i < l.length) (ha : a < 18446744073709551616) (y : Int) (h : Ev (fun k => taskmasterlaw23_ReadyPlays.l0 k l ((i + 1 : Nat) : Int) (a : Int) (a : Int)) true) :
    Ev (fun k => taskmasterlaw23_ReadyPlays.j1 k l (i : Int) y true (a : Int) (a : Int)) true := by
  refine Ev.step (fun k => by rw [taskmasterlaw23_ReadyPlays.j1]) ?_
  refine evb (cod_first ha) ?_
  refine evb (ref_first a) ?_
  refine evp rfl (evp rfl (evn (by simp) ?_))
  refine evb (cod_ahead ha y) ?_
  refine evb (ref_ahead a y) ?_
  refine evn (by simp) ?_
  rw [wi (i := i) (by omega)]
  exact h
theorem plays_loop (l : List S34) (hl : l.length ≤ 200) (d : Nat) : ∀ (i a : Nat), i + d = l.length → a < 18446744073709551616 → Ev (fun k => taskmasterlaw23_ReadyPlays.l0 k l (i : Int) (a : Int) (a : Int)) true := by
  induction d with
  | zero =>
    intro i a hi ha
    refine Ev.step (fun k => by rw [taskmasterlaw23_ReadyPlays.l0]) ?_
    exact evn (by omega) (Ev.bind known23 (Ev.now true))
  | succ d ih =>
    intro i a hi ha
    generalize hy : (rd_T34 l (i : Int)).f1 = y
    refine Ev.step (fun k => by rw [taskmasterlaw23_ReadyPlays.l0, hy]) ?_
    refine evp (by omega) (evp (by omega) ?_)
    by_cases c1 : (rd_T34 l (i : Int)).f0 = 1
    · refine evp c1 (Ev.bind (put_eq ha y) (evb (ref_put a y) ?_))
      rw [show (isNew a y == isNew a y) = true by simp]
      exact after l hl i _ (by omega) (added_lt ha y) y (ih (i + 1) _ (by omega) (added_lt ha y))
    refine evn c1 ?_
    by_cases c2 : (rd_T34 l (i : Int)).f0 = 2
    · refine evp c2 (Ev.bind (drop_eq ha y) (evb (ref_drop ha y) ?_))
      rw [show (isIn a y == isIn a y) = true by simp]
      exact after l hl i _ (by omega) (less_lt ha y) y (ih (i + 1) _ (by omega) (less_lt ha y))
    refine evn c2 (evb (rhas_eq ha y) (evb (ref_has a y) ?_))
    show Ev (fun k => taskmasterlaw23_ReadyPlays.j1 k l (i : Int) y (isIn a y == isIn a y) (a : Int) (a : Int)) true
    rw [show (isIn a y == isIn a y) = true by simp]
    exact after l hl i _ (by omega) ha y (ih (i + 1) _ (by omega) ha)
theorem ReadyPlays (l0 : (List S34)) (w0 : ∀ y ∈ l0, wf34 y) : ∃ k : Nat, taskmasterlaw23_ReadyPlays.f k l0 = some true := by
  refine Ev.rounds ?_
  unfold taskmasterlaw23_ReadyPlays.f
  by_cases c0 : (l0.length : Int) > 200
  · exact evp c0 (Ev.now true)
  refine evn c0 (evb rfl (evb rfl ?_))
  exact plays_loop l0 (by omega) l0.length 0 0 (by omega) (by decide)
end Go.Proofs.YtapncdhemhnphaaDoor.Pure

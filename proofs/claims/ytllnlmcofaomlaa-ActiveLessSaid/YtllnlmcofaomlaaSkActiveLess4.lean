/- What is proved: contracts and plain facts on the way to the row RowActiveLess, and, in the last text, the row itself; conditions as each theorem names them. -/
import Derived.ScopeJumps
import Derived.WalkMore
import Derived.Laws.BitsLemmas
import Derived.Laws.Entries
import Derived.ChangeArms
import Derived.Deep.Slices
import Derived.DataReads
import Derived.WideShapes
import Derived.KernelRfl
import Derived.Test.YtllnlmcofaomlaaRows
import Derived.WalkKit
import Derived.ProofKit
import Derived.OpenShut
import Derived.ShutString
import Derived.ChangeOld
import Derived.Below
import Derived.SizedLaws
import Derived.Test.YtllnlmcofaomlaaSkActiveLess1
import Derived.Test.YtllnlmcofaomlaaSkActiveLess2
import Derived.Test.YtllnlmcofaomlaaSkActiveLess3
namespace Go.Proofs.Ytllnlmcofaomlaa.QAc
open Go.RowKit Go.Proofs.YtllnlmcofaomlaaW.PrintWords Go.Proofs.YtllnlmcofaomlaaW.PrintLast Go.Proofs.YtllnlmcofaomlaaW.PrintMore
attribute [local go_sem] max2_int min2_int max_two min_two max_three min_three max_four min_four   -- for this text's walks alone
set_option linter.unusedVariables false
set_option linter.unusedSimpArgs false
def taskmasterref10_Least.l0 : Nat → Int → List (S41) → Int → Option (Int × Bool)
  | 0, _, _, _ => none
  | k + 1, x0, x1, x6 => if x6 ≤ 1000000 then ((taskmasterref10_sum.f k x0 x1 x6).bind fun t238 => (if t238 = x6 then (some (x6, true)) else (if t238 < x6 then (some (0, false)) else (taskmasterref10_Least.l0 k x0 x1 t238)))) else (some (0, false))
def taskmasterref10_Least.f (k : Nat) (a0 : Int) (l1 : List (S41)) : Option (Int × Bool) := (taskmasterref10_may.f k a0 l1).bind fun t237 => (if t237 = true then (taskmasterref10_Least.l0 k a0 l1 1) else (some (0, false)))
end Go.Proofs.Ytllnlmcofaomlaa.QAc
namespace Go.Proofs.Ytllnlmcofaomlaa.FixPure
open Go.RowKit Go.Proofs.Ytllnlmcofaomlaa.QAc Go.Proofs.YtllnlmcofaomlaaW.PrintWords Go.Proofs.YtllnlmcofaomlaaW.PrintLast Go.Proofs.Ytllnlmcofaomlaa.FixMath
set_option linter.unusedVariables false
theorem is_eq (a : Int) : num_Is.f a = some (decide (0 ≤ a ∧ a ≤ 1099511627776)) := by
  unfold num_Is.f
  by_cases h : 0 ≤ a
  · rw [if_pos (show a ≥ 0 from h)]; simp [h]
  · rw [if_neg (show ¬ a ≥ 0 from h)]; simp [h]
theorem is_yes {a : Int} (h : 0 ≤ a ∧ a ≤ 1099511627776) : num_Is.f a = some true := by rw [is_eq, decide_eq_true h]
theorem w64 {n : Int} (h0 : -9223372036854775808 ≤ n) (h1 : n ≤ 9223372036854775807) : wrap64 n = n := by unfold wrap64; omega
theorem floor_yes {a b : Int} (h0 : 0 ≤ a) (h1 : a ≤ 1099511627776) (h2 : 1 ≤ b) (h3 : b ≤ 1099511627776) : num_Floor.f a b = some (a / b, true) := by
  have hd : 0 ≤ a / b ∧ a / b ≤ a := ⟨Int.ediv_nonneg h0 (by omega), Int.ediv_le_self b h0⟩
  unfold num_Floor.f
  rw [is_yes ⟨h0, h1⟩, Option.bind_some, if_pos rfl, is_yes ⟨by omega, h3⟩, Option.bind_some, if_pos rfl, if_neg (by omega), Int.tdiv_eq_ediv_of_nonneg h0, w64 (by omega) (by omega)]
theorem ceil_yes {a b : Int} (h0 : 0 ≤ a) (h1 : a ≤ 1099511627776) (h2 : 1 ≤ b) (h3 : b ≤ 1099511627776) : num_Ceil.f a b = some (ups a b, true) := by
  have hd : 0 ≤ a / b ∧ a / b ≤ a := ⟨Int.ediv_nonneg h0 (by omega), Int.ediv_le_self b h0⟩
  have hm : a / b * b = a - a % b := by have := Int.emod_add_mul_ediv a b; rw [Int.mul_comm] at this; omega
  have hn := Int.emod_nonneg a (show b ≠ 0 by omega)
  have hl := Int.emod_lt_of_pos a (show 0 < b by omega)
  have hr : a % b ≤ a := by
    have := Int.mul_nonneg hd.1 (show 0 ≤ b by omega)
    omega
  rw [up_ceil h2 h0]
  unfold num_Ceil.f
  rw [floor_yes h0 h1 h2 h3, Option.bind_some, if_pos rfl]
  simp only
  rw [w64 (by omega) (by omega)]
  by_cases e : a % b = 0
  · rw [if_neg (by omega), if_pos e]
  · rw [if_pos (by omega), if_neg e, w64 (by omega) (by omega)]
def prs (l : List S41) : List (Int × Int) := l.map fun x => (x.f0, x.f1)
theorem prs_length (l : List S41) : (prs l).length = l.length := by unfold prs; simp
theorem oddL_no {x : S41} : oddL x = false ↔ (1 ≤ x.f0 ∧ x.f0 ≤ 1000000) ∧ (0 ≤ x.f1 ∧ x.f1 ≤ 1000000) := by
  unfold oddL; simp
theorem good_iff {l : List S41} : ((l.length : Int) ≤ 64 ∧ l.any oddL = false) ↔ good (prs l) := by
  unfold good
  rw [prs_length]
  constructor
  · rintro ⟨h1, h2⟩
    refine ⟨by omega, fun x hx => ?_⟩
    obtain ⟨y, hy, rfl⟩ := List.mem_map.1 hx
    rw [List.any_eq_false] at h2
    have := oddL_no.1 (Bool.eq_false_iff.2 (h2 y hy))
    exact ⟨this.1.1, this.1.2, this.2.1, this.2.2⟩
  · rintro ⟨h1, h2⟩
    refine ⟨by omega, ?_⟩
    rw [List.any_eq_false]
    intro y hy
    have := h2 _ (List.mem_map.2 ⟨y, hy, rfl⟩)
    rw [oddL_no.2 ⟨⟨this.1, this.2.1⟩, this.2.2.1, this.2.2.2⟩]; simp
theorem is_fix (a : Int) (l : List S41) : fix_is.f a l = some (decide (0 ≤ a ∧ a ≤ 1000000 ∧ good (prs l))) := by
  unfold fix_is.f
  by_cases h : 0 ≤ a ∧ a ≤ 1000000 ∧ good (prs l)
  · have g := good_iff.2 h.2.2
    rw [decide_eq_true h, decide_eq_true (⟨h.1, h.2.1⟩ : 0 ≤ a ∧ a ≤ 1000000), decide_eq_true g.1, g.2]; rfl
  · rw [decide_eq_false h]
    by_cases h1 : 0 ≤ a ∧ a ≤ 1000000
    · have g : ¬ ((l.length : Int) ≤ 64 ∧ l.any oddL = false) := fun g => h ⟨h1.1, h1.2, good_iff.1 g⟩
      rw [decide_eq_true h1]
      by_cases h2 : (l.length : Int) ≤ 64
      · have : l.any oddL = true := by
          cases hb : l.any oddL
          · exact absurd ⟨h2, hb⟩ g
          · rfl
        rw [this]; simp
      · rw [decide_eq_false h2]; rfl
    · rw [decide_eq_false h1]; rfl
theorem drop_step {l : List S41} {i : Nat} (h : i < l.length) : prs (l.drop i) = ((rd_T41 l i).f0, (rd_T41 l i).f1) :: prs (l.drop (i + 1)) := by
  rw [List.drop_eq_getElem_cons h]
  unfold prs rd_T41
  rw [List.map_cons, Int.toNat_natCast, List.getD_eq_getElem?_getD, List.getElem?_eq_getElem h]; rfl
theorem rd_mem {l : List S41} {i : Nat} (h : i < l.length) : ((rd_T41 l i).f0, (rd_T41 l i).f1) ∈ prs l := by
  unfold prs rd_T41
  rw [Int.toNat_natCast, List.getD_eq_getElem?_getD, List.getElem?_eq_getElem h]
  exact List.mem_map.2 ⟨_, List.getElem_mem h, rfl⟩
theorem sum_loop {l : List S41} {w : Int} (hg : good (prs l)) (h0 : 0 ≤ w) (h1 : w ≤ 1000000) (d : Nat) : ∀ (k i : Nat) (acc : Int), i + d = l.length → d < k → 0 ≤ acc → acc ≤ 1000000 + 1000000000000 * i →
    fix_sum.l0 k acc w l (l.length : Int) (i : Int) = some (tot acc (prs (l.drop i)) w) := by
  induction d with
  | zero =>
    intro k i acc hi hk a0 a1
    obtain ⟨k, rfl⟩ : ∃ m, k = m + 1 := ⟨k - 1, by omega⟩
    simp only [fix_sum.l0]
    rw [if_neg (by omega), List.drop_eq_nil_of_le (by omega)]; rfl
  | succ d ih =>
    intro k i acc hi hk a0 a1
    obtain ⟨k, rfl⟩ : ∃ m, k = m + 1 := ⟨k - 1, by omega⟩
    have hlt : i < l.length := by omega
    have hx := hg.2 _ (rd_mem hlt)
    have h64 := hg.1
    rw [prs_length] at h64
    rw [drop_step hlt]
    have e0 : fix_sum.l0 (k + 1) acc w l (l.length : Int) (i : Int) = (num_Ceil.f w (rd_T41 l i).f0).bind fun bt108 => fix_sum.l0 k (wrap64 (acc + wrap64 ((rd_T41 l i).f1 * bt108.1))) w l (l.length : Int) (wrap64 ((i : Int) + 1)) := by
      simp only [fix_sum.l0]; rw [if_pos (by omega), if_pos (by omega), if_pos (by omega)]
    rw [e0]
    clear e0
    generalize rd_T41 l (i : Int) = x at hx ⊢
    simp only at hx
    have hu := up_le hx.1 h0
    have hu0 := up_nonneg hx.1 h0
    have hp : x.f1 * ups w x.f0 ≤ 1000000 * 1000000 := Int.mul_le_mul hx.2.2.2 (by omega) hu0 (by omega)
    have hp0 : 0 ≤ x.f1 * ups w x.f0 := Int.mul_nonneg hx.2.2.1 hu0
    rw [ceil_yes (a := w) (b := x.f0) h0 (by omega) hx.1 (by omega), Option.bind_some]
    simp only
    rw [w64 (n := x.f1 * ups w x.f0) (by omega) (by omega), w64 (n := acc + x.f1 * ups w x.f0) (by omega) (by omega), w64 (n := (i : Int) + 1) (by omega) (by omega)]
    exact ih k (i + 1) _ (by omega) (by omega) (by omega) (by omega)
theorem sum_eq {l : List S41} {a w : Int} (hg : good (prs l)) (ha : 0 ≤ a) (ha' : a ≤ 1000000) (h0 : 0 ≤ w) (h1 : w ≤ 1000000) (k : Nat) (hk : l.length < k) : fix_sum.f k a l w = some (tot a (prs l) w) := by
  unfold fix_sum.f
  exact sum_loop hg h0 h1 l.length k 0 a (by omega) hk ha (by omega)
theorem rsum_loop {l : List S41} {w : Int} (hg : good (prs l)) (h0 : 0 ≤ w) (h1 : w ≤ 1000000) (d : Nat) : ∀ (k i : Nat) (acc : Int), i + d = l.length → d < k → 0 ≤ acc → acc ≤ 1000000 + 1000000000000 * i →
    taskmasterref10_sum.l0 k l w acc (i : Int) = some (tot acc (prs (l.drop i)) w) := by
  induction d with
  | zero =>
    intro k i acc hi hk a0 a1
    obtain ⟨k, rfl⟩ : ∃ m, k = m + 1 := ⟨k - 1, by omega⟩
    simp only [taskmasterref10_sum.l0]
    rw [if_neg (by omega), List.drop_eq_nil_of_le (by omega)]; rfl
  | succ d ih =>
    intro k i acc hi hk a0 a1
    obtain ⟨k, rfl⟩ : ∃ m, k = m + 1 := ⟨k - 1, by omega⟩
    have hlt : i < l.length := by omega
    have hx := hg.2 _ (rd_mem hlt)
    have h64 := hg.1
    rw [prs_length] at h64
    rw [drop_step hlt]
    have e0 : taskmasterref10_sum.l0 (k + 1) l w acc (i : Int) = taskmasterref10_sum.l0 k l w (acc + ups w (rd_T41 l i).f0 * (rd_T41 l i).f1) ((i : Int) + 1) := by
      simp only [taskmasterref10_sum.l0]
      rw [if_pos (by omega), if_pos (by omega)]
      generalize rd_T41 l (i : Int) = x at hx ⊢
      simp only at hx
      have hu := up_le hx.1 h0
      have hu0 := up_nonneg hx.1 h0
      have hp : x.f1 * ups w x.f0 ≤ 1000000 * 1000000 := Int.mul_le_mul hx.2.2.2 (by omega) hu0 (by omega)
      have hp0 : 0 ≤ x.f1 * ups w x.f0 := Int.mul_nonneg hx.2.2.1 hu0
      rw [if_neg (by omega), w64 (n := w + x.f0) (by omega) (by omega), w64 (n := w + x.f0 - 1) (by omega) (by omega), Int.tdiv_eq_ediv_of_nonneg (by omega)]
      show taskmasterref10_sum.l0 k l w (wrap64 (acc + wrap64 (wrap64 (ups w x.f0) * x.f1))) _ = _
      rw [w64 (n := ups w x.f0) (by omega) (by omega), Int.mul_comm (ups w x.f0), w64 (n := x.f1 * ups w x.f0) (by omega) (by omega), w64 (n := acc + x.f1 * ups w x.f0) (by omega) (by omega), w64 (n := (i : Int) + 1) (by omega) (by omega)]
    rw [e0, Int.mul_comm]
    generalize rd_T41 l (i : Int) = x at hx ⊢
    simp only at hx
    have hu := up_le hx.1 h0
    have hu0 := up_nonneg hx.1 h0
    have hp : x.f1 * ups w x.f0 ≤ 1000000 * 1000000 := Int.mul_le_mul hx.2.2.2 (by omega) hu0 (by omega)
    have hp0 : 0 ≤ x.f1 * ups w x.f0 := Int.mul_nonneg hx.2.2.1 hu0
    exact ih k (i + 1) _ (by omega) (by omega) (by omega) (by omega)
theorem rsum_eq {l : List S41} {a w : Int} (hg : good (prs l)) (ha : 0 ≤ a) (ha' : a ≤ 1000000) (h0 : 0 ≤ w) (h1 : w ≤ 1000000) (k : Nat) (hk : l.length < k) : taskmasterref10_sum.f k a l w = some (tot a (prs l) w) := by
  unfold taskmasterref10_sum.f
  exact rsum_loop hg h0 h1 l.length k 0 a (by omega) hk ha (by omega)
theorem may_loop {l : List S41} (h64 : l.length ≤ 64) (d : Nat) : ∀ (k i : Nat), i + d = l.length → d < k → taskmasterref10_may.l0 k l (i : Int) = some (!((l.drop i).any oddL)) := by
  induction d with
  | zero =>
    intro k i hi hk
    obtain ⟨k, rfl⟩ : ∃ m, k = m + 1 := ⟨k - 1, by omega⟩
    unfold taskmasterref10_may.l0
    rw [if_neg (by omega), List.drop_eq_nil_of_le (by omega)]; rfl
  | succ d ih =>
    intro k i hi hk
    obtain ⟨k, rfl⟩ : ∃ m, k = m + 1 := ⟨k - 1, by omega⟩
    have hlt : i < l.length := by omega
    have hd : l.drop i = rd_T41 l (i : Int) :: l.drop (i + 1) := by
      rw [List.drop_eq_getElem_cons hlt]; unfold rd_T41
      rw [Int.toNat_natCast, List.getD_eq_getElem?_getD, List.getElem?_eq_getElem hlt]; rfl
    unfold taskmasterref10_may.l0
    rw [if_pos (by omega), if_pos (by omega), hd, List.any_cons, w64 (n := (i : Int) + 1) (by omega) (by omega)]
    have hn := ih k (i + 1) (by omega) (by omega)
    rw [show (((i + 1 : Nat) : Int)) = (i : Int) + 1 by omega] at hn
    rw [hn]
    generalize rd_T41 l (i : Int) = x
    have ho := @oddL_no x
    by_cases h : (1 ≤ x.f0 ∧ x.f0 ≤ 1000000) ∧ (0 ≤ x.f1 ∧ x.f1 ≤ 1000000)
    · rw [if_neg (by omega), if_neg (by omega), if_neg (by omega), if_neg (by omega), ho.2 h]; rfl
    · have hb : oddL x = true := by
        cases hb : oddL x
        · exact absurd (ho.1 hb) h
        · rfl
      rw [hb]
      by_cases h1 : x.f0 < 1
      · rw [if_pos h1]; rfl
      · rw [if_neg h1]
        by_cases h2 : x.f0 > 1000000
        · rw [if_pos h2]; rfl
        · rw [if_neg h2]
          by_cases h3 : x.f1 < 0
          · rw [if_pos h3]; rfl
          · rw [if_neg h3, if_pos (by omega)]; rfl
theorem may_eq (a : Int) (l : List S41) (k : Nat) (hk : l.length + 1 < k ∨ 66 < k) : taskmasterref10_may.f k a l = some (decide (0 ≤ a ∧ a ≤ 1000000 ∧ good (prs l))) := by
  obtain ⟨k, rfl⟩ : ∃ m, k = m + 1 := ⟨k - 1, by omega⟩
  unfold taskmasterref10_may.f
  have no : taskmasterref10_may.j0 (k + 1) l true = some false := by rw [taskmasterref10_may.j0, if_pos rfl]
  by_cases h0 : a < 0
  · rw [if_pos h0, no, decide_eq_false (by omega)]
  · rw [if_neg h0]
    by_cases h1 : a > 1000000
    · rw [if_pos h1, no, decide_eq_false (by omega)]
    · rw [if_neg h1]
      by_cases h2 : (l.length : Int) > 64
      · rw [decide_eq_true h2, no, decide_eq_false]
        rintro ⟨_, _, h⟩
        have := h.1; rw [prs_length] at this; omega
      · rw [decide_eq_false h2]
        rw [taskmasterref10_may.j0]
        rw [if_neg (by simp)]
        have := may_loop (l := l) (by omega) l.length k 0 (by omega) (by omega)
        rw [show ((0 : Nat) : Int) = 0 from rfl] at this
        rw [this, List.drop_zero]
        congr 1
        have g := @good_iff l
        by_cases hb : l.any oddL = false
        · rw [hb, decide_eq_true ⟨by omega, by omega, g.1 ⟨by omega, hb⟩⟩]; rfl
        · have hb' : l.any oddL = true := by simpa using hb
          rw [hb', decide_eq_false (fun h => hb (g.2 h.2.2).2)]; rfl
theorem rleast_loop {l : List S41} {a : Int} (hg : good (prs l)) (ha : 0 ≤ a) (ha' : a ≤ 1000000) : ∀ (n k : Nat) (w : Int), 1 ≤ w → w ≤ 1000000 → 1000000 - w < n → n + 67 < k →
    taskmasterref10_Least.l0 k a l w = some (leastGo (tot a (prs l)) n w) := by
  have h64 := hg.1
  rw [prs_length] at h64
  intro n
  induction n with
  | zero => intro k w h0 h1 h2 hk; omega
  | succ n ih =>
    intro k w h0 h1 h2 hk
    obtain ⟨k, rfl⟩ : ∃ m, k = m + 1 := ⟨k - 1, by omega⟩
    simp only [taskmasterref10_Least.l0]
    rw [if_pos h1, rsum_eq hg ha ha' (by omega) h1 k (by omega), Option.bind_some]
    unfold leastGo
    by_cases e : tot a (prs l) w = w
    · rw [if_pos e, if_pos e]
    · rw [if_neg e, if_neg e]
      by_cases e1 : tot a (prs l) w < w
      · rw [if_pos e1, if_pos (Or.inl e1)]
      · rw [if_neg e1]
        by_cases e2 : 1000000 < tot a (prs l) w
        · rw [if_pos (Or.inr e2)]
          obtain ⟨k, rfl⟩ : ∃ m, k = m + 1 := ⟨k - 1, by omega⟩
          simp only [taskmasterref10_Least.l0]
          rw [if_neg (by omega)]
        · rw [if_neg (by omega)]
          exact ih k _ (by omega) (by omega) (by omega) (by omega)
def leastV (a : Int) (l : List S41) : Int × Bool := if 0 ≤ a ∧ a ≤ 1000000 ∧ good (prs l) then leastR a (prs l) else (0, false)
def sumV (a : Int) (l : List S41) (w : Int) : Int × Bool := if (0 ≤ a ∧ a ≤ 1000000 ∧ good (prs l)) ∧ 0 ≤ w ∧ w ≤ 1000000 then (tot a (prs l) w, true) else (0, false)
theorem rleast_eq (a : Int) (l : List S41) (k : Nat) (hk : 1000100 < k) : taskmasterref10_Least.f k a l = some (leastV a l) := by
  unfold taskmasterref10_Least.f leastV
  rw [may_eq a l k (Or.inr (by omega)), Option.bind_some]
  by_cases h : 0 ≤ a ∧ a ≤ 1000000 ∧ good (prs l)
  · rw [decide_eq_true h, if_pos rfl, if_pos h]
    exact rleast_loop h.2.2 h.1 h.2.1 1000001 k 1 (by omega) (by omega) (by omega) (by omega)
  · rw [decide_eq_false h, if_neg (by simp), if_neg h]
end Go.Proofs.Ytllnlmcofaomlaa.FixPure
namespace Go.Proofs.Ytllnlmcofaomlaa.QAc
open Go.RowKit Go.Proofs.YtllnlmcofaomlaaW.PrintWords Go.Proofs.YtllnlmcofaomlaaW.PrintLast Go.Proofs.YtllnlmcofaomlaaW.PrintMore Go.Proofs.Ytllnlmcofaomlaa.FixPure Go.Proofs.Ytllnlmcofaomlaa.FixMath
set_option linter.unusedVariables false
set_option linter.unusedSimpArgs false
def fix_Least.f (a0 : Int) (l1 : List (S41)) : Option (Int × Bool) := some (leastV a0 l1)
set_option maxHeartbeats 2000000 in
theorem least_no (a0 : Int) (A1 : Option Addr) (c1 : Nat) (l1 : List (S41)) (w : World) (hr1 : Kd.C k41 w A1 l1.length l1) (hc1 : l1.length ≤ c1) (h : fix_is.f a0 l1 = some false) :
    Calls Try.prog 29 #[.int .i64 a0, .slice A1 l1.length c1] w fun e w' => e = .returned (.tuple #[.int .i64 0, .bool false]) ∧ Below w.heap.size w w' := by
  have HR := Aside0.mk hr1
  have HC := Aside0.mk hc1
  have HI := Aside0.mk h
  clear hr1 hc1 h
  have HB := Aside0.mk (Below.refl w.heap.size w)
  go_enter Try.func29, Try.ntmps29
  go_wp2
  go_step3
  go_wp2_with (first | (go_at_call 42; (with_reducible refine (fix_is.calls a0 A1 c1 l1 false _ (Kd.C_below HR.out (by repeat (first | (with_reducible first | exact HB.out | apply below_alloc | apply pw_below_drewN | apply below_drew1) | exact HB.out))) HC.out HI.out).mono ?_); rintro e w' ⟨rfl, hb⟩; have HB2 := Aside0.mk (HB.out.trans (hb.mono HB.out.size)); clear hb; clear HB; have HB := HB2; clear HB2))
  (try rw [Exit.noGoto_ret])
  go_ret2
  exact ⟨rfl, HB.out⟩
set_option maxHeartbeats 4000000 in
set_option maxRecDepth 100000 in
theorem least_yes (a0 : Int) (A1 : Option Addr) (c1 : Nat) (l1 : List (S41)) (w : World) (hr1 : Kd.C k41 w A1 l1.length l1) (hc1 : l1.length ≤ c1) (h : fix_is.f a0 l1 = some true) (hsum : ∀ v, 0 ≤ v → v ≤ 1000000 → fix_sum.f (l1.length + 1) a0 l1 v = some (tot a0 (prs l1) v)) (r : Int × Bool) (hg : leastGo (tot a0 (prs l1)) 1000001 1 = r) :
    Calls Try.prog 29 #[.int .i64 a0, .slice A1 l1.length c1] w fun e w' => e = .returned (.tuple #[.int .i64 r.1, .bool r.2]) ∧ Below w.heap.size w w' := by
  have HR := Aside0.mk hr1
  have HC := Aside0.mk hc1
  have HI := Aside0.mk h
  have HM := Aside0.mk hsum
  have HG := Aside0.mk (show leastGo (tot a0 (prs l1)) (1000000 + 1) 1 = r from hg)
  clear hr1 hc1 h hsum hg
  have HB := Aside0.mk (Below.refl w.heap.size w)
  go_enter Try.func29, Try.ntmps29
  go_wp2
  refine wp_scope_jumps 0 (fun a' w' => Below w.heap.size w w' ∧ ∃ (v : Int) (n : Nat) (u7 u8 u9 u10 u11 u12 u13 u14 u15 u16 u17 u18 u19 u20 u21 u22 u23 u24 u25 u26 u27 : Value), a' = { tmps := #[.int .i64 a0, .slice A1 l1.length c1, undef, undef, .int .i64 0, .bool false, .int .i64 v, u7, u8, u9, u10, u11, u12, u13, u14, u15, u16, u17, u18, u19, u20, u21, u22, u23, u24, u25, u26, u27], defers := [] } ∧ Aside0 (1 ≤ v ∧ v ≤ 1000000) ∧ Aside0 (1000000 - v < n) ∧ Aside0 (leastGo (tot a0 (prs l1)) n v = r)) (fun a' _ => (1000001 - intOf (a'.tmps.getD 6 undef)).toNat) rfl ?_ ?_
  · have HV := Aside0.mk (show (1 : Int) ≤ 1000000 by omega)
    obtain ⟨n, hn⟩ : ∃ n, n = 1000000 := ⟨_, rfl⟩
    rw [← hn] at HG
    have HN0 := Aside0.mk hn
    clear hn
    have HT := Aside0.mk (show tot a0 (prs l1) 1 = tot a0 (prs l1) 1 from rfl)
    have HS := Aside0.mk (HM.out 1 (by omega) (by omega))
    generalize hs : tot a0 (prs l1) 1 = s at HS
    replace HT := Aside0.mk hs
    clear hs
    by_cases c1' : s = 1
    · have q1 : (s == 1) = true := by simp [c1']
      have e : r = (1, true) := by have := HG.out; unfold leastGo at this; rw [HT.out, if_pos c1'] at this; exact this.symm
      subst e
      clear c1'
      go_wp2_with (first | (go_at_call 42; (with_reducible refine (fix_is.calls a0 A1 c1 l1 true _ (Kd.C_below HR.out (by repeat (first | (with_reducible first | exact HB.out | apply below_alloc | apply pw_below_drewN | apply below_drew1) | exact HB.out))) HC.out HI.out).mono ?_); rintro e w' ⟨rfl, hb⟩; have HB2 := Aside0.mk (HB.out.trans (hb.mono HB.out.size)); clear hb; clear HB; have HB := HB2; clear HB2) | (go_at_call 43; (with_reducible refine (fix_sum.calls (l1.length + 1) a0 A1 c1 l1 (1) s _ (Kd.C_below HR.out HB.out) HC.out HS.out).mono ?_); rintro e w' ⟨rfl, hb⟩; have HB2 := Aside0.mk (HB.out.trans (hb.mono HB.out.size)); clear hb; clear HB; have HB := HB2; clear HB2))
      go_step3
      go_wp2_with (first | (go_at_call 42; (with_reducible refine (fix_is.calls a0 A1 c1 l1 true _ (Kd.C_below HR.out (by repeat (first | (with_reducible first | exact HB.out | apply below_alloc | apply pw_below_drewN | apply below_drew1) | exact HB.out))) HC.out HI.out).mono ?_); rintro e w' ⟨rfl, hb⟩; have HB2 := Aside0.mk (HB.out.trans (hb.mono HB.out.size)); clear hb; clear HB; have HB := HB2; clear HB2) | (go_at_call 43; (with_reducible refine (fix_sum.calls (l1.length + 1) a0 A1 c1 l1 (1) s _ (Kd.C_below HR.out HB.out) HC.out HS.out).mono ?_); rintro e w' ⟨rfl, hb⟩; have HB2 := Aside0.mk (HB.out.trans (hb.mono HB.out.size)); clear hb; clear HB; have HB := HB2; clear HB2))
      (try simp only [Exit.jump])
      go_ret2
      exact ⟨by first | rfl | (simp; done), HB.out⟩
    · have q1 : (s == 1) = false := by simpa using c1'
      by_cases c2' : s < 1
      · have q2 : decide (s < 1) = true := decide_eq_true c2'
        have e : r = (0, false) := by have := HG.out; unfold leastGo at this; rw [HT.out, if_neg c1', if_pos (Or.inl c2')] at this; exact this.symm
        subst e
        clear c1' c2'
        go_wp2_with (first | (go_at_call 42; (with_reducible refine (fix_is.calls a0 A1 c1 l1 true _ (Kd.C_below HR.out (by repeat (first | (with_reducible first | exact HB.out | apply below_alloc | apply pw_below_drewN | apply below_drew1) | exact HB.out))) HC.out HI.out).mono ?_); rintro e w' ⟨rfl, hb⟩; have HB2 := Aside0.mk (HB.out.trans (hb.mono HB.out.size)); clear hb; clear HB; have HB := HB2; clear HB2) | (go_at_call 43; (with_reducible refine (fix_sum.calls (l1.length + 1) a0 A1 c1 l1 (1) s _ (Kd.C_below HR.out HB.out) HC.out HS.out).mono ?_); rintro e w' ⟨rfl, hb⟩; have HB2 := Aside0.mk (HB.out.trans (hb.mono HB.out.size)); clear hb; clear HB; have HB := HB2; clear HB2))
        go_step3
        go_wp2_with (first | (go_at_call 42; (with_reducible refine (fix_is.calls a0 A1 c1 l1 true _ (Kd.C_below HR.out (by repeat (first | (with_reducible first | exact HB.out | apply below_alloc | apply pw_below_drewN | apply below_drew1) | exact HB.out))) HC.out HI.out).mono ?_); rintro e w' ⟨rfl, hb⟩; have HB2 := Aside0.mk (HB.out.trans (hb.mono HB.out.size)); clear hb; clear HB; have HB := HB2; clear HB2) | (go_at_call 43; (with_reducible refine (fix_sum.calls (l1.length + 1) a0 A1 c1 l1 (1) s _ (Kd.C_below HR.out HB.out) HC.out HS.out).mono ?_); rintro e w' ⟨rfl, hb⟩; have HB2 := Aside0.mk (HB.out.trans (hb.mono HB.out.size)); clear hb; clear HB; have HB := HB2; clear HB2))
        (try simp only [Exit.jump])
        go_ret2
        exact ⟨by first | rfl | (simp; done), HB.out⟩
      · have q2 : decide (s < 1) = false := decide_eq_false c2'
        by_cases c3' : 1000000 < s
        · have q3 : decide (1000000 < s) = true := decide_eq_true c3'
          have e : r = (0, false) := by have := HG.out; unfold leastGo at this; rw [HT.out, if_neg c1', if_pos (Or.inr c3')] at this; exact this.symm
          subst e
          clear c1' c2' c3'
          go_wp2_with (first | (go_at_call 42; (with_reducible refine (fix_is.calls a0 A1 c1 l1 true _ (Kd.C_below HR.out (by repeat (first | (with_reducible first | exact HB.out | apply below_alloc | apply pw_below_drewN | apply below_drew1) | exact HB.out))) HC.out HI.out).mono ?_); rintro e w' ⟨rfl, hb⟩; have HB2 := Aside0.mk (HB.out.trans (hb.mono HB.out.size)); clear hb; clear HB; have HB := HB2; clear HB2) | (go_at_call 43; (with_reducible refine (fix_sum.calls (l1.length + 1) a0 A1 c1 l1 (1) s _ (Kd.C_below HR.out HB.out) HC.out HS.out).mono ?_); rintro e w' ⟨rfl, hb⟩; have HB2 := Aside0.mk (HB.out.trans (hb.mono HB.out.size)); clear hb; clear HB; have HB := HB2; clear HB2))
          go_step3
          go_wp2_with (first | (go_at_call 42; (with_reducible refine (fix_is.calls a0 A1 c1 l1 true _ (Kd.C_below HR.out (by repeat (first | (with_reducible first | exact HB.out | apply below_alloc | apply pw_below_drewN | apply below_drew1) | exact HB.out))) HC.out HI.out).mono ?_); rintro e w' ⟨rfl, hb⟩; have HB2 := Aside0.mk (HB.out.trans (hb.mono HB.out.size)); clear hb; clear HB; have HB := HB2; clear HB2) | (go_at_call 43; (with_reducible refine (fix_sum.calls (l1.length + 1) a0 A1 c1 l1 (1) s _ (Kd.C_below HR.out HB.out) HC.out HS.out).mono ?_); rintro e w' ⟨rfl, hb⟩; have HB2 := Aside0.mk (HB.out.trans (hb.mono HB.out.size)); clear hb; clear HB; have HB := HB2; clear HB2))
          (try simp only [Exit.jump])
          go_ret2
          exact ⟨by first | rfl | (simp; done), HB.out⟩
        · have q3 : decide (1000000 < s) = false := decide_eq_false c3'
          have HN := Aside0.mk (show (1 < s ∧ s ≤ 1000000) ∧ leastGo (tot a0 (prs l1)) n s = r by refine ⟨by omega, ?_⟩; have := HG.out; unfold leastGo at this; rw [HT.out, if_neg c1', if_neg (by omega)] at this; exact this)
          clear c1' c2' c3'
          go_wp2_with (first | (go_at_call 42; (with_reducible refine (fix_is.calls a0 A1 c1 l1 true _ (Kd.C_below HR.out (by repeat (first | (with_reducible first | exact HB.out | apply below_alloc | apply pw_below_drewN | apply below_drew1) | exact HB.out))) HC.out HI.out).mono ?_); rintro e w' ⟨rfl, hb⟩; have HB2 := Aside0.mk (HB.out.trans (hb.mono HB.out.size)); clear hb; clear HB; have HB := HB2; clear HB2) | (go_at_call 43; (with_reducible refine (fix_sum.calls (l1.length + 1) a0 A1 c1 l1 (1) s _ (Kd.C_below HR.out HB.out) HC.out HS.out).mono ?_); rintro e w' ⟨rfl, hb⟩; have HB2 := Aside0.mk (HB.out.trans (hb.mono HB.out.size)); clear hb; clear HB; have HB := HB2; clear HB2))
          go_step3
          go_wp2_with (first | (go_at_call 42; (with_reducible refine (fix_is.calls a0 A1 c1 l1 true _ (Kd.C_below HR.out (by repeat (first | (with_reducible first | exact HB.out | apply below_alloc | apply pw_below_drewN | apply below_drew1) | exact HB.out))) HC.out HI.out).mono ?_); rintro e w' ⟨rfl, hb⟩; have HB2 := Aside0.mk (HB.out.trans (hb.mono HB.out.size)); clear hb; clear HB; have HB := HB2; clear HB2) | (go_at_call 43; (with_reducible refine (fix_sum.calls (l1.length + 1) a0 A1 c1 l1 (1) s _ (Kd.C_below HR.out HB.out) HC.out HS.out).mono ?_); rintro e w' ⟨rfl, hb⟩; have HB2 := Aside0.mk (HB.out.trans (hb.mono HB.out.size)); clear hb; clear HB; have HB := HB2; clear HB2))
          go_step3
          exact ⟨rfl, HB.out, s, n, _, _, _, _, _, _, _, _, _, _, _, _, _, _, _, _, _, _, _, _, _, rfl, ⟨by have := HN.out.1; omega⟩, ⟨by have := HN0.out; have := HN.out.1; omega⟩, ⟨HN.out.2⟩⟩
  · rintro a' w' ⟨hb, v, n, u7, u8, u9, u10, u11, u12, u13, u14, u15, u16, u17, u18, u19, u20, u21, u22, u23, u24, u25, u26, u27, rfl, HV, HV2, HG⟩
    have HB := Aside0.mk hb
    clear hb
    obtain ⟨n, rfl⟩ : ∃ m, n = m + 1 := ⟨n - 1, by have := HV.out; have := HV2.out; omega⟩
    have HT := Aside0.mk (show tot a0 (prs l1) v = tot a0 (prs l1) v from rfl)
    have HS := Aside0.mk (HM.out v (by have := HV.out; omega) (HV.out.2))
    generalize hs : tot a0 (prs l1) v = s at HS
    replace HT := Aside0.mk hs
    clear hs
    by_cases c1' : s = v
    · have q1 : (s == v) = true := by simp [c1']
      have e : r = (v, true) := by have := HG.out; unfold leastGo at this; rw [HT.out, if_pos c1'] at this; exact this.symm
      subst e
      clear c1'
      go_wp2_with (first | (go_at_call 43; (with_reducible refine (fix_sum.calls (l1.length + 1) a0 A1 c1 l1 (v) s _ (Kd.C_below HR.out HB.out) HC.out HS.out).mono ?_); rintro e w' ⟨rfl, hb⟩; have HB2 := Aside0.mk (HB.out.trans (hb.mono HB.out.size)); clear hb; clear HB; have HB := HB2; clear HB2))
      (try simp only [Exit.jump])
      go_ret2
      exact ⟨by first | rfl | (simp; done), HB.out⟩
    · have q1 : (s == v) = false := by simpa using c1'
      by_cases c2' : s < v
      · have q2 : decide (s < v) = true := decide_eq_true c2'
        have e : r = (0, false) := by have := HG.out; unfold leastGo at this; rw [HT.out, if_neg c1', if_pos (Or.inl c2')] at this; exact this.symm
        subst e
        clear c1' c2'
        go_wp2_with (first | (go_at_call 43; (with_reducible refine (fix_sum.calls (l1.length + 1) a0 A1 c1 l1 (v) s _ (Kd.C_below HR.out HB.out) HC.out HS.out).mono ?_); rintro e w' ⟨rfl, hb⟩; have HB2 := Aside0.mk (HB.out.trans (hb.mono HB.out.size)); clear hb; clear HB; have HB := HB2; clear HB2))
        (try simp only [Exit.jump])
        go_ret2
        exact ⟨by first | rfl | (simp; done), HB.out⟩
      · have q2 : decide (s < v) = false := decide_eq_false c2'
        by_cases c3' : 1000000 < s
        · have q3 : decide (1000000 < s) = true := decide_eq_true c3'
          have e : r = (0, false) := by have := HG.out; unfold leastGo at this; rw [HT.out, if_neg c1', if_pos (Or.inr c3')] at this; exact this.symm
          subst e
          clear c1' c2' c3'
          go_wp2_with (first | (go_at_call 43; (with_reducible refine (fix_sum.calls (l1.length + 1) a0 A1 c1 l1 (v) s _ (Kd.C_below HR.out HB.out) HC.out HS.out).mono ?_); rintro e w' ⟨rfl, hb⟩; have HB2 := Aside0.mk (HB.out.trans (hb.mono HB.out.size)); clear hb; clear HB; have HB := HB2; clear HB2))
          (try simp only [Exit.jump])
          go_ret2
          exact ⟨by first | rfl | (simp; done), HB.out⟩
        · have q3 : decide (1000000 < s) = false := decide_eq_false c3'
          have HN := Aside0.mk (show (v < s ∧ s ≤ 1000000) ∧ leastGo (tot a0 (prs l1)) n s = r by refine ⟨by omega, ?_⟩; have := HG.out; unfold leastGo at this; rw [HT.out, if_neg c1', if_neg (by omega)] at this; exact this)
          clear c1' c2' c3'
          go_wp2_with (first | (go_at_call 43; (with_reducible refine (fix_sum.calls (l1.length + 1) a0 A1 c1 l1 (v) s _ (Kd.C_below HR.out HB.out) HC.out HS.out).mono ?_); rintro e w' ⟨rfl, hb⟩; have HB2 := Aside0.mk (HB.out.trans (hb.mono HB.out.size)); clear hb; clear HB; have HB := HB2; clear HB2))
          go_step3
          exact ⟨rfl, ⟨HB.out, s, n, _, _, _, _, _, _, _, _, _, _, _, _, _, _, _, _, _, _, _, _, _, rfl, ⟨by have := HN.out.1; have := HV.out; omega⟩, ⟨by have := HV.out; have := HV2.out; have := HN.out.1; omega⟩, ⟨HN.out.2⟩⟩, by have := HN.out.1; have := HV.out; simp [intOf]; omega⟩
theorem fix_Least.calls (a0 : Int) (A1 : Option Addr) (c1 : Nat) (l1 : List (S41)) (r1 : Int) (r2 : Bool) (w : World) (hr1 : Kd.C k41 w A1 l1.length l1) (hc1 : l1.length ≤ c1) (h : fix_Least.f a0 l1 = some (r1, r2)) :
    Calls Try.prog 29 #[.int .i64 a0, .slice A1 l1.length c1] w fun e w' => e = .returned (.tuple #[.int .i64 r1, .bool r2]) ∧ Below w.heap.size w w' := by
  have e : leastV a0 l1 = (r1, r2) := Option.some.inj h
  unfold leastV at e
  by_cases g : 0 ≤ a0 ∧ a0 ≤ 1000000 ∧ good (prs l1)
  · rw [if_pos g] at e
    have := least_yes a0 A1 c1 l1 w hr1 hc1 (by rw [is_fix, decide_eq_true g]) (fun v h0 h1 => sum_eq g.2.2 g.1 g.2.1 h0 h1 _ (by omega)) (r1, r2) e
    exact this
  · rw [if_neg g] at e
    obtain ⟨rfl, rfl⟩ := Prod.mk.inj e
    exact least_no a0 A1 c1 l1 w hr1 hc1 (by rw [is_fix, decide_eq_false g])
end Go.Proofs.Ytllnlmcofaomlaa.QAc
namespace Go.Proofs.Ytllnlmcofaomlaa.QAc
open Go.RowKit Go.Proofs.YtllnlmcofaomlaaW.PrintWords Go.Proofs.YtllnlmcofaomlaaW.PrintLast Go.Proofs.YtllnlmcofaomlaaW.PrintMore
attribute [local go_sem] max2_int min2_int max_two min_two max_three min_three max_four min_four   -- for this text's walks alone
set_option linter.unusedVariables false
set_option linter.unusedSimpArgs false
def active_Of.j0 : Nat → Int → Int → Bool → Int → List (S38) → Option (Int × Bool)
  | 0, _, _, _, _, _ => none
  | k + 1, x1, x2, x16, x198000, x198001 => if x16 = true then (some (0, false)) else ((active_Loads.f k x198000 x198001 x1).bind fun t198 => (if 0 ≤ x1 then (if x1 < (x198001.length : Int) then ((task_Work.f k ((rd_T38 x198001 x1).f0) ((rd_T38 x198001 x1).f1) ((rd_T38 x198001 x1).f2) ((rd_T38 x198001 x1).f3) ((rd_T38 x198001 x1).f4) ((rd_T38 x198001 x1).f5) ((rd_T38 x198001 x1).f6) ((rd_T38 x198001 x1).f7) ((rd_T38 x198001 x1).f8)).bind fun t203 => (if t198.length < 8796093022208 then ((fix_Least.f x2 (t198 ++ [(⟨(rd_T38 x198001 x1).f1, t203⟩ : S41)])).bind fun bt207 => (some (bt207.1, bt207.2))) else (none))) else (none)) else (none)))
def active_Of.f (k : Nat) (a0_0 : Int) (l0_1 : List (S38)) (a1 : Int) (a2 : Int) : Option (Int × Bool) := if a1 < 0 then (active_Of.j0 k a1 a2 true a0_0 l0_1) else (active_Of.j0 k a1 a2 (decide (a1 ≥ (l0_1.length : Int))) a0_0 l0_1)
theorem active_Of.mono_l : ∀ k, (∀ y0 y1 y2 y3 y4, LeO (active_Of.j0 k y0 y1 y2 y3 y4) (active_Of.j0 (k + 1) y0 y1 y2 y3 y4))
  | 0 => fun _ _ _ _ _ r h => by simp [active_Of.j0] at h
  | k + 1 => by
    have ih0 := active_Of.mono_l k
    · intro y0 y1 y2 y3 y4
      unfold active_Of.j0
      repeat' first
      | (with_reducible exact ih0 _ _ _ _ _)
      | (with_reducible exact active_Loads.mono _ _ _ _)
      | (with_reducible exact task_Work.mono _ _ _ _ _ _ _ _ _ _)
      | (with_reducible exact LeO.refl _)
      | (with_reducible exact LeO.none _)
      | (with_reducible refine LeO.ite ?_ ?_)
      | (with_reducible refine LeO.bind ?_ (fun _ => ?_))
      | exact ih0 _ _ _ _ _
      | exact active_Loads.mono _ _ _ _
      | exact task_Work.mono _ _ _ _ _ _ _ _ _ _
      | exact LeO.none _
      | refine LeO.ite ?_ ?_
      | refine LeO.bind ?_ (fun _ => ?_)
theorem active_Of.mono : ∀ a0 a1 a2 a3 k, LeO (active_Of.f k a0 a1 a2 a3) (active_Of.f (k + 1) a0 a1 a2 a3) := by
  intro a0 a1 a2 a3 k
  have ih0 := active_Of.mono_l k
  unfold active_Of.f
  repeat' first
      | (with_reducible exact ih0 _ _ _ _ _)
      | (with_reducible exact active_Loads.mono _ _ _ _)
      | (with_reducible exact task_Work.mono _ _ _ _ _ _ _ _ _ _)
      | (with_reducible exact LeO.refl _)
      | (with_reducible exact LeO.none _)
      | (with_reducible refine LeO.ite ?_ ?_)
      | (with_reducible refine LeO.bind ?_ (fun _ => ?_))
      | exact ih0 _ _ _ _ _
      | exact active_Loads.mono _ _ _ _
      | exact task_Work.mono _ _ _ _ _ _ _ _ _ _
      | exact LeO.none _
      | refine LeO.ite ?_ ?_
      | refine LeO.bind ?_ (fun _ => ?_)
def active_Of.T3 : Bool × List (List Nat × List Nat) := (true, [([], []), ([], []), ([], []), ([1, 2], [1, 2]), ([], []), ([4], [4]), ([], []), ([5, 6], [5, 6]), ([7], [7]), ([8], [8]), ([], []), ([10], [10]), ([], []), ([11, 12], [11, 12]), ([13], [13]), ([14, 3], [14]), ([9, 15], [9, 15]), ([16], [16]), ([3, 17, 15], [3, 17]), ([0, 18, 18], [0, 18]), ([19], [19]), ([19], [19]), ([20, 19, 0, 1, 2, 3, 4, 5, 6, 7, 8, 9, 10, 11, 12, 13, 14, 15, 16, 17, 18, 19, 20, 21], [20]), ([21, 22, 0, 1, 2, 3, 4, 5, 6, 7, 8, 9, 10, 11, 12, 13, 14, 15, 16, 17, 18, 19, 20, 21, 22], [21])])
def active_Of.B3 : List Nat := [0, 0, 0, 6, 0, 16, 0, 112, 240, 496, 0, 1024, 0, 7168, 15360, 31758, 65534, 131070, 262142, 524287, 1048575, 1048575, 4194303, 8388607]
theorem active_Of.tab3 : rtab .any (opsOf Try.f13 3) = active_Of.T3 := by kernel_rfl
theorem active_Of.bits3 : waitsOk active_Of.T3.2 active_Of.B3 = true := by kernel_rfl
set_option maxHeartbeats 8000000 in
set_option maxRecDepth 100000 in
theorem active_Of.calls (k : Nat) (a0_0 : Int) (A0_1 : Option Addr) (c0_1 : Nat) (l0_1 : List (S38)) (a1 : Int) (a2 : Int) (r1 : Int) (r2 : Bool) (w : World) (hr0_1 : Kd.C k38 w A0_1 l0_1.length l0_1) (hc0_1 : l0_1.length ≤ c0_1) (h : active_Of.f k a0_0 l0_1 a1 a2 = some (r1, r2)) :
    Calls Try.prog 13 #[.agg #[.int .i64 a0_0, .slice A0_1 l0_1.length c0_1], .int .i64 a1, .int .i64 a2] w fun e w' => e = .returned (.tuple #[.int .i64 r1, .bool r2]) ∧ Below w.heap.size w w' := by
  have hu24 := Try.underlying24
  have hu38 := Try.underlying38
  have hu41 := Try.underlying41
  have HR0_1 := Aside0.mk hr0_1
  have HC0_1 := Aside0.mk hc0_1
  clear hr0_1 hc0_1
  have HB := Aside0.mk (Below.refl w.heap.size w)
  have H : (if a1 < 0 then (active_Of.j0 k a1 a2 true a0_0 l0_1) else (active_Of.j0 k a1 a2 (decide (a1 ≥ (l0_1.length : Int))) a0_0 l0_1)) = some (r1, r2) := h
  clear h
  have HC4 := Aside0.mk H
  clear H
  go_enter Try.func13, Try.ntmps13
  go_upto_region 1 with (first | ((with_reducible refine gate_dst (N := 3) rfl ?_); (try (refine gate_guard (by rfl) ?_; dsimp only)); refine box_event ?hg (N := 3) ?hd (cs := #[.int .i64 a0_0, .slice A0_1 l0_1.length c0_1]) (t := 24) ?hr ?_; (case hd => rfl); (case hg => rfl); (case hr => first | (go_simp; done) | (go_simp; rfl)); intro gb197 hg w5 hbox hb; have n0_ := Aside0.mk (below_step (by repeat (first | (with_reducible first | exact HB.out | apply below_alloc | apply pw_below_drewN | apply below_drew1) | exact HB.out)) hb); have n1_ := Aside0.mk (hbox); have n2_ := Aside0.mk ((by rw [hg]; exact (below_size (by repeat (first | (with_reducible first | exact HB.out | apply below_alloc | apply pw_below_drewN | apply below_drew1) | exact HB.out))) : w.heap.size ≤ gb197)); have n3_ := Aside0.mk ((by rw [hg]; exact (below_size (by repeat (first | (with_reducible first | exact HB.out | apply below_alloc | apply pw_below_drewN | apply below_drew1) | exact HB.out))) : w.heap.size ≤ gb197)); clear HB; have HB := n0_; have BK197 := n1_; have GW197 := n2_; have GE197 := n3_; clear n0_ n1_ n2_ n3_; clear hb hbox hg))
  (try simp only [Act.put, List.setIfInBounds_toArray, List.set_cons_zero, List.set_cons_succ])
  go_cut [16] (fun v16 wc => ∃ (kq : Nat) (x16_3 : Bool), v16 = .bool x16_3 ∧ Aside0 (active_Of.j0 kq a1 a2 x16_3 a0_0 l0_1 = some (r1, r2)) ∧ Aside0 (kq ≤ k) ∧ Aside0 (wc.heap[gb197]? = some (.cells #[.int .i64 a0_0, (.slice A0_1 l0_1.length c0_1)] 24 (0, 0))) ∧ Aside0 (Below w.heap.size w wc))
  case first =>
    have H := HC4.out
    clear HC4
    by_cases c6 : a1 < 0
    · rw [if_pos c6] at H
      have c6b0 : decide (a1 < 0) = true := decide_eq_true c6
      clear c6
      (first | rw [c6b0] | (simp only [i64_w, i32_w]; rw [c6b0]) | skip)
      have H' := Aside0.mk H
      clear H
      go_wp2
      go_meet
      case rel => exact ⟨_, (true), (by first | rfl | (simp; done) | (simp [*]; done)), H', ⟨by first | omega | exact Nat.le_refl _⟩, ⟨by (with_reducible repeat (first | refine blk_drewN ?_ _ | refine blk_drew ?_ | refine blk_alloc ?_ _)); exact BK197.out⟩, ⟨by repeat (first | (with_reducible first | exact HB.out | apply below_alloc | apply pw_below_drewN | apply below_drew1 | refine below_set ?_ GE197.out) | exact HB.out)⟩⟩
    · rw [if_neg c6] at H
      have c6b0 : decide (a1 < 0) = false := decide_eq_false c6
      clear c6
      (first | rw [c6b0] | (simp only [i64_w, i32_w]; rw [c6b0]) | skip)
      have H' := Aside0.mk H
      clear H
      have hcz7_0 : w5.cell? ⟨gb197, 0, none⟩ = some (.int .i64 a0_0) := (blk_cell BK197.out 0).trans rfl
      have hcz7_1 : w5.cell? ⟨gb197, 1, none⟩ = some (.slice A0_1 l0_1.length c0_1) := (blk_cell BK197.out 1).trans rfl
      have hfz7_0 := blk_frozen BK197.out 0
      have hfz7_1 := blk_frozen BK197.out 1
      go_wp2
      go_meet
      case rel => exact ⟨_, (decide (a1 ≥ (l0_1.length : Int))), (by first | rfl | (simp; done) | (simp [*]; done)), H', ⟨by first | omega | exact Nat.le_refl _⟩, ⟨by (with_reducible repeat (first | refine blk_drewN ?_ _ | refine blk_drew ?_ | refine blk_alloc ?_ _)); exact BK197.out⟩, ⟨by repeat (first | (with_reducible first | exact HB.out | apply below_alloc | apply pw_below_drewN | apply below_drew1 | refine below_set ?_ GE197.out) | exact HB.out)⟩⟩
  case rest =>
    clear HC4
    try clear c1
    try clear p2
    try clear c6
    try clear c6b0
    try clear hcz7_0
    try clear hcz7_1
    try clear hfz7_0
    try clear hfz7_1
    obtain ⟨kq, x16_3, rfl, HA, HJ3, BK197, HB⟩ := hcut
    cases kq with
    | zero => exact absurd HA.out (by simp [active_Of.j0])
    | succ kj3 =>
      have H := HA.out
      clear HA
      simp only [active_Of.j0] at H
      by_cases c8 : x16_3 = true
      · subst c8
        have H1 : (some (0, false)) = some (r1, r2) := by rw [if_pos rfl] at H; exact H
        clear H
        have H := H1
        clear H1
        simp only [Option.some.injEq, Prod.mk.injEq] at H
        obtain ⟨rfl, rfl⟩ := H
        go_wp2
        go_ret2
        exact ⟨by first | rfl | (simp [errW_none, errW_some] <;> rfl) | (simp [*, errW_none, errW_some] <;> rfl), by repeat (first | (with_reducible first | exact HB.out | apply below_alloc | apply pw_below_drewN | apply below_drew1 | refine below_set ?_ GE197.out) | exact HB.out)⟩
      · replace c8 := Bool.eq_false_iff.mpr c8
        subst c8
        have H1 : ((active_Loads.f kj3 a0_0 l0_1 a1).bind fun t198 => (if 0 ≤ a1 then (if a1 < (l0_1.length : Int) then ((task_Work.f kj3 ((rd_T38 l0_1 a1).f0) ((rd_T38 l0_1 a1).f1) ((rd_T38 l0_1 a1).f2) ((rd_T38 l0_1 a1).f3) ((rd_T38 l0_1 a1).f4) ((rd_T38 l0_1 a1).f5) ((rd_T38 l0_1 a1).f6) ((rd_T38 l0_1 a1).f7) ((rd_T38 l0_1 a1).f8)).bind fun t203 => (if t198.length < 8796093022208 then ((fix_Least.f a2 (t198 ++ [(⟨(rd_T38 l0_1 a1).f1, t203⟩ : S41)])).bind fun bt207 => (some (bt207.1, bt207.2))) else (none))) else (none)) else (none))) = some (r1, r2) := by rw [if_neg (show ¬ (false = true) by decide)] at H; exact H
        clear H
        have H := H1
        clear H1
        replace H := Option.bind_eq_some_iff.mp H
        obtain ⟨t198, A90, H⟩ := H
        replace H : (if 0 ≤ a1 then (if a1 < (l0_1.length : Int) then ((task_Work.f kj3 ((rd_T38 l0_1 a1).f0) ((rd_T38 l0_1 a1).f1) ((rd_T38 l0_1 a1).f2) ((rd_T38 l0_1 a1).f3) ((rd_T38 l0_1 a1).f4) ((rd_T38 l0_1 a1).f5) ((rd_T38 l0_1 a1).f6) ((rd_T38 l0_1 a1).f7) ((rd_T38 l0_1 a1).f8)).bind fun t203 => (if t198.length < 8796093022208 then ((fix_Least.f a2 (t198 ++ [(⟨(rd_T38 l0_1 a1).f1, t203⟩ : S41)])).bind fun bt207 => (some (bt207.1, bt207.2))) else (none))) else (none)) else (none)) = some (r1, r2) := H
        have A9 := Aside0.mk A90
        clear A90
        by_cases c10 : 0 ≤ a1
        · rw [if_pos c10] at H
          have c10b0 : decide (0 ≤ a1) = true := decide_eq_true c10
          clear c10
          by_cases c11 : a1 < (l0_1.length : Int)
          · rw [if_pos c11] at H
            have c11b0 : decide (a1 < (l0_1.length : Int)) = true := decide_eq_true c11
            clear c11
            replace H := Option.bind_eq_some_iff.mp H
            obtain ⟨t203, A120, H⟩ := H
            replace H : (if t198.length < 8796093022208 then ((fix_Least.f a2 (t198 ++ [(⟨(rd_T38 l0_1 a1).f1, t203⟩ : S41)])).bind fun bt207 => (some (bt207.1, bt207.2))) else (none)) = some (r1, r2) := H
            have A12 := Aside0.mk A120
            clear A120
            by_cases c13 : t198.length < 8796093022208
            · rw [if_pos c13] at H
              have LMc13 := Aside0.mk c13
              clear c13
              obtain ⟨y204, hy204⟩ : ∃ y_ : List (S41), y_ = (t198 ++ [(⟨(rd_T38 l0_1 a1).f1, t203⟩ : S41)]) := ⟨_, rfl⟩
              replace H : ((fix_Least.f a2 y204).bind fun bt207 => (some (bt207.1, bt207.2))) = some (r1, r2) := by first | (rw [hy204]; with_reducible exact H) | (have H2_ := (Option.bind_some _ _).symm.trans H; rw [hy204]; with_reducible exact H2_) | (have H2_ := (Option.bind_some _ _).symm.trans H; with_reducible exact H2_) | with_reducible exact H | (rw [hy204]; exact H) | exact H
              have Ny204 := Aside0.mk hy204
              clear hy204
              replace H := Option.bind_eq_some_iff.mp H
              obtain ⟨⟨t207, t208⟩, A140, H⟩ := H
              replace H : (some (t207, t208)) = some (r1, r2) := H
              have A14 := Aside0.mk A140
              clear A140
              simp only [Option.some.injEq, Prod.mk.injEq] at H
              obtain ⟨rfl, rfl⟩ := H
              try go_wp2
              have n0_ := Aside0.mk (blk_drew BK197.out)
              have n1_ := Aside0.mk (below_drew1 HB.out)
              clear BK197
              clear HB
              have BK197 := n0_
              have HB := n1_
              clear n0_ n1_
              have p201 : 0 ≤ (a1 : Int) := of_decide_eq_true (by first | (with_reducible assumption) | assumption)
              have q201 : a1 < (l0_1.length : Int) := of_decide_eq_true (by first | (with_reducible assumption) | assumption)
              obtain ⟨ad201, A201_6, c201_6, e201, hx201_0, hx201_1, hx201_2, hx201_3, hx201_4, hx201_5, hx201_6, hx201_7, hx201_8, hl201_6, hi201_6⟩ := at_T38 HR0_1.out a1 p201 q201
              have hw201_8 := hx201_8
              have hw201_7 := hx201_7
              have hw201_6 := hx201_6
              have hw201_5 := hx201_5
              have hw201_4 := hx201_4
              have hw201_3 := hx201_3
              have hw201_2 := hx201_2
              have hw201_1 := hx201_1
              have hw201_0 := hx201_0
              cases e201
              replace hx201_0 := (HB.out.cell (World.block_lt_of_cell? w _ hx201_0)).trans hx201_0
              replace hx201_1 := (HB.out.cell (World.block_lt_of_cell? w _ hx201_1)).trans hx201_1
              replace hx201_2 := (HB.out.cell (World.block_lt_of_cell? w _ hx201_2)).trans hx201_2
              replace hx201_3 := (HB.out.cell (World.block_lt_of_cell? w _ hx201_3)).trans hx201_3
              replace hx201_4 := (HB.out.cell (World.block_lt_of_cell? w _ hx201_4)).trans hx201_4
              replace hx201_5 := (HB.out.cell (World.block_lt_of_cell? w _ hx201_5)).trans hx201_5
              replace hx201_6 := (HB.out.cell (World.block_lt_of_cell? w _ hx201_6)).trans hx201_6
              replace hx201_7 := (HB.out.cell (World.block_lt_of_cell? w _ hx201_7)).trans hx201_7
              replace hx201_8 := (HB.out.cell (World.block_lt_of_cell? w _ hx201_8)).trans hx201_8
              have HR201_6 := Aside0.mk hi201_6
              have HC201_6 := Aside0.mk hl201_6
              clear hi201_6 hl201_6
              replace p201 := eq_true p201
              replace q201 := eq_true q201
              have p202 : 0 ≤ (a1 : Int) := of_decide_eq_true (by first | (with_reducible assumption) | assumption)
              have q202 : a1 < (l0_1.length : Int) := of_decide_eq_true (by first | (with_reducible assumption) | assumption)
              obtain ⟨ad202, A202_6, c202_6, e202, hx202_0, hx202_1, hx202_2, hx202_3, hx202_4, hx202_5, hx202_6, hx202_7, hx202_8, hl202_6, hi202_6⟩ := at_T38 HR0_1.out a1 p202 q202
              have hw202_8 := hx202_8
              have hw202_7 := hx202_7
              have hw202_6 := hx202_6
              have hw202_5 := hx202_5
              have hw202_4 := hx202_4
              have hw202_3 := hx202_3
              have hw202_2 := hx202_2
              have hw202_1 := hx202_1
              have hw202_0 := hx202_0
              obtain rfl : ad201 = ad202 := (by injection e202)
              replace hx202_0 := (HB.out.cell (World.block_lt_of_cell? w _ hx202_0)).trans hx202_0
              replace hx202_1 := (HB.out.cell (World.block_lt_of_cell? w _ hx202_1)).trans hx202_1
              replace hx202_2 := (HB.out.cell (World.block_lt_of_cell? w _ hx202_2)).trans hx202_2
              replace hx202_3 := (HB.out.cell (World.block_lt_of_cell? w _ hx202_3)).trans hx202_3
              replace hx202_4 := (HB.out.cell (World.block_lt_of_cell? w _ hx202_4)).trans hx202_4
              replace hx202_5 := (HB.out.cell (World.block_lt_of_cell? w _ hx202_5)).trans hx202_5
              replace hx202_6 := (HB.out.cell (World.block_lt_of_cell? w _ hx202_6)).trans hx202_6
              replace hx202_7 := (HB.out.cell (World.block_lt_of_cell? w _ hx202_7)).trans hx202_7
              replace hx202_8 := (HB.out.cell (World.block_lt_of_cell? w _ hx202_8)).trans hx202_8
              have HR202_6 := Aside0.mk hi202_6
              have HC202_6 := Aside0.mk hl202_6
              clear hi202_6 hl202_6
              replace p202 := eq_true p202
              replace q202 := eq_true q202
              have ea_ := Option.some.inj (hx201_6.symm.trans hx202_6)
              injection ea_ with ea_ en_ ec_
              subst ea_
              subst ec_
              clear en_
              refine start_ (n := 24) (S := fun w' => w'.cell? ⟨gb197, 0, none⟩ = some (.int .i64 a0_0) ∧ w'.cell? ⟨gb197, 1, none⟩ = some (.slice (some ad201) l0_1.length c0_1) ∧ w'.cell? (ad201.add ((a1).toNat * 9)) = some (.string ((rd_T38 l0_1 a1).f0)) ∧ w'.cell? ⟨(ad201.add ((a1).toNat * 9)).block, (ad201.add ((a1).toNat * 9)).off + 1, none⟩ = some (.int .i64 ((rd_T38 l0_1 a1).f1)) ∧ w'.cell? ⟨(ad201.add ((a1).toNat * 9)).block, (ad201.add ((a1).toNat * 9)).off + 2, none⟩ = some (.int .i64 ((rd_T38 l0_1 a1).f2)) ∧ w'.cell? ⟨(ad201.add ((a1).toNat * 9)).block, (ad201.add ((a1).toNat * 9)).off + 3, none⟩ = some (.int .i64 ((rd_T38 l0_1 a1).f3)) ∧ w'.cell? ⟨(ad201.add ((a1).toNat * 9)).block, (ad201.add ((a1).toNat * 9)).off + 4, none⟩ = some (.int .i64 ((rd_T38 l0_1 a1).f4)) ∧ w'.cell? ⟨(ad201.add ((a1).toNat * 9)).block, (ad201.add ((a1).toNat * 9)).off + 5, none⟩ = some (.int .i64 ((rd_T38 l0_1 a1).f5)) ∧ w'.cell? ⟨(ad201.add ((a1).toNat * 9)).block, (ad201.add ((a1).toNat * 9)).off + 6, none⟩ = some (.slice A201_6 ((rd_T38 l0_1 a1).f6).length c201_6) ∧ w'.cell? ⟨(ad201.add ((a1).toNat * 9)).block, (ad201.add ((a1).toNat * 9)).off + 7, none⟩ = some (.int .u64 ((rd_T38 l0_1 a1).f7)) ∧ w'.cell? ⟨(ad201.add ((a1).toNat * 9)).block, (ad201.add ((a1).toNat * 9)).off + 8, none⟩ = some (.int .u64 ((rd_T38 l0_1 a1).f8)) ∧ w'.cell? (ad201.add ((a1).toNat * 9)) = some (.string ((rd_T38 l0_1 a1).f0)) ∧ w'.cell? ⟨(ad201.add ((a1).toNat * 9)).block, (ad201.add ((a1).toNat * 9)).off + 1, none⟩ = some (.int .i64 ((rd_T38 l0_1 a1).f1)) ∧ w'.cell? ⟨(ad201.add ((a1).toNat * 9)).block, (ad201.add ((a1).toNat * 9)).off + 2, none⟩ = some (.int .i64 ((rd_T38 l0_1 a1).f2)) ∧ w'.cell? ⟨(ad201.add ((a1).toNat * 9)).block, (ad201.add ((a1).toNat * 9)).off + 3, none⟩ = some (.int .i64 ((rd_T38 l0_1 a1).f3)) ∧ w'.cell? ⟨(ad201.add ((a1).toNat * 9)).block, (ad201.add ((a1).toNat * 9)).off + 4, none⟩ = some (.int .i64 ((rd_T38 l0_1 a1).f4)) ∧ w'.cell? ⟨(ad201.add ((a1).toNat * 9)).block, (ad201.add ((a1).toNat * 9)).off + 5, none⟩ = some (.int .i64 ((rd_T38 l0_1 a1).f5)) ∧ w'.cell? ⟨(ad201.add ((a1).toNat * 9)).block, (ad201.add ((a1).toNat * 9)).off + 6, none⟩ = some (.slice A201_6 ((rd_T38 l0_1 a1).f6).length c201_6) ∧ w'.cell? ⟨(ad201.add ((a1).toNat * 9)).block, (ad201.add ((a1).toNat * 9)).off + 7, none⟩ = some (.int .u64 ((rd_T38 l0_1 a1).f7)) ∧ w'.cell? ⟨(ad201.add ((a1).toNat * 9)).block, (ad201.add ((a1).toNat * 9)).off + 8, none⟩ = some (.int .u64 ((rd_T38 l0_1 a1).f8))) (ds := []) #[false, false, false, false, false, false, false, false, false, false, false, false, false, false, false, false, false, false, false, false, false, false, false, false] (by kernel_rfl) rfl rfl ⟨(blk_cell BK197.out 0).trans rfl, (blk_cell BK197.out 1).trans rfl, ((HB.out.cell (World.block_lt_of_cell? w _ hw201_0)).trans hw201_0), ((HB.out.cell (World.block_lt_of_cell? w _ hw201_1)).trans hw201_1), ((HB.out.cell (World.block_lt_of_cell? w _ hw201_2)).trans hw201_2), ((HB.out.cell (World.block_lt_of_cell? w _ hw201_3)).trans hw201_3), ((HB.out.cell (World.block_lt_of_cell? w _ hw201_4)).trans hw201_4), ((HB.out.cell (World.block_lt_of_cell? w _ hw201_5)).trans hw201_5), ((HB.out.cell (World.block_lt_of_cell? w _ hw201_6)).trans hw201_6), ((HB.out.cell (World.block_lt_of_cell? w _ hw201_7)).trans hw201_7), ((HB.out.cell (World.block_lt_of_cell? w _ hw201_8)).trans hw201_8), ((HB.out.cell (World.block_lt_of_cell? w _ hw202_0)).trans hw202_0), ((HB.out.cell (World.block_lt_of_cell? w _ hw202_1)).trans hw202_1), ((HB.out.cell (World.block_lt_of_cell? w _ hw202_2)).trans hw202_2), ((HB.out.cell (World.block_lt_of_cell? w _ hw202_3)).trans hw202_3), ((HB.out.cell (World.block_lt_of_cell? w _ hw202_4)).trans hw202_4), ((HB.out.cell (World.block_lt_of_cell? w _ hw202_5)).trans hw202_5), ((HB.out.cell (World.block_lt_of_cell? w _ hw202_6)).trans hw202_6), ((HB.out.cell (World.block_lt_of_cell? w _ hw202_7)).trans hw202_7), ((HB.out.cell (World.block_lt_of_cell? w _ hw202_8)).trans hw202_8)⟩ (fun hHeld => ?_); refine with_tabW active_Of.tab3 active_Of.bits3 (fun HT_ HW_ => ?_)
              generalize wc.drew = w15 at BK197 HB HR201_6 HR202_6 hx201_0 hx201_1 hx201_2 hx201_3 hx201_4 hx201_5 hx201_6 hx201_7 hx201_8 hx202_0 hx202_1 hx202_2 hx202_3 hx202_4 hx202_5 hx202_6 hx202_7 hx202_8 hHeld ⊢
              refine pure_ (i := 0) (N := some 17) (v := ?_) (a' := ?_) #[true, false, false, false, false, false, false, false, false, false, false, false, false, false, false, false, false, false, false, false, false, false, false, false] rfl rfl (any_of HT_.out (by kernel_rfl)) (fun _ _ _ h => h) (Or.inl ⟨by rfl, ?_⟩) ?_ ?_
              rotate_left
              · intro w'
                go_simp
                with_reducible rfl
              rotate_left
              · simp only [Act.put, List.setIfInBounds_toArray, List.set_cons_zero, List.set_cons_succ, i64_w, i32_w]
                rfl
              refine pure_ (i := 2) (N := some 19) (v := ?_) (a' := ?_) #[true, false, true, false, false, false, false, false, false, false, false, false, false, false, false, false, false, false, false, false, false, false, false, false] rfl rfl (any_of HT_.out (by kernel_rfl)) (fun _ _ _ h => h) (Or.inl ⟨by rfl, ?_⟩) ?_ ?_
              rotate_left
              · intro w'
                go_simp
                with_reducible rfl
              rotate_left
              · simp only [Act.put, List.setIfInBounds_toArray, List.set_cons_zero, List.set_cons_succ, i64_w, i32_w]
                rfl
              refine pure_ (i := 4) (N := some 21) (v := ?_) (a' := ?_) #[true, false, true, false, true, false, false, false, false, false, false, false, false, false, false, false, false, false, false, false, false, false, false, false] rfl rfl (any_of HT_.out (by kernel_rfl)) (fun _ _ _ h => h) (Or.inl ⟨by rfl, ?_⟩) ?_ ?_
              rotate_left
              · intro w'
                go_simp
                with_reducible rfl
              rotate_left
              · simp only [Act.put, List.setIfInBounds_toArray, List.set_cons_zero, List.set_cons_succ, i64_w, i32_w]
                rfl
              refine pure_ (i := 6) (N := some 23) (v := ?_) (a' := ?_) #[true, false, true, false, true, false, true, false, false, false, false, false, false, false, false, false, false, false, false, false, false, false, false, false] rfl rfl (any_of HT_.out (by kernel_rfl)) (fun _ _ _ h => h) (Or.inl ⟨by rfl, ?_⟩) ?_ ?_
              rotate_left
              · intro w'
                go_simp
                with_reducible rfl
              rotate_left
              · simp only [Act.put, List.setIfInBounds_toArray, List.set_cons_zero, List.set_cons_succ, i64_w, i32_w]
                rfl
              refine pure_ (i := 10) (N := some 27) (v := ?_) (a' := ?_) #[true, false, true, false, true, false, true, false, false, false, true, false, false, false, false, false, false, false, false, false, false, false, false, false] rfl rfl (any_of HT_.out (by kernel_rfl)) (fun _ _ _ h => h) (Or.inl ⟨by rfl, ?_⟩) ?_ ?_
              rotate_left
              · intro w'
                go_simp
                with_reducible rfl
              rotate_left
              · simp only [Act.put, List.setIfInBounds_toArray, List.set_cons_zero, List.set_cons_succ, i64_w, i32_w]
                rfl
              refine pure_ (i := 12) (N := some 29) (v := ?_) (a' := ?_) #[true, false, true, false, true, false, true, false, false, false, true, false, true, false, false, false, false, false, false, false, false, false, false, false] rfl rfl (any_of HT_.out (by kernel_rfl)) (fun _ _ _ h => h) (Or.inl ⟨by rfl, ?_⟩) ?_ ?_
              rotate_left
              · intro w'
                go_simp
                with_reducible rfl
              rotate_left
              · simp only [Act.put, List.setIfInBounds_toArray, List.set_cons_zero, List.set_cons_succ, i64_w, i32_w]
                rfl
              refine take_ (i := 1) (N := some 18) (v := ?_) (a' := ?_) #[true, true, true, false, true, false, true, false, false, false, true, false, true, false, false, false, false, false, false, false, false, false, false, false] rfl rfl (take_ofW HT_.out HW_.out (by kernel_rfl)) (fun _ _ _ h => h) (Or.inl ⟨by rfl, ?_⟩) hHeld ?_ ?_
              rotate_left
              · rintro w' ⟨s0, s1, s2, s3, s4, s5, s6, s7, s8, s9, s10, s11, s12, s13, s14, s15, s16, s17, s18, s19⟩
                go_simp
                with_reducible rfl
              rotate_left
              · simp only [Act.put, List.setIfInBounds_toArray, List.set_cons_zero, List.set_cons_succ, i64_w, i32_w]
                rfl
              refine take_ (i := 5) (N := some 22) (v := ?_) (a' := ?_) #[true, true, true, false, true, true, true, false, false, false, true, false, true, false, false, false, false, false, false, false, false, false, false, false] rfl rfl (take_ofW HT_.out HW_.out (by kernel_rfl)) (fun _ _ _ h => h) (Or.inl ⟨by rfl, ?_⟩) hHeld ?_ ?_
              rotate_left
              · rintro w' ⟨s0, s1, s2, s3, s4, s5, s6, s7, s8, s9, s10, s11, s12, s13, s14, s15, s16, s17, s18, s19⟩
                go_simp
                with_reducible rfl
              rotate_left
              · simp only [Act.put, List.setIfInBounds_toArray, List.set_cons_zero, List.set_cons_succ, i64_w, i32_w]
                rfl
              refine pure_ (i := 7) (N := some 24) (v := ?_) (a' := ?_) #[true, true, true, false, true, true, true, true, false, false, true, false, true, false, false, false, false, false, false, false, false, false, false, false] rfl rfl (any_of HT_.out (by kernel_rfl)) (fun _ _ _ h => h) (Or.inl ⟨by rfl, ?_⟩) ?_ ?_
              rotate_left
              · intro w'
                go_simp
                with_reducible rfl
              rotate_left
              · simp only [Act.put, List.setIfInBounds_toArray, List.set_cons_zero, List.set_cons_succ, i64_w, i32_w]
                rfl
              refine pure_ (i := 8) (N := some 25) (v := ?_) (a' := ?_) #[true, true, true, false, true, true, true, true, true, false, true, false, true, false, false, false, false, false, false, false, false, false, false, false] rfl rfl (any_of HT_.out (by kernel_rfl)) (fun _ _ _ h => h) (Or.inl ⟨by rfl, ?_⟩) ?_ ?_
              rotate_left
              · intro w'
                go_simp
                with_reducible rfl
              rotate_left
              · simp only [Act.put, List.setIfInBounds_toArray, List.set_cons_zero, List.set_cons_succ, i64_w, i32_w]
                rfl
              refine take_ (i := 9) (N := some 26) (v := ?_) (a' := ?_) #[true, true, true, false, true, true, true, true, true, true, true, false, true, false, false, false, false, false, false, false, false, false, false, false] rfl rfl (take_ofW HT_.out HW_.out (by kernel_rfl)) (fun _ _ _ h => h) (Or.inl ⟨by rfl, ?_⟩) hHeld ?_ ?_
              rotate_left
              · rintro w' ⟨s0, s1, s2, s3, s4, s5, s6, s7, s8, s9, s10, s11, s12, s13, s14, s15, s16, s17, s18, s19⟩
                go_simp
                with_reducible rfl
              rotate_left
              · simp only [Act.put, List.setIfInBounds_toArray, List.set_cons_zero, List.set_cons_succ, i64_w, i32_w]
                rfl
              refine take_ (i := 11) (N := some 28) (v := ?_) (a' := ?_) #[true, true, true, false, true, true, true, true, true, true, true, true, true, false, false, false, false, false, false, false, false, false, false, false] rfl rfl (take_ofW HT_.out HW_.out (by kernel_rfl)) (fun _ _ _ h => h) (Or.inl ⟨by rfl, ?_⟩) hHeld ?_ ?_
              rotate_left
              · rintro w' ⟨s0, s1, s2, s3, s4, s5, s6, s7, s8, s9, s10, s11, s12, s13, s14, s15, s16, s17, s18, s19⟩
                go_simp
                with_reducible rfl
              rotate_left
              · simp only [Act.put, List.setIfInBounds_toArray, List.set_cons_zero, List.set_cons_succ, i64_w, i32_w]
                rfl
              refine pure_ (i := 13) (N := some 30) (v := ?_) (a' := ?_) #[true, true, true, false, true, true, true, true, true, true, true, true, true, true, false, false, false, false, false, false, false, false, false, false] rfl rfl (any_of HT_.out (by kernel_rfl)) (fun _ _ _ h => h) (Or.inl ⟨by rfl, ?_⟩) ?_ ?_
              rotate_left
              · intro w'
                go_simp
                with_reducible rfl
              rotate_left
              · simp only [Act.put, List.setIfInBounds_toArray, List.set_cons_zero, List.set_cons_succ, i64_w, i32_w]
                rfl
              refine take_ (i := 14) (N := some 31) (v := ?_) (a' := ?_) #[true, true, true, false, true, true, true, true, true, true, true, true, true, true, true, false, false, false, false, false, false, false, false, false] rfl rfl (take_ofW HT_.out HW_.out (by kernel_rfl)) (fun _ _ _ h => h) (Or.inl ⟨by rfl, ?_⟩) hHeld ?_ ?_
              rotate_left
              · rintro w' ⟨s0, s1, s2, s3, s4, s5, s6, s7, s8, s9, s10, s11, s12, s13, s14, s15, s16, s17, s18, s19⟩
                go_simp
                with_reducible rfl
              rotate_left
              · simp only [Act.put, List.setIfInBounds_toArray, List.set_cons_zero, List.set_cons_succ, i64_w, i32_w]
                rfl
              refine one_ (i := 3) (N := some 20) #[true, true, true, true, true, true, true, true, true, true, true, true, true, true, true, false, false, false, false, false, false, false, false, false] rfl rfl (one_of HT_.out (by kernel_rfl)) (by decide) (fun K hK => ?_)
              refine goes_ Try.func17 (by kernel_rfl) rfl #[.agg #[.int .i64 a0_0, .slice (some ad201) l0_1.length c0_1], .int .i64 a1] (by rfl) rfl rfl (by (try simp only [List.map_toArray, List.map_cons, List.map_nil]); first | done | rfl | (simp only [List.length_drop, List.length_take]; rfl)) ?_
              with_reducible refine (active_Loads.calls kj3 a0_0 _ _ l0_1 a1 t198 _ ?side1 ?side2 A9.out).mono ?_
              (case side1 => repeat (first | exact (Kd.C_below HR0_1.out HB.out) | (with_reducible refine Kd.C_alloc ?_ _) | (with_reducible refine Kd.C_drewN ?_ _) | (with_reducible refine Kd.C_drew ?_)))
              (case side2 => exact HC0_1.out)
              rintro e w16 ⟨v199, rfl, ho0, hb⟩
              refine ⟨_, rfl, ?_⟩
              have n0_ := Aside0.mk (Kd.R_lower ho0 (below_size (by repeat (first | (with_reducible first | exact HB.out | apply below_alloc | apply pw_below_drewN | apply below_drew1 | refine below_set ?_ GE197.out) | exact HB.out))))
              have n1_ := Aside0.mk (blk_below (g := gb197) (o := .cells #[.int .i64 a0_0, .slice (some ad201) l0_1.length c0_1] 24 (0, 0)) (by (with_reducible repeat (first | refine blk_drewN ?_ _ | refine blk_drew ?_ | refine blk_alloc ?_ _)); exact BK197.out) hb)
              have n2_ := Aside0.mk (below_step (by repeat (first | (with_reducible first | exact HB.out | apply below_alloc | apply pw_below_drewN | apply below_drew1 | refine below_set ?_ GE197.out) | exact HB.out)) hb)
              clear BK197
              clear HB
              have HO200 := n0_
              have BK197 := n1_
              have HB := n2_
              clear n0_ n1_ n2_
              (try clear hb)
              (try clear hb2)
              (try clear hk)
              (try clear hi)
              (try clear ho0)
              refine hK.out _ _ ⟨(blk_cell BK197.out 0).trans rfl, (blk_cell BK197.out 1).trans rfl, ((HB.out.cell (World.block_lt_of_cell? w _ hw201_0)).trans hw201_0), ((HB.out.cell (World.block_lt_of_cell? w _ hw201_1)).trans hw201_1), ((HB.out.cell (World.block_lt_of_cell? w _ hw201_2)).trans hw201_2), ((HB.out.cell (World.block_lt_of_cell? w _ hw201_3)).trans hw201_3), ((HB.out.cell (World.block_lt_of_cell? w _ hw201_4)).trans hw201_4), ((HB.out.cell (World.block_lt_of_cell? w _ hw201_5)).trans hw201_5), ((HB.out.cell (World.block_lt_of_cell? w _ hw201_6)).trans hw201_6), ((HB.out.cell (World.block_lt_of_cell? w _ hw201_7)).trans hw201_7), ((HB.out.cell (World.block_lt_of_cell? w _ hw201_8)).trans hw201_8), ((HB.out.cell (World.block_lt_of_cell? w _ hw202_0)).trans hw202_0), ((HB.out.cell (World.block_lt_of_cell? w _ hw202_1)).trans hw202_1), ((HB.out.cell (World.block_lt_of_cell? w _ hw202_2)).trans hw202_2), ((HB.out.cell (World.block_lt_of_cell? w _ hw202_3)).trans hw202_3), ((HB.out.cell (World.block_lt_of_cell? w _ hw202_4)).trans hw202_4), ((HB.out.cell (World.block_lt_of_cell? w _ hw202_5)).trans hw202_5), ((HB.out.cell (World.block_lt_of_cell? w _ hw202_6)).trans hw202_6), ((HB.out.cell (World.block_lt_of_cell? w _ hw202_7)).trans hw202_7), ((HB.out.cell (World.block_lt_of_cell? w _ hw202_8)).trans hw202_8)⟩ (fun hHeld => ?_)
              clear hK K
              refine norm_ (a' := ?_) ?_ ?_
              rotate_left
              · show Act.put _ (some 20) _ = _
                simp only [Act.put, List.setIfInBounds_toArray, List.set_cons_zero, List.set_cons_succ, i64_w, i32_w]
                rfl
              refine one_ (i := 15) (N := some 32) #[true, true, true, true, true, true, true, true, true, true, true, true, true, true, true, true, false, false, false, false, false, false, false, false] rfl rfl (one_of HT_.out (by kernel_rfl)) (by decide) (fun K hK => ?_)
              refine goes_ Try.func30 (by kernel_rfl) rfl #[.agg #[.string ((rd_T38 l0_1 a1).f0), .int .i64 ((rd_T38 l0_1 a1).f1), .int .i64 ((rd_T38 l0_1 a1).f2), .int .i64 ((rd_T38 l0_1 a1).f3), .int .i64 ((rd_T38 l0_1 a1).f4), .int .i64 ((rd_T38 l0_1 a1).f5), .slice A201_6 ((rd_T38 l0_1 a1).f6).length c201_6, .int .u64 ((rd_T38 l0_1 a1).f7), .int .u64 ((rd_T38 l0_1 a1).f8)]] (by rfl) rfl rfl (by (try simp only [List.map_toArray, List.map_cons, List.map_nil]); first | done | rfl | (simp only [List.length_drop, List.length_take]; rfl)) ?_
              with_reducible refine (task_Work.calls kj3 ((rd_T38 l0_1 a1).f0) ((rd_T38 l0_1 a1).f1) ((rd_T38 l0_1 a1).f2) ((rd_T38 l0_1 a1).f3) ((rd_T38 l0_1 a1).f4) ((rd_T38 l0_1 a1).f5) _ _ ((rd_T38 l0_1 a1).f6) ((rd_T38 l0_1 a1).f7) ((rd_T38 l0_1 a1).f8) t203 _ ?side1 ?side2 A12.out).mono ?_
              (case side1 => repeat (first | exact (Kd.C_below HR202_6.out HB.out) | (with_reducible refine Kd.C_alloc ?_ _) | (with_reducible refine Kd.C_drewN ?_ _) | (with_reducible refine Kd.C_drew ?_)))
              (case side2 => exact HC202_6.out)
              rintro e w17 ⟨rfl, hb⟩
              refine ⟨_, rfl, ?_⟩
              have n0_ := Aside0.mk (Kd.R_below (by (with_reducible repeat (first | apply Kd.R_alloc | apply Kd.R_drewN | apply Kd.R_drew)); exact HO200.out) hb)
              have n1_ := Aside0.mk (blk_below (g := gb197) (o := .cells #[.int .i64 a0_0, .slice (some ad201) l0_1.length c0_1] 24 (0, 0)) (by (with_reducible repeat (first | refine blk_drewN ?_ _ | refine blk_drew ?_ | refine blk_alloc ?_ _)); exact BK197.out) hb)
              have n2_ := Aside0.mk (below_step (by repeat (first | (with_reducible first | exact HB.out | apply below_alloc | apply pw_below_drewN | apply below_drew1 | refine below_set ?_ GE197.out) | exact HB.out)) hb)
              clear HO200
              clear BK197
              clear HB
              have HO200 := n0_
              have BK197 := n1_
              have HB := n2_
              clear n0_ n1_ n2_
              (try clear hb)
              (try clear hb2)
              (try clear hk)
              (try clear hi)
              refine hK.out _ _ ⟨(blk_cell BK197.out 0).trans rfl, (blk_cell BK197.out 1).trans rfl, ((HB.out.cell (World.block_lt_of_cell? w _ hw201_0)).trans hw201_0), ((HB.out.cell (World.block_lt_of_cell? w _ hw201_1)).trans hw201_1), ((HB.out.cell (World.block_lt_of_cell? w _ hw201_2)).trans hw201_2), ((HB.out.cell (World.block_lt_of_cell? w _ hw201_3)).trans hw201_3), ((HB.out.cell (World.block_lt_of_cell? w _ hw201_4)).trans hw201_4), ((HB.out.cell (World.block_lt_of_cell? w _ hw201_5)).trans hw201_5), ((HB.out.cell (World.block_lt_of_cell? w _ hw201_6)).trans hw201_6), ((HB.out.cell (World.block_lt_of_cell? w _ hw201_7)).trans hw201_7), ((HB.out.cell (World.block_lt_of_cell? w _ hw201_8)).trans hw201_8), ((HB.out.cell (World.block_lt_of_cell? w _ hw202_0)).trans hw202_0), ((HB.out.cell (World.block_lt_of_cell? w _ hw202_1)).trans hw202_1), ((HB.out.cell (World.block_lt_of_cell? w _ hw202_2)).trans hw202_2), ((HB.out.cell (World.block_lt_of_cell? w _ hw202_3)).trans hw202_3), ((HB.out.cell (World.block_lt_of_cell? w _ hw202_4)).trans hw202_4), ((HB.out.cell (World.block_lt_of_cell? w _ hw202_5)).trans hw202_5), ((HB.out.cell (World.block_lt_of_cell? w _ hw202_6)).trans hw202_6), ((HB.out.cell (World.block_lt_of_cell? w _ hw202_7)).trans hw202_7), ((HB.out.cell (World.block_lt_of_cell? w _ hw202_8)).trans hw202_8)⟩ (fun hHeld => ?_)
              clear hK K
              refine norm_ (a' := ?_) ?_ ?_
              rotate_left
              · show Act.put _ (some 32) _ = _
                simp only [Act.put, List.setIfInBounds_toArray, List.set_cons_zero, List.set_cons_succ, i64_w, i32_w]
                rfl
              refine pure_ (i := 16) (N := some 33) (v := ?_) (a' := ?_) #[true, true, true, true, true, true, true, true, true, true, true, true, true, true, true, true, true, false, false, false, false, false, false, false] rfl rfl (any_of HT_.out (by kernel_rfl)) (fun _ _ _ h => h) (Or.inl ⟨by rfl, ?_⟩) ?_ ?_
              rotate_left
              · intro w'
                go_simp
                with_reducible rfl
              rotate_left
              · simp only [Act.put, List.setIfInBounds_toArray, List.set_cons_zero, List.set_cons_succ, i64_w, i32_w]
                rfl
              refine one_ (i := 17) (N := some 34) #[true, true, true, true, true, true, true, true, true, true, true, true, true, true, true, true, true, true, false, false, false, false, false, false] rfl rfl (one_of HT_.out (by kernel_rfl)) (by decide) (fun K hK => ?_)
              refine value_ (w1 := ?_) (v := ?_) (by rfl) rfl ?_ ?_
              rotate_left 2
              · go_simp
                constructor
                · rfl
                · rfl
              refine hK.out _ _ ⟨(blk_cell (blk_alloc BK197.out _) 0).trans rfl, (blk_cell (blk_alloc BK197.out _) 1).trans rfl, (World.cell?_alloc_lt _ _ _ (World.block_lt_of_cell? _ _ (((HB.out.cell (World.block_lt_of_cell? w _ hw201_0)).trans hw201_0)))).trans (((HB.out.cell (World.block_lt_of_cell? w _ hw201_0)).trans hw201_0)), (World.cell?_alloc_lt _ _ _ (World.block_lt_of_cell? _ _ (((HB.out.cell (World.block_lt_of_cell? w _ hw201_1)).trans hw201_1)))).trans (((HB.out.cell (World.block_lt_of_cell? w _ hw201_1)).trans hw201_1)), (World.cell?_alloc_lt _ _ _ (World.block_lt_of_cell? _ _ (((HB.out.cell (World.block_lt_of_cell? w _ hw201_2)).trans hw201_2)))).trans (((HB.out.cell (World.block_lt_of_cell? w _ hw201_2)).trans hw201_2)), (World.cell?_alloc_lt _ _ _ (World.block_lt_of_cell? _ _ (((HB.out.cell (World.block_lt_of_cell? w _ hw201_3)).trans hw201_3)))).trans (((HB.out.cell (World.block_lt_of_cell? w _ hw201_3)).trans hw201_3)), (World.cell?_alloc_lt _ _ _ (World.block_lt_of_cell? _ _ (((HB.out.cell (World.block_lt_of_cell? w _ hw201_4)).trans hw201_4)))).trans (((HB.out.cell (World.block_lt_of_cell? w _ hw201_4)).trans hw201_4)), (World.cell?_alloc_lt _ _ _ (World.block_lt_of_cell? _ _ (((HB.out.cell (World.block_lt_of_cell? w _ hw201_5)).trans hw201_5)))).trans (((HB.out.cell (World.block_lt_of_cell? w _ hw201_5)).trans hw201_5)), (World.cell?_alloc_lt _ _ _ (World.block_lt_of_cell? _ _ (((HB.out.cell (World.block_lt_of_cell? w _ hw201_6)).trans hw201_6)))).trans (((HB.out.cell (World.block_lt_of_cell? w _ hw201_6)).trans hw201_6)), (World.cell?_alloc_lt _ _ _ (World.block_lt_of_cell? _ _ (((HB.out.cell (World.block_lt_of_cell? w _ hw201_7)).trans hw201_7)))).trans (((HB.out.cell (World.block_lt_of_cell? w _ hw201_7)).trans hw201_7)), (World.cell?_alloc_lt _ _ _ (World.block_lt_of_cell? _ _ (((HB.out.cell (World.block_lt_of_cell? w _ hw201_8)).trans hw201_8)))).trans (((HB.out.cell (World.block_lt_of_cell? w _ hw201_8)).trans hw201_8)), (World.cell?_alloc_lt _ _ _ (World.block_lt_of_cell? _ _ (((HB.out.cell (World.block_lt_of_cell? w _ hw202_0)).trans hw202_0)))).trans (((HB.out.cell (World.block_lt_of_cell? w _ hw202_0)).trans hw202_0)), (World.cell?_alloc_lt _ _ _ (World.block_lt_of_cell? _ _ (((HB.out.cell (World.block_lt_of_cell? w _ hw202_1)).trans hw202_1)))).trans (((HB.out.cell (World.block_lt_of_cell? w _ hw202_1)).trans hw202_1)), (World.cell?_alloc_lt _ _ _ (World.block_lt_of_cell? _ _ (((HB.out.cell (World.block_lt_of_cell? w _ hw202_2)).trans hw202_2)))).trans (((HB.out.cell (World.block_lt_of_cell? w _ hw202_2)).trans hw202_2)), (World.cell?_alloc_lt _ _ _ (World.block_lt_of_cell? _ _ (((HB.out.cell (World.block_lt_of_cell? w _ hw202_3)).trans hw202_3)))).trans (((HB.out.cell (World.block_lt_of_cell? w _ hw202_3)).trans hw202_3)), (World.cell?_alloc_lt _ _ _ (World.block_lt_of_cell? _ _ (((HB.out.cell (World.block_lt_of_cell? w _ hw202_4)).trans hw202_4)))).trans (((HB.out.cell (World.block_lt_of_cell? w _ hw202_4)).trans hw202_4)), (World.cell?_alloc_lt _ _ _ (World.block_lt_of_cell? _ _ (((HB.out.cell (World.block_lt_of_cell? w _ hw202_5)).trans hw202_5)))).trans (((HB.out.cell (World.block_lt_of_cell? w _ hw202_5)).trans hw202_5)), (World.cell?_alloc_lt _ _ _ (World.block_lt_of_cell? _ _ (((HB.out.cell (World.block_lt_of_cell? w _ hw202_6)).trans hw202_6)))).trans (((HB.out.cell (World.block_lt_of_cell? w _ hw202_6)).trans hw202_6)), (World.cell?_alloc_lt _ _ _ (World.block_lt_of_cell? _ _ (((HB.out.cell (World.block_lt_of_cell? w _ hw202_7)).trans hw202_7)))).trans (((HB.out.cell (World.block_lt_of_cell? w _ hw202_7)).trans hw202_7)), (World.cell?_alloc_lt _ _ _ (World.block_lt_of_cell? _ _ (((HB.out.cell (World.block_lt_of_cell? w _ hw202_8)).trans hw202_8)))).trans (((HB.out.cell (World.block_lt_of_cell? w _ hw202_8)).trans hw202_8))⟩ (fun hHeld => ?_)
              clear hK K
              refine norm_ (a' := ?_) ?_ ?_
              rotate_left
              · show Act.put _ (some 34) _ = _
                simp only [Act.put, List.setIfInBounds_toArray, List.set_cons_zero, List.set_cons_succ, i64_w, i32_w]
                rfl
              refine one_ (i := 18) (N := some 35) #[true, true, true, true, true, true, true, true, true, true, true, true, true, true, true, true, true, true, true, false, false, false, false, false] rfl rfl (one_of HT_.out (by kernel_rfl)) (by decide) (fun K hK => ?_)
              refine Kd.R_append_step k41 (w0 := w) w.heap.size (by rfl) (.tmp 20) (.tmp 34) 28 41 (.agg #[(.int .i64 0), (.int .i64 0)]) 16 rfl Try.underlying28 info41 rfl (by decide) (by omega) v199 t198 (⟨(rd_T38 l0_1 a1).f1, t203⟩ : S41) [.int .i64 ((rd_T38 l0_1 a1).f1), .int .i64 t203] (fun _ => True) (fun _ => False) rfl rfl ?aP (fun _ hk => hk.elim) ?aF ?aO ?aB ?aS ?aL ?_
              (case aP => exact k41_mkM _ _ _ (⟨(rd_T38 l0_1 a1).f1, t203⟩ : S41))
              (case aB => exact (by repeat (first | (with_reducible first | exact HB.out | apply below_alloc | apply pw_below_drewN | apply below_drew1 | refine below_set ?_ GE197.out) | exact HB.out)))
              (case aF => exact (fun _ _ => trivial))
              (case aO => exact (by (with_reducible repeat (first | apply Kd.R_alloc | apply Kd.R_drewN | apply Kd.R_drew)); exact HO200.out))
              (case aS => exact (below_size (by repeat (first | (with_reducible first | exact HB.out | apply below_alloc | apply pw_below_drewN | apply below_drew1 | refine below_set ?_ GE197.out) | exact HB.out))))
              (case aL => have := LMc13.out; omega)
              intro v205 w18 ho hb hg hat
              rw [← Ny204.out] at ho
              have n0_ := Aside0.mk (blk_grown (g := gb197) (o := .cells #[.int .i64 a0_0, .slice (some ad201) l0_1.length c0_1] 24 (0, 0)) (by (with_reducible repeat (first | refine blk_drewN ?_ _ | refine blk_drew ?_ | refine blk_alloc ?_ _)); exact BK197.out) hg (Kd.R_ne HO200.out BK197.out (by decide)))
              have n1_ := Aside0.mk (hb)
              have n2_ := Aside0.mk (ho)
              clear BK197
              clear HB
              clear HO200
              have BK197 := n0_
              have HB := n1_
              have HO206 := n2_
              clear n0_ n1_ n2_
              clear ho hb hg hat
              obtain ⟨Ao19, co19, eo19⟩ := Kd.R_slice HO206.out
              (first | subst eo19 | (injection eo19 with f1_ f2_ f3_; have f4_ := f1_.symm; have f5_ := f3_.symm; clear f1_ f2_ f3_; subst f4_; subst f5_))
              refine hK.out _ _ ⟨(blk_cell BK197.out 0).trans rfl, (blk_cell BK197.out 1).trans rfl, ((HB.out.cell (World.block_lt_of_cell? w _ hw201_0)).trans hw201_0), ((HB.out.cell (World.block_lt_of_cell? w _ hw201_1)).trans hw201_1), ((HB.out.cell (World.block_lt_of_cell? w _ hw201_2)).trans hw201_2), ((HB.out.cell (World.block_lt_of_cell? w _ hw201_3)).trans hw201_3), ((HB.out.cell (World.block_lt_of_cell? w _ hw201_4)).trans hw201_4), ((HB.out.cell (World.block_lt_of_cell? w _ hw201_5)).trans hw201_5), ((HB.out.cell (World.block_lt_of_cell? w _ hw201_6)).trans hw201_6), ((HB.out.cell (World.block_lt_of_cell? w _ hw201_7)).trans hw201_7), ((HB.out.cell (World.block_lt_of_cell? w _ hw201_8)).trans hw201_8), ((HB.out.cell (World.block_lt_of_cell? w _ hw202_0)).trans hw202_0), ((HB.out.cell (World.block_lt_of_cell? w _ hw202_1)).trans hw202_1), ((HB.out.cell (World.block_lt_of_cell? w _ hw202_2)).trans hw202_2), ((HB.out.cell (World.block_lt_of_cell? w _ hw202_3)).trans hw202_3), ((HB.out.cell (World.block_lt_of_cell? w _ hw202_4)).trans hw202_4), ((HB.out.cell (World.block_lt_of_cell? w _ hw202_5)).trans hw202_5), ((HB.out.cell (World.block_lt_of_cell? w _ hw202_6)).trans hw202_6), ((HB.out.cell (World.block_lt_of_cell? w _ hw202_7)).trans hw202_7), ((HB.out.cell (World.block_lt_of_cell? w _ hw202_8)).trans hw202_8)⟩ (fun hHeld => ?_)
              clear hK K
              refine norm_ (a' := ?_) ?_ ?_
              rotate_left
              · show Act.put _ (some 35) _ = _
                simp only [Act.put, List.setIfInBounds_toArray, List.set_cons_zero, List.set_cons_succ, i64_w, i32_w]
                rfl
              refine one_ (i := 19) (N := some 36) #[true, true, true, true, true, true, true, true, true, true, true, true, true, true, true, true, true, true, true, true, false, false, false, false] rfl rfl (one_of HT_.out (by kernel_rfl)) (by decide) (fun K hK => ?_)
              refine goes_ Try.func29 (by kernel_rfl) rfl #[.int .i64 a2, .slice Ao19 y204.length co19] (by rfl) rfl rfl (by (try simp only [List.map_toArray, List.map_cons, List.map_nil]); first | done | rfl | (simp only [List.length_drop, List.length_take]; rfl)) ?_
              with_reducible refine (fix_Least.calls a2 _ _ y204 t207 t208 _ ?side1 ?side2 A14.out).mono ?_
              (case side1 => repeat (first | exact (Kd.R_reads' HO206.out).2.2 | (with_reducible refine Kd.C_alloc ?_ _) | (with_reducible refine Kd.C_drewN ?_ _) | (with_reducible refine Kd.C_drew ?_)))
              (case side2 => exact (Kd.R_reads' HO206.out).2.1)
              rintro e w20 ⟨rfl, hb⟩
              refine ⟨_, rfl, ?_⟩
              have n0_ := Aside0.mk (Kd.R_below (by (with_reducible repeat (first | apply Kd.R_alloc | apply Kd.R_drewN | apply Kd.R_drew)); exact HO206.out) hb)
              have n1_ := Aside0.mk (blk_below (g := gb197) (o := .cells #[.int .i64 a0_0, .slice (some ad201) l0_1.length c0_1] 24 (0, 0)) (by (with_reducible repeat (first | refine blk_drewN ?_ _ | refine blk_drew ?_ | refine blk_alloc ?_ _)); exact BK197.out) hb)
              have n2_ := Aside0.mk (below_step (by repeat (first | (with_reducible first | exact HB.out | apply below_alloc | apply pw_below_drewN | apply below_drew1 | refine below_set ?_ GE197.out) | exact HB.out)) hb)
              clear HO206
              clear BK197
              clear HB
              have HO206 := n0_
              have BK197 := n1_
              have HB := n2_
              clear n0_ n1_ n2_
              (try clear hb)
              (try clear hb2)
              (try clear hk)
              (try clear hi)
              refine hK.out _ _ ⟨(blk_cell BK197.out 0).trans rfl, (blk_cell BK197.out 1).trans rfl, ((HB.out.cell (World.block_lt_of_cell? w _ hw201_0)).trans hw201_0), ((HB.out.cell (World.block_lt_of_cell? w _ hw201_1)).trans hw201_1), ((HB.out.cell (World.block_lt_of_cell? w _ hw201_2)).trans hw201_2), ((HB.out.cell (World.block_lt_of_cell? w _ hw201_3)).trans hw201_3), ((HB.out.cell (World.block_lt_of_cell? w _ hw201_4)).trans hw201_4), ((HB.out.cell (World.block_lt_of_cell? w _ hw201_5)).trans hw201_5), ((HB.out.cell (World.block_lt_of_cell? w _ hw201_6)).trans hw201_6), ((HB.out.cell (World.block_lt_of_cell? w _ hw201_7)).trans hw201_7), ((HB.out.cell (World.block_lt_of_cell? w _ hw201_8)).trans hw201_8), ((HB.out.cell (World.block_lt_of_cell? w _ hw202_0)).trans hw202_0), ((HB.out.cell (World.block_lt_of_cell? w _ hw202_1)).trans hw202_1), ((HB.out.cell (World.block_lt_of_cell? w _ hw202_2)).trans hw202_2), ((HB.out.cell (World.block_lt_of_cell? w _ hw202_3)).trans hw202_3), ((HB.out.cell (World.block_lt_of_cell? w _ hw202_4)).trans hw202_4), ((HB.out.cell (World.block_lt_of_cell? w _ hw202_5)).trans hw202_5), ((HB.out.cell (World.block_lt_of_cell? w _ hw202_6)).trans hw202_6), ((HB.out.cell (World.block_lt_of_cell? w _ hw202_7)).trans hw202_7), ((HB.out.cell (World.block_lt_of_cell? w _ hw202_8)).trans hw202_8)⟩ (fun hHeld => ?_)
              clear hK K
              refine norm_ (a' := ?_) ?_ ?_
              rotate_left
              · show Act.put _ (some 36) _ = _
                simp only [Act.put, List.setIfInBounds_toArray, List.set_cons_zero, List.set_cons_succ, i64_w, i32_w]
                rfl
              refine pure_ (i := 20) (N := some 37) (v := ?_) (a' := ?_) #[true, true, true, true, true, true, true, true, true, true, true, true, true, true, true, true, true, true, true, true, true, false, false, false] rfl rfl (any_of HT_.out (by kernel_rfl)) (fun _ _ _ h => h) (Or.inl ⟨by rfl, ?_⟩) ?_ ?_
              rotate_left
              · intro w'
                go_simp
                with_reducible rfl
              rotate_left
              · simp only [Act.put, List.setIfInBounds_toArray, List.set_cons_zero, List.set_cons_succ, i64_w, i32_w]
                rfl
              refine pure_ (i := 21) (N := some 38) (v := ?_) (a' := ?_) #[true, true, true, true, true, true, true, true, true, true, true, true, true, true, true, true, true, true, true, true, true, true, false, false] rfl rfl (any_of HT_.out (by kernel_rfl)) (fun _ _ _ h => h) (Or.inl ⟨by rfl, ?_⟩) ?_ ?_
              rotate_left
              · intro w'
                go_simp
                with_reducible rfl
              rotate_left
              · simp only [Act.put, List.setIfInBounds_toArray, List.set_cons_zero, List.set_cons_succ, i64_w, i32_w]
                rfl
              refine pure_ (i := 22) (N := some 6) (v := ?_) (a' := ?_) #[true, true, true, true, true, true, true, true, true, true, true, true, true, true, true, true, true, true, true, true, true, true, true, false] rfl rfl (any_of HT_.out (by kernel_rfl)) (fun _ _ _ h => h) (Or.inl ⟨by rfl, ?_⟩) ?_ ?_
              rotate_left
              · intro w'
                go_simp
                with_reducible rfl
              rotate_left
              · simp only [Act.put, List.setIfInBounds_toArray, List.set_cons_zero, List.set_cons_succ, i64_w, i32_w]
                rfl
              refine pure_ (i := 23) (N := some 7) (v := ?_) (a' := ?_) #[true, true, true, true, true, true, true, true, true, true, true, true, true, true, true, true, true, true, true, true, true, true, true, true] rfl rfl (any_of HT_.out (by kernel_rfl)) (fun _ _ _ h => h) (Or.inl ⟨by rfl, ?_⟩) ?_ ?_
              rotate_left
              · intro w'
                go_simp
                with_reducible rfl
              rotate_left
              · simp only [Act.put, List.setIfInBounds_toArray, List.set_cons_zero, List.set_cons_succ, i64_w, i32_w]
                rfl
              refine done_ (done_of HT_.out (by kernel_rfl)) ?_
              try go_wp2
              go_ret2
              exact ⟨by first | rfl | (simp [errW_none, errW_some] <;> rfl) | (simp [*, errW_none, errW_some] <;> rfl), by repeat (first | (with_reducible first | exact HB.out | apply below_alloc | apply pw_below_drewN | apply below_drew1 | refine below_set ?_ GE197.out) | exact HB.out)⟩
            · rw [if_neg c13] at H
              exact absurd H (by simp)
          · rw [if_neg c11] at H
            exact absurd H (by simp)
        · rw [if_neg c10] at H
          exact absurd H (by simp)
end Go.Proofs.Ytllnlmcofaomlaa.QAc
namespace Go.Proofs.Ytllnlmcofaomlaa.QAc
open Go.RowKit Go.Proofs.YtllnlmcofaomlaaW.PrintWords Go.Proofs.YtllnlmcofaomlaaW.PrintLast Go.Proofs.YtllnlmcofaomlaaW.PrintMore
attribute [local go_sem] max2_int min2_int max_two min_two max_three min_three max_four min_four   -- for this text's walks alone
set_option linter.unusedVariables false
set_option linter.unusedSimpArgs false
def taskmasterlaw11_known.f (k : Nat)  : Option (Bool) := (some (([(⟨(⟨#[97]⟩ : ByteArray), 5, 5, 0, 0, 0, (([2] : List Int)), 0, 0⟩ : S38)] : List (S38)) : List (S38))).bind fun y255 => ((active_Of.f k 0 y255 0 0).bind fun bt259 => (if bt259.2 = true then (if bt259.1 = 2 then ((active_Loads.f k 0 y255 0).bind fun t261 => (some ((t261.length : Int) == 0))) else (some false)) else (some false)))
theorem taskmasterlaw11_known.mono : ∀ k, LeO (taskmasterlaw11_known.f k ) (taskmasterlaw11_known.f (k + 1) ) := by
  intro  k
  unfold taskmasterlaw11_known.f
  repeat' first
      | (with_reducible exact active_Loads.mono _ _ _ _)
      | (with_reducible exact active_Of.mono _ _ _ _ _)
      | (with_reducible exact LeO.refl _)
      | (with_reducible exact LeO.none _)
      | (with_reducible refine LeO.ite ?_ ?_)
      | (with_reducible refine LeO.bind ?_ (fun _ => ?_))
      | exact active_Loads.mono _ _ _ _
      | exact active_Of.mono _ _ _ _ _
      | exact LeO.none _
      | refine LeO.ite ?_ ?_
      | refine LeO.bind ?_ (fun _ => ?_)
set_option maxHeartbeats 8000000 in
set_option maxRecDepth 100000 in
theorem taskmasterlaw11_known.calls (k : Nat)  (r : Bool) (w : World) (h : taskmasterlaw11_known.f k  = some r) :
    Calls Try.prog 18 #[] w fun e w' => e = .returned (.bool r) ∧ Below w.heap.size w w' := by
  have hu38 := Try.underlying38
  have hu24 := Try.underlying24
  have HB := Aside0.mk (Below.refl w.heap.size w)
  have H : ((some (([(⟨(⟨#[97]⟩ : ByteArray), 5, 5, 0, 0, 0, (([2] : List Int)), 0, 0⟩ : S38)] : List (S38)) : List (S38))).bind fun y255 => ((active_Of.f k 0 y255 0 0).bind fun bt259 => (if bt259.2 = true then (if bt259.1 = 2 then ((active_Loads.f k 0 y255 0).bind fun t261 => (some ((t261.length : Int) == 0))) else (some false)) else (some false)))) = some r := h
  clear h
  obtain ⟨y252, hy252⟩ : ∃ y_ : List Int, y_ = (([2] : List Int)) := ⟨_, rfl⟩
  replace H : ((some (([(⟨(⟨#[97]⟩ : ByteArray), 5, 5, 0, 0, 0, y252, 0, 0⟩ : S38)] : List (S38)) : List (S38))).bind fun y255 => ((active_Of.f k 0 y255 0 0).bind fun bt259 => (if bt259.2 = true then (if bt259.1 = 2 then ((active_Loads.f k 0 y255 0).bind fun t261 => (some ((t261.length : Int) == 0))) else (some false)) else (some false)))) = some r := by first | (rw [hy252]; with_reducible exact H) | (have H2_ := (Option.bind_some _ _).symm.trans H; rw [hy252]; with_reducible exact H2_) | (have H2_ := (Option.bind_some _ _).symm.trans H; with_reducible exact H2_) | with_reducible exact H | (rw [hy252]; exact H) | exact H
  have Ny252 := Aside0.mk hy252
  clear hy252
  obtain ⟨y255, hy255⟩ : ∃ y_ : List (S38), y_ = (([(⟨(⟨#[97]⟩ : ByteArray), 5, 5, 0, 0, 0, y252, 0, 0⟩ : S38)] : List (S38))) := ⟨_, rfl⟩
  replace H : ((active_Of.f k 0 y255 0 0).bind fun bt259 => (if bt259.2 = true then (if bt259.1 = 2 then ((active_Loads.f k 0 y255 0).bind fun t261 => (some ((t261.length : Int) == 0))) else (some false)) else (some false))) = some r := by first | (rw [hy255]; with_reducible exact H) | (have H2_ := (Option.bind_some _ _).symm.trans H; rw [hy255]; with_reducible exact H2_) | (have H2_ := (Option.bind_some _ _).symm.trans H; with_reducible exact H2_) | with_reducible exact H | (rw [hy255]; exact H) | exact H
  have Ny255 := Aside0.mk hy255
  clear hy255
  replace H := Option.bind_eq_some_iff.mp H
  obtain ⟨⟨t259, t260⟩, A10, H⟩ := H
  replace H : (if t260 = true then (if t259 = 2 then ((active_Loads.f k 0 y255 0).bind fun t261 => (some ((t261.length : Int) == 0))) else (some false)) else (some false)) = some r := H
  have A1 := Aside0.mk A10
  clear A10
  by_cases c2 : t260 = true
  · subst c2
    have H1 : (if t259 = 2 then ((active_Loads.f k 0 y255 0).bind fun t261 => (some ((t261.length : Int) == 0))) else (some false)) = some r := by rw [if_pos rfl] at H; exact H
    clear H
    have H := H1
    clear H1
    by_cases c3 : t259 = 2
    · rw [if_pos c3] at H
      have c3b0 : (t259 == 2) = true := beq_iff_eq.mpr c3
      have c3b1 : (t259 != 2) = false := bne_eq_false_iff_eq.mpr c3
      clear c3
      replace H := Option.bind_eq_some_iff.mp H
      obtain ⟨t261, A40, H⟩ := H
      replace H : (some ((t261.length : Int) == 0)) = some r := H
      have A4 := Aside0.mk A40
      clear A40
      obtain rfl := Option.some.inj H
      go_enter Try.func18, Try.ntmps18
      go_wp2_with (first | ((with_reducible refine gate_dst (N := 4) rfl ?_); (try (refine gate_guard (by rfl) ?_; dsimp only)); refine Kd.R_lit (Kd.int .i64) _ 2 ?hg (N := 4) ?hd (xs := ([2] : List Int)) (inner := [.int .i64 2]) (ok := fun _ => True) (okp := fun _ => True) ?hr ?hp (fun _ hk => hk) trivial (Below.refl _ _) (Nat.le_refl _) (by simp) ?_; (case hd => rfl); (case hg => rfl); (case hr => first | (go_simp; done) | (go_simp; rfl)); (case hp => exact (Reps.one (show Kd.M (Kd.int .i64) _ _ _ 2 [.int .i64 2] from rfl) (Reps.none _ _))); intro v253 w5 ho6 hb hg_ hnew_; clear hg_ hnew_; (first | rw [← Ny252.out] at ho6 | (simp only [Int.reduceToNat] at ho6; rw [← Ny252.out] at ho6)); have n0_ := Aside0.mk (Kd.R_lower ho6 (below_size (by repeat (first | (with_reducible first | exact HB.out | apply below_alloc | apply pw_below_drewN | apply below_drew1) | exact HB.out)))); have n1_ := Aside0.mk (below_step (by repeat (first | (with_reducible first | exact HB.out | apply below_alloc | apply pw_below_drewN | apply below_drew1) | exact HB.out)) hb); clear HB; have HO254 := n0_; have HB := n1_; clear n0_ n1_; clear hb ho6; obtain ⟨Ao7, co7, eo7⟩ := Kd.R_slice HO254.out; subst eo7) | ((with_reducible refine gate_dst (N := 6) rfl ?_); (try (refine gate_guard (by rfl) ?_; dsimp only)); refine Kd.N_lit k38 _ 38 ?hg (N' := 6) ?hd (xs := ([(⟨(⟨#[97]⟩ : ByteArray), 5, 5, 0, 0, 0, y252, 0, 0⟩ : S38)] : List (S38))) (inner := [.string (⟨#[97]⟩ : ByteArray), .int .i64 5, .int .i64 5, .int .i64 0, .int .i64 0, .int .i64 0, .slice Ao7 y252.length co7, .int .u64 0, .int .u64 0]) (ok := (fun _ => True)) (okp := (fun _ => True)) ?hr ?hp (fun _ hk => hk) ((show ∀ k_, w5.heap.size ≤ k_ → (fun _ => True) k_ from fun k_ hk => trivial) _ (Nat.le_refl _)) (Below.refl _ _) (Nat.le_refl _) (by simp) ?_; (case hd => rfl); (case hg => rfl); (case hr => first | (go_simp; done) | (go_simp; rfl)); (case hp => exact (Reps.c9 (show Kd.FK k38 _ _ (⟨(⟨#[97]⟩ : ByteArray), 5, 5, 0, 0, 0, y252, 0, 0⟩ : S38) [.string (⟨#[97]⟩ : ByteArray), .int .i64 5, .int .i64 5, .int .i64 0, .int .i64 0, .int .i64 0, .slice Ao7 y252.length co7, .int .u64 0, .int .u64 0] from (k38_mkF _ _ (⟨(⟨#[97]⟩ : ByteArray), 5, 5, 0, 0, 0, y252, 0, 0⟩ : S38) (Kd.R_reads' (Kd.R_mono (ok' := (fun _ => True)) (HO254.out) (fun k_ hk => trivial))).2.1 (Kd.R_F (Kd.R_mono (ok' := (fun _ => True)) (HO254.out) (fun k_ hk => trivial))))) (Reps.none _ _))); intro v256 w8 ho9 hb hg_ hnew_; clear hg_ hnew_; (first | rw [← Ny255.out] at ho9 | (simp only [Int.reduceToNat] at ho9; rw [← Ny255.out] at ho9)); have n0_ := Aside0.mk (Kd.N_lower ho9 (below_size (by repeat (first | (with_reducible first | exact HB.out | apply below_alloc | apply pw_below_drewN | apply below_drew1) | exact HB.out)))); have n1_ := Aside0.mk (below_step (by repeat (first | (with_reducible first | exact HB.out | apply below_alloc | apply pw_below_drewN | apply below_drew1) | exact HB.out)) hb); clear HB; clear HO254; have HO257 := n0_; have HB := n1_; clear n0_ n1_; clear hb ho9; obtain ⟨Ao10, co10, eo10⟩ := Kd.N_slice HO257.out; subst eo10) | ((with_reducible refine gate_dst (N := 1) rfl ?_); (try (refine gate_guard (by rfl) ?_; dsimp only)); refine box_event ?hg (N := 1) ?hd (cs := #[.int .i64 0, .slice none 0 0]) (t := 24) ?hr ?_; (case hd => rfl); (case hg => rfl); (case hr => first | (go_simp; done) | (go_simp; rfl)); intro gb258 hg w11 hbox hb; have n0_ := Aside0.mk (Kd.N_below (Kd.N_elderB (by (with_reducible repeat (first | apply Kd.N_alloc | apply Kd.N_drewN | apply Kd.N_drew)); exact HO257.out) gb258 (Nat.le_of_eq hg.symm)) hb); have n1_ := Aside0.mk (below_step (by repeat (first | (with_reducible first | exact HB.out | apply below_alloc | apply pw_below_drewN | apply below_drew1) | exact HB.out)) hb); have n2_ := Aside0.mk (hbox); have n3_ := Aside0.mk ((by rw [hg]; exact (below_size (by repeat (first | (with_reducible first | exact HB.out | apply below_alloc | apply pw_below_drewN | apply below_drew1) | exact HB.out))) : w.heap.size ≤ gb258)); have n4_ := Aside0.mk ((by rw [hg]; exact (below_size (by repeat (first | (with_reducible first | exact HB.out | apply below_alloc | apply pw_below_drewN | apply below_drew1) | exact HB.out))) : w.heap.size ≤ gb258)); clear HO257; clear HB; have HO257 := n0_; have HB := n1_; have BK258 := n2_; have GW258 := n3_; have GE258 := n4_; clear n0_ n1_ n2_ n3_ n4_; clear hb hbox hg; have hcz12_0 : w11.cell? ⟨gb258, 0, none⟩ = some (.int .i64 0) := (blk_cell BK258.out 0).trans rfl; have hcz12_1 : w11.cell? ⟨gb258, 1, none⟩ = some (.slice none 0 0) := (blk_cell BK258.out 1).trans rfl; have hfz12_0 := blk_frozen BK258.out 0; have hfz12_1 := blk_frozen BK258.out 1) | ((with_reducible refine gate_callee (f := 13) rfl ?_); refine goesL_ (some 10) rfl rfl Try.func13 (by kernel_rfl) rfl #[.agg #[.int .i64 0, .slice Ao10 y255.length co10], .int .i64 0, .int .i64 0] rfl (by (try simp only [List.map_toArray, List.map_cons, List.map_nil]); first | done | rfl | (simp only [List.length_drop, List.length_take]; rfl)) ?_; (with_reducible refine (active_Of.calls k 0 _ _ y255 0 0 t259 true _ ?side1 ?side2 A1.out).mono ?_); (case side1 => refine (Kd.N_reads' (e := 38) (base := w.heap.size) (ok := fun k_ => (True ∧ k_ ≠ gb258)) (n := y255.length) (c := co10) ?_).2.2; exact (by (with_reducible repeat (first | apply Kd.N_alloc | apply Kd.N_drewN | apply Kd.N_drew)); exact (Kd.N_mono (Kd.N_far (p := ⟨gb258, 1, none⟩) (Kd.N_far (p := ⟨gb258, 0, none⟩) (Kd.N_mono HO257.out (fun k_ hk => (⟨hk, hk.2⟩ : _ ∧ k_ ≠ gb258))) (fun _ hk => hk.2) (.int .i64 0)) (fun _ hk => hk.2) (.slice Ao10 y255.length co10)) (fun _ h_ => h_.1)))); (case side2 => exact (Kd.N_reads' HO257.out).2.1); rintro e w13 ⟨rfl, hb⟩; refine ⟨_, rfl, ?_⟩; have n0_ := Aside0.mk (Kd.N_below (by (with_reducible repeat (first | apply Kd.N_alloc | apply Kd.N_drewN | apply Kd.N_drew)); exact (Kd.N_mono (Kd.N_far (p := ⟨gb258, 1, none⟩) (Kd.N_far (p := ⟨gb258, 0, none⟩) (Kd.N_mono HO257.out (fun k_ hk => (⟨hk, hk.2⟩ : _ ∧ k_ ≠ gb258))) (fun _ hk => hk.2) (.int .i64 0)) (fun _ hk => hk.2) (.slice Ao10 y255.length co10)) (fun _ h_ => h_.1))) hb); have n1_ := Aside0.mk (blk_below (g := gb258) (o := .cells #[.int .i64 0, .slice Ao10 y255.length co10] 24 (0, 0)) (by (with_reducible repeat (first | refine blk_drewN ?_ _ | refine blk_drew ?_ | refine blk_alloc ?_ _)); refine blk_put (cs := #[.int .i64 0, .slice none 0 0]) ?_ 1 _ rfl; (with_reducible repeat (first | refine blk_drewN ?_ _ | refine blk_drew ?_ | refine blk_alloc ?_ _)); refine blk_put (cs := #[.int .i64 0, .slice none 0 0]) ?_ 0 _ rfl; (with_reducible repeat (first | refine blk_drewN ?_ _ | refine blk_drew ?_ | refine blk_alloc ?_ _)); exact BK258.out) hb); have n2_ := Aside0.mk (below_step (by repeat (first | (with_reducible first | exact HB.out | apply below_alloc | apply pw_below_drewN | apply below_drew1 | refine below_set ?_ GE258.out) | exact HB.out)) hb); clear HO257; clear BK258; clear HB; have HO257 := n0_; have BK258 := n1_; have HB := n2_; clear n0_ n1_ n2_; (try clear hb); (try clear hb2); (try clear hk); (try clear hi); have hcz14_0 : w13.cell? ⟨gb258, 0, none⟩ = some (.int .i64 0) := (blk_cell BK258.out 0).trans rfl; have hcz14_1 : w13.cell? ⟨gb258, 1, none⟩ = some (.slice Ao10 y255.length co10) := (blk_cell BK258.out 1).trans rfl; have hfz14_0 := blk_frozen BK258.out 0; have hfz14_1 := blk_frozen BK258.out 1) | (go_at_call 17; (with_reducible refine (active_Loads.calls k 0 _ _ y255 0 t261 _ ?side1 ?side2 A4.out).mono ?_); (case side1 => repeat (first | exact (Kd.N_reads' HO257.out).2.2 | (with_reducible refine Kd.C_alloc ?_ _) | (with_reducible refine Kd.C_drewN ?_ _) | (with_reducible refine Kd.C_drew ?_))); (case side2 => exact (Kd.N_reads' HO257.out).2.1); rintro e w15 ⟨v262, rfl, ho0, hb⟩; have n0_ := Aside0.mk (Kd.N_elder' (by (with_reducible repeat (first | apply Kd.N_alloc | apply Kd.N_drewN | apply Kd.N_drew)); exact HO257.out) (Kd.R_base ho0) hb); have n1_ := Aside0.mk (Kd.R_lower ho0 (below_size (by repeat (first | (with_reducible first | exact HB.out | apply below_alloc | apply pw_below_drewN | apply below_drew1 | refine below_set ?_ GE258.out) | exact HB.out)))); have n2_ := Aside0.mk (blk_below (g := gb258) (o := .cells #[.int .i64 0, .slice Ao10 y255.length co10] 24 (0, 0)) (by (with_reducible repeat (first | refine blk_drewN ?_ _ | refine blk_drew ?_ | refine blk_alloc ?_ _)); exact BK258.out) hb); have n3_ := Aside0.mk (below_step (by repeat (first | (with_reducible first | exact HB.out | apply below_alloc | apply pw_below_drewN | apply below_drew1 | refine below_set ?_ GE258.out) | exact HB.out)) hb); clear HO257; clear BK258; clear HB; have HO257 := n0_; have HO263 := n1_; have BK258 := n2_; have HB := n3_; clear n0_ n1_ n2_ n3_; (try clear hb); (try clear hb2); (try clear hk); (try clear hi); (try clear ho0); obtain ⟨Ao16, co16, eo16⟩ := Kd.R_slice HO263.out; subst eo16))
      go_ret
      exact ⟨by first | rfl | (simp [errW_none, errW_some] <;> rfl) | (simp [*, errW_none, errW_some] <;> rfl), by repeat (first | (with_reducible first | exact HB.out | apply below_alloc | apply pw_below_drewN | apply below_drew1 | refine below_set ?_ GE258.out) | exact HB.out)⟩
    · rw [if_neg c3] at H
      have c3b0 : (t259 == 2) = false := beq_eq_false_iff_ne.mpr c3
      have c3b1 : (t259 != 2) = true := bne_iff_ne.mpr c3
      obtain rfl := Option.some.inj H
      go_enter Try.func18, Try.ntmps18
      go_wp2_with (first | ((with_reducible refine gate_dst (N := 4) rfl ?_); (try (refine gate_guard (by rfl) ?_; dsimp only)); refine Kd.R_lit (Kd.int .i64) _ 2 ?hg (N := 4) ?hd (xs := ([2] : List Int)) (inner := [.int .i64 2]) (ok := fun _ => True) (okp := fun _ => True) ?hr ?hp (fun _ hk => hk) trivial (Below.refl _ _) (Nat.le_refl _) (by simp) ?_; (case hd => rfl); (case hg => rfl); (case hr => first | (go_simp; done) | (go_simp; rfl)); (case hp => exact (Reps.one (show Kd.M (Kd.int .i64) _ _ _ 2 [.int .i64 2] from rfl) (Reps.none _ _))); intro v253 w17 ho18 hb hg_ hnew_; clear hg_ hnew_; (first | rw [← Ny252.out] at ho18 | (simp only [Int.reduceToNat] at ho18; rw [← Ny252.out] at ho18)); have n0_ := Aside0.mk (Kd.R_lower ho18 (below_size (by repeat (first | (with_reducible first | exact HB.out | apply below_alloc | apply pw_below_drewN | apply below_drew1) | exact HB.out)))); have n1_ := Aside0.mk (below_step (by repeat (first | (with_reducible first | exact HB.out | apply below_alloc | apply pw_below_drewN | apply below_drew1) | exact HB.out)) hb); clear HB; have HO254 := n0_; have HB := n1_; clear n0_ n1_; clear hb ho18; obtain ⟨Ao19, co19, eo19⟩ := Kd.R_slice HO254.out; subst eo19) | ((with_reducible refine gate_dst (N := 6) rfl ?_); (try (refine gate_guard (by rfl) ?_; dsimp only)); refine Kd.N_lit k38 _ 38 ?hg (N' := 6) ?hd (xs := ([(⟨(⟨#[97]⟩ : ByteArray), 5, 5, 0, 0, 0, y252, 0, 0⟩ : S38)] : List (S38))) (inner := [.string (⟨#[97]⟩ : ByteArray), .int .i64 5, .int .i64 5, .int .i64 0, .int .i64 0, .int .i64 0, .slice Ao19 y252.length co19, .int .u64 0, .int .u64 0]) (ok := (fun _ => True)) (okp := (fun _ => True)) ?hr ?hp (fun _ hk => hk) ((show ∀ k_, w17.heap.size ≤ k_ → (fun _ => True) k_ from fun k_ hk => trivial) _ (Nat.le_refl _)) (Below.refl _ _) (Nat.le_refl _) (by simp) ?_; (case hd => rfl); (case hg => rfl); (case hr => first | (go_simp; done) | (go_simp; rfl)); (case hp => exact (Reps.c9 (show Kd.FK k38 _ _ (⟨(⟨#[97]⟩ : ByteArray), 5, 5, 0, 0, 0, y252, 0, 0⟩ : S38) [.string (⟨#[97]⟩ : ByteArray), .int .i64 5, .int .i64 5, .int .i64 0, .int .i64 0, .int .i64 0, .slice Ao19 y252.length co19, .int .u64 0, .int .u64 0] from (k38_mkF _ _ (⟨(⟨#[97]⟩ : ByteArray), 5, 5, 0, 0, 0, y252, 0, 0⟩ : S38) (Kd.R_reads' (Kd.R_mono (ok' := (fun _ => True)) (HO254.out) (fun k_ hk => trivial))).2.1 (Kd.R_F (Kd.R_mono (ok' := (fun _ => True)) (HO254.out) (fun k_ hk => trivial))))) (Reps.none _ _))); intro v256 w20 ho21 hb hg_ hnew_; clear hg_ hnew_; (first | rw [← Ny255.out] at ho21 | (simp only [Int.reduceToNat] at ho21; rw [← Ny255.out] at ho21)); have n0_ := Aside0.mk (Kd.N_lower ho21 (below_size (by repeat (first | (with_reducible first | exact HB.out | apply below_alloc | apply pw_below_drewN | apply below_drew1) | exact HB.out)))); have n1_ := Aside0.mk (below_step (by repeat (first | (with_reducible first | exact HB.out | apply below_alloc | apply pw_below_drewN | apply below_drew1) | exact HB.out)) hb); clear HB; clear HO254; have HO257 := n0_; have HB := n1_; clear n0_ n1_; clear hb ho21; obtain ⟨Ao22, co22, eo22⟩ := Kd.N_slice HO257.out; subst eo22) | ((with_reducible refine gate_dst (N := 1) rfl ?_); (try (refine gate_guard (by rfl) ?_; dsimp only)); refine box_event ?hg (N := 1) ?hd (cs := #[.int .i64 0, .slice none 0 0]) (t := 24) ?hr ?_; (case hd => rfl); (case hg => rfl); (case hr => first | (go_simp; done) | (go_simp; rfl)); intro gb258 hg w23 hbox hb; have n0_ := Aside0.mk (Kd.N_below (Kd.N_elderB (by (with_reducible repeat (first | apply Kd.N_alloc | apply Kd.N_drewN | apply Kd.N_drew)); exact HO257.out) gb258 (Nat.le_of_eq hg.symm)) hb); have n1_ := Aside0.mk (below_step (by repeat (first | (with_reducible first | exact HB.out | apply below_alloc | apply pw_below_drewN | apply below_drew1) | exact HB.out)) hb); have n2_ := Aside0.mk (hbox); have n3_ := Aside0.mk ((by rw [hg]; exact (below_size (by repeat (first | (with_reducible first | exact HB.out | apply below_alloc | apply pw_below_drewN | apply below_drew1) | exact HB.out))) : w.heap.size ≤ gb258)); have n4_ := Aside0.mk ((by rw [hg]; exact (below_size (by repeat (first | (with_reducible first | exact HB.out | apply below_alloc | apply pw_below_drewN | apply below_drew1) | exact HB.out))) : w.heap.size ≤ gb258)); clear HO257; clear HB; have HO257 := n0_; have HB := n1_; have BK258 := n2_; have GW258 := n3_; have GE258 := n4_; clear n0_ n1_ n2_ n3_ n4_; clear hb hbox hg; have hcz24_0 : w23.cell? ⟨gb258, 0, none⟩ = some (.int .i64 0) := (blk_cell BK258.out 0).trans rfl; have hcz24_1 : w23.cell? ⟨gb258, 1, none⟩ = some (.slice none 0 0) := (blk_cell BK258.out 1).trans rfl; have hfz24_0 := blk_frozen BK258.out 0; have hfz24_1 := blk_frozen BK258.out 1) | ((with_reducible refine gate_callee (f := 13) rfl ?_); refine goesL_ (some 10) rfl rfl Try.func13 (by kernel_rfl) rfl #[.agg #[.int .i64 0, .slice Ao22 y255.length co22], .int .i64 0, .int .i64 0] rfl (by (try simp only [List.map_toArray, List.map_cons, List.map_nil]); first | done | rfl | (simp only [List.length_drop, List.length_take]; rfl)) ?_; (with_reducible refine (active_Of.calls k 0 _ _ y255 0 0 t259 true _ ?side1 ?side2 A1.out).mono ?_); (case side1 => refine (Kd.N_reads' (e := 38) (base := w.heap.size) (ok := fun k_ => (True ∧ k_ ≠ gb258)) (n := y255.length) (c := co22) ?_).2.2; exact (by (with_reducible repeat (first | apply Kd.N_alloc | apply Kd.N_drewN | apply Kd.N_drew)); exact (Kd.N_mono (Kd.N_far (p := ⟨gb258, 1, none⟩) (Kd.N_far (p := ⟨gb258, 0, none⟩) (Kd.N_mono HO257.out (fun k_ hk => (⟨hk, hk.2⟩ : _ ∧ k_ ≠ gb258))) (fun _ hk => hk.2) (.int .i64 0)) (fun _ hk => hk.2) (.slice Ao22 y255.length co22)) (fun _ h_ => h_.1)))); (case side2 => exact (Kd.N_reads' HO257.out).2.1); rintro e w25 ⟨rfl, hb⟩; refine ⟨_, rfl, ?_⟩; have n0_ := Aside0.mk (Kd.N_below (by (with_reducible repeat (first | apply Kd.N_alloc | apply Kd.N_drewN | apply Kd.N_drew)); exact (Kd.N_mono (Kd.N_far (p := ⟨gb258, 1, none⟩) (Kd.N_far (p := ⟨gb258, 0, none⟩) (Kd.N_mono HO257.out (fun k_ hk => (⟨hk, hk.2⟩ : _ ∧ k_ ≠ gb258))) (fun _ hk => hk.2) (.int .i64 0)) (fun _ hk => hk.2) (.slice Ao22 y255.length co22)) (fun _ h_ => h_.1))) hb); have n1_ := Aside0.mk (blk_below (g := gb258) (o := .cells #[.int .i64 0, .slice Ao22 y255.length co22] 24 (0, 0)) (by (with_reducible repeat (first | refine blk_drewN ?_ _ | refine blk_drew ?_ | refine blk_alloc ?_ _)); refine blk_put (cs := #[.int .i64 0, .slice none 0 0]) ?_ 1 _ rfl; (with_reducible repeat (first | refine blk_drewN ?_ _ | refine blk_drew ?_ | refine blk_alloc ?_ _)); refine blk_put (cs := #[.int .i64 0, .slice none 0 0]) ?_ 0 _ rfl; (with_reducible repeat (first | refine blk_drewN ?_ _ | refine blk_drew ?_ | refine blk_alloc ?_ _)); exact BK258.out) hb); have n2_ := Aside0.mk (below_step (by repeat (first | (with_reducible first | exact HB.out | apply below_alloc | apply pw_below_drewN | apply below_drew1 | refine below_set ?_ GE258.out) | exact HB.out)) hb); clear HO257; clear BK258; clear HB; have HO257 := n0_; have BK258 := n1_; have HB := n2_; clear n0_ n1_ n2_; (try clear hb); (try clear hb2); (try clear hk); (try clear hi)))
      go_ret
      exact ⟨by first | rfl | (simp [errW_none, errW_some] <;> rfl) | (simp [*, errW_none, errW_some] <;> rfl), by repeat (first | (with_reducible first | exact HB.out | apply below_alloc | apply pw_below_drewN | apply below_drew1 | refine below_set ?_ GE258.out) | exact HB.out)⟩
  · replace c2 := Bool.eq_false_iff.mpr c2
    subst c2
    have H1 : (some false) = some r := by rw [if_neg (show ¬ (false = true) by decide)] at H; exact H
    clear H
    have H := H1
    clear H1
    obtain rfl := Option.some.inj H
    go_enter Try.func18, Try.ntmps18
    go_wp2_with (first | ((with_reducible refine gate_dst (N := 4) rfl ?_); (try (refine gate_guard (by rfl) ?_; dsimp only)); refine Kd.R_lit (Kd.int .i64) _ 2 ?hg (N := 4) ?hd (xs := ([2] : List Int)) (inner := [.int .i64 2]) (ok := fun _ => True) (okp := fun _ => True) ?hr ?hp (fun _ hk => hk) trivial (Below.refl _ _) (Nat.le_refl _) (by simp) ?_; (case hd => rfl); (case hg => rfl); (case hr => first | (go_simp; done) | (go_simp; rfl)); (case hp => exact (Reps.one (show Kd.M (Kd.int .i64) _ _ _ 2 [.int .i64 2] from rfl) (Reps.none _ _))); intro v253 w26 ho27 hb hg_ hnew_; clear hg_ hnew_; (first | rw [← Ny252.out] at ho27 | (simp only [Int.reduceToNat] at ho27; rw [← Ny252.out] at ho27)); have n0_ := Aside0.mk (Kd.R_lower ho27 (below_size (by repeat (first | (with_reducible first | exact HB.out | apply below_alloc | apply pw_below_drewN | apply below_drew1) | exact HB.out)))); have n1_ := Aside0.mk (below_step (by repeat (first | (with_reducible first | exact HB.out | apply below_alloc | apply pw_below_drewN | apply below_drew1) | exact HB.out)) hb); clear HB; have HO254 := n0_; have HB := n1_; clear n0_ n1_; clear hb ho27; obtain ⟨Ao28, co28, eo28⟩ := Kd.R_slice HO254.out; subst eo28) | ((with_reducible refine gate_dst (N := 6) rfl ?_); (try (refine gate_guard (by rfl) ?_; dsimp only)); refine Kd.N_lit k38 _ 38 ?hg (N' := 6) ?hd (xs := ([(⟨(⟨#[97]⟩ : ByteArray), 5, 5, 0, 0, 0, y252, 0, 0⟩ : S38)] : List (S38))) (inner := [.string (⟨#[97]⟩ : ByteArray), .int .i64 5, .int .i64 5, .int .i64 0, .int .i64 0, .int .i64 0, .slice Ao28 y252.length co28, .int .u64 0, .int .u64 0]) (ok := (fun _ => True)) (okp := (fun _ => True)) ?hr ?hp (fun _ hk => hk) ((show ∀ k_, w26.heap.size ≤ k_ → (fun _ => True) k_ from fun k_ hk => trivial) _ (Nat.le_refl _)) (Below.refl _ _) (Nat.le_refl _) (by simp) ?_; (case hd => rfl); (case hg => rfl); (case hr => first | (go_simp; done) | (go_simp; rfl)); (case hp => exact (Reps.c9 (show Kd.FK k38 _ _ (⟨(⟨#[97]⟩ : ByteArray), 5, 5, 0, 0, 0, y252, 0, 0⟩ : S38) [.string (⟨#[97]⟩ : ByteArray), .int .i64 5, .int .i64 5, .int .i64 0, .int .i64 0, .int .i64 0, .slice Ao28 y252.length co28, .int .u64 0, .int .u64 0] from (k38_mkF _ _ (⟨(⟨#[97]⟩ : ByteArray), 5, 5, 0, 0, 0, y252, 0, 0⟩ : S38) (Kd.R_reads' (Kd.R_mono (ok' := (fun _ => True)) (HO254.out) (fun k_ hk => trivial))).2.1 (Kd.R_F (Kd.R_mono (ok' := (fun _ => True)) (HO254.out) (fun k_ hk => trivial))))) (Reps.none _ _))); intro v256 w29 ho30 hb hg_ hnew_; clear hg_ hnew_; (first | rw [← Ny255.out] at ho30 | (simp only [Int.reduceToNat] at ho30; rw [← Ny255.out] at ho30)); have n0_ := Aside0.mk (Kd.N_lower ho30 (below_size (by repeat (first | (with_reducible first | exact HB.out | apply below_alloc | apply pw_below_drewN | apply below_drew1) | exact HB.out)))); have n1_ := Aside0.mk (below_step (by repeat (first | (with_reducible first | exact HB.out | apply below_alloc | apply pw_below_drewN | apply below_drew1) | exact HB.out)) hb); clear HB; clear HO254; have HO257 := n0_; have HB := n1_; clear n0_ n1_; clear hb ho30; obtain ⟨Ao31, co31, eo31⟩ := Kd.N_slice HO257.out; subst eo31) | ((with_reducible refine gate_dst (N := 1) rfl ?_); (try (refine gate_guard (by rfl) ?_; dsimp only)); refine box_event ?hg (N := 1) ?hd (cs := #[.int .i64 0, .slice none 0 0]) (t := 24) ?hr ?_; (case hd => rfl); (case hg => rfl); (case hr => first | (go_simp; done) | (go_simp; rfl)); intro gb258 hg w32 hbox hb; have n0_ := Aside0.mk (Kd.N_below (Kd.N_elderB (by (with_reducible repeat (first | apply Kd.N_alloc | apply Kd.N_drewN | apply Kd.N_drew)); exact HO257.out) gb258 (Nat.le_of_eq hg.symm)) hb); have n1_ := Aside0.mk (below_step (by repeat (first | (with_reducible first | exact HB.out | apply below_alloc | apply pw_below_drewN | apply below_drew1) | exact HB.out)) hb); have n2_ := Aside0.mk (hbox); have n3_ := Aside0.mk ((by rw [hg]; exact (below_size (by repeat (first | (with_reducible first | exact HB.out | apply below_alloc | apply pw_below_drewN | apply below_drew1) | exact HB.out))) : w.heap.size ≤ gb258)); have n4_ := Aside0.mk ((by rw [hg]; exact (below_size (by repeat (first | (with_reducible first | exact HB.out | apply below_alloc | apply pw_below_drewN | apply below_drew1) | exact HB.out))) : w.heap.size ≤ gb258)); clear HO257; clear HB; have HO257 := n0_; have HB := n1_; have BK258 := n2_; have GW258 := n3_; have GE258 := n4_; clear n0_ n1_ n2_ n3_ n4_; clear hb hbox hg; have hcz33_0 : w32.cell? ⟨gb258, 0, none⟩ = some (.int .i64 0) := (blk_cell BK258.out 0).trans rfl; have hcz33_1 : w32.cell? ⟨gb258, 1, none⟩ = some (.slice none 0 0) := (blk_cell BK258.out 1).trans rfl; have hfz33_0 := blk_frozen BK258.out 0; have hfz33_1 := blk_frozen BK258.out 1) | ((with_reducible refine gate_callee (f := 13) rfl ?_); refine goesL_ (some 10) rfl rfl Try.func13 (by kernel_rfl) rfl #[.agg #[.int .i64 0, .slice Ao31 y255.length co31], .int .i64 0, .int .i64 0] rfl (by (try simp only [List.map_toArray, List.map_cons, List.map_nil]); first | done | rfl | (simp only [List.length_drop, List.length_take]; rfl)) ?_; (with_reducible refine (active_Of.calls k 0 _ _ y255 0 0 t259 false _ ?side1 ?side2 A1.out).mono ?_); (case side1 => refine (Kd.N_reads' (e := 38) (base := w.heap.size) (ok := fun k_ => (True ∧ k_ ≠ gb258)) (n := y255.length) (c := co31) ?_).2.2; exact (by (with_reducible repeat (first | apply Kd.N_alloc | apply Kd.N_drewN | apply Kd.N_drew)); exact (Kd.N_mono (Kd.N_far (p := ⟨gb258, 1, none⟩) (Kd.N_far (p := ⟨gb258, 0, none⟩) (Kd.N_mono HO257.out (fun k_ hk => (⟨hk, hk.2⟩ : _ ∧ k_ ≠ gb258))) (fun _ hk => hk.2) (.int .i64 0)) (fun _ hk => hk.2) (.slice Ao31 y255.length co31)) (fun _ h_ => h_.1)))); (case side2 => exact (Kd.N_reads' HO257.out).2.1); rintro e w34 ⟨rfl, hb⟩; refine ⟨_, rfl, ?_⟩; have n0_ := Aside0.mk (Kd.N_below (by (with_reducible repeat (first | apply Kd.N_alloc | apply Kd.N_drewN | apply Kd.N_drew)); exact (Kd.N_mono (Kd.N_far (p := ⟨gb258, 1, none⟩) (Kd.N_far (p := ⟨gb258, 0, none⟩) (Kd.N_mono HO257.out (fun k_ hk => (⟨hk, hk.2⟩ : _ ∧ k_ ≠ gb258))) (fun _ hk => hk.2) (.int .i64 0)) (fun _ hk => hk.2) (.slice Ao31 y255.length co31)) (fun _ h_ => h_.1))) hb); have n1_ := Aside0.mk (blk_below (g := gb258) (o := .cells #[.int .i64 0, .slice Ao31 y255.length co31] 24 (0, 0)) (by (with_reducible repeat (first | refine blk_drewN ?_ _ | refine blk_drew ?_ | refine blk_alloc ?_ _)); refine blk_put (cs := #[.int .i64 0, .slice none 0 0]) ?_ 1 _ rfl; (with_reducible repeat (first | refine blk_drewN ?_ _ | refine blk_drew ?_ | refine blk_alloc ?_ _)); refine blk_put (cs := #[.int .i64 0, .slice none 0 0]) ?_ 0 _ rfl; (with_reducible repeat (first | refine blk_drewN ?_ _ | refine blk_drew ?_ | refine blk_alloc ?_ _)); exact BK258.out) hb); have n2_ := Aside0.mk (below_step (by repeat (first | (with_reducible first | exact HB.out | apply below_alloc | apply pw_below_drewN | apply below_drew1 | refine below_set ?_ GE258.out) | exact HB.out)) hb); clear HO257; clear BK258; clear HB; have HO257 := n0_; have BK258 := n1_; have HB := n2_; clear n0_ n1_ n2_; (try clear hb); (try clear hb2); (try clear hk); (try clear hi)))
    go_ret
    exact ⟨by first | rfl | (simp [errW_none, errW_some] <;> rfl) | (simp [*, errW_none, errW_some] <;> rfl), by repeat (first | (with_reducible first | exact HB.out | apply below_alloc | apply pw_below_drewN | apply below_drew1 | refine below_set ?_ GE258.out) | exact HB.out)⟩
end Go.Proofs.Ytllnlmcofaomlaa.QAc
namespace Go.Proofs.Ytllnlmcofaomlaa.QAc
open Go.RowKit Go.Proofs.YtllnlmcofaomlaaW.PrintWords Go.Proofs.YtllnlmcofaomlaaW.PrintLast Go.Proofs.YtllnlmcofaomlaaW.PrintMore
attribute [local go_sem] max2_int min2_int max_two min_two max_three min_three max_four min_four   -- for this text's walks alone
set_option linter.unusedVariables false
set_option linter.unusedSimpArgs false
def taskmasterlaw11_ActiveLess.j0 : Nat → Int → Int → Int → Bool → Int → List (S38) → Option (Bool)
  | 0, _, _, _, _, _, _ => none
  | k + 1, x1, x2, x3, x30, x284000, x284001 => if x30 = true then (some true) else ((active_Of.f k x284000 x284001 x1 x2).bind fun bt285 => ((active_Of.f k x284000 x284001 x1 (wrap64 (x2 - x3))).bind fun bt287 => (if bt285.2 = true then (if bt287.2 = true then (if bt287.1 ≤ bt285.1 then ((taskmasterlaw11_known.f k).bind fun t289 => (some t289)) else (some false)) else (some false)) else ((taskmasterlaw11_known.f k).bind fun t290 => (some t290)))))
def taskmasterlaw11_ActiveLess.f (k : Nat) (a0_0 : Int) (l0_1 : List (S38)) (a1 : Int) (a2 : Int) (a3 : Int) : Option (Bool) := if (l0_1.length : Int) > 10 then (taskmasterlaw11_ActiveLess.j0 k a1 a2 a3 true a0_0 l0_1) else ((taskmasterref5_All.f k a0_0 l0_1).bind fun t284 => (if t284 = true then (if a3 < 0 then (taskmasterlaw11_ActiveLess.j0 k a1 a2 a3 true a0_0 l0_1) else (taskmasterlaw11_ActiveLess.j0 k a1 a2 a3 (decide (a3 > a2)) a0_0 l0_1)) else (taskmasterlaw11_ActiveLess.j0 k a1 a2 a3 true a0_0 l0_1)))
set_option maxHeartbeats 8000000 in
set_option maxRecDepth 100000 in
theorem taskmasterlaw11_ActiveLess.calls (k : Nat) (a0_0 : Int) (A0_1 : Option Addr) (c0_1 : Nat) (l0_1 : List (S38)) (a1 : Int) (a2 : Int) (a3 : Int) (r : Bool) (w : World) (hr0_1 : Kd.C k38 w A0_1 l0_1.length l0_1) (hc0_1 : l0_1.length ≤ c0_1) (h : taskmasterlaw11_ActiveLess.f k a0_0 l0_1 a1 a2 a3 = some r) :
    Calls Try.prog 4 #[.agg #[.int .i64 a0_0, .slice A0_1 l0_1.length c0_1], .int .i64 a1, .int .i64 a2, .int .i64 a3] w fun e w' => e = .returned (.bool r) ∧ Below w.heap.size w w' := by
  have hu24 := Try.underlying24
  have HR0_1 := Aside0.mk hr0_1
  have HC0_1 := Aside0.mk hc0_1
  clear hr0_1 hc0_1
  have HB := Aside0.mk (Below.refl w.heap.size w)
  have H : (if (l0_1.length : Int) > 10 then (taskmasterlaw11_ActiveLess.j0 k a1 a2 a3 true a0_0 l0_1) else ((taskmasterref5_All.f k a0_0 l0_1).bind fun t284 => (if t284 = true then (if a3 < 0 then (taskmasterlaw11_ActiveLess.j0 k a1 a2 a3 true a0_0 l0_1) else (taskmasterlaw11_ActiveLess.j0 k a1 a2 a3 (decide (a3 > a2)) a0_0 l0_1)) else (taskmasterlaw11_ActiveLess.j0 k a1 a2 a3 true a0_0 l0_1)))) = some r := h
  clear h
  have HC5 := Aside0.mk H
  clear H
  go_enter Try.func4, Try.ntmps4
  go_upto_region 1 with (first | ((with_reducible refine gate_dst (N := 4) rfl ?_); refine box_event ?hg (N := 4) ?hd (cs := #[.int .i64 a0_0, .slice A0_1 l0_1.length c0_1]) (t := 24) ?hr ?_; (case hd => rfl); (case hg => rfl); (case hr => first | (go_simp; done) | (go_simp; rfl)); intro gb283 hg w6 hbox hb; have n0_ := Aside0.mk (below_step (by repeat (first | (with_reducible first | exact HB.out | apply below_alloc | apply pw_below_drewN | apply below_drew1) | exact HB.out)) hb); have n1_ := Aside0.mk (hbox); have n2_ := Aside0.mk ((by rw [hg]; exact (below_size (by repeat (first | (with_reducible first | exact HB.out | apply below_alloc | apply pw_below_drewN | apply below_drew1) | exact HB.out))) : w.heap.size ≤ gb283)); have n3_ := Aside0.mk ((by rw [hg]; exact (below_size (by repeat (first | (with_reducible first | exact HB.out | apply below_alloc | apply pw_below_drewN | apply below_drew1) | exact HB.out))) : w.heap.size ≤ gb283)); clear HB; have HB := n0_; have BK283 := n1_; have GW283 := n2_; have GE283 := n3_; clear n0_ n1_ n2_ n3_; clear hb hbox hg))
  (try simp only [Act.put, List.setIfInBounds_toArray, List.set_cons_zero, List.set_cons_succ])
  go_cut [30] (fun v30 wc => ∃ (kq : Nat) (x30_4 : Bool), v30 = .bool x30_4 ∧ Aside0 (taskmasterlaw11_ActiveLess.j0 kq a1 a2 a3 x30_4 a0_0 l0_1 = some r) ∧ Aside0 (kq ≤ k) ∧ Aside0 (wc.heap[gb283]? = some (.cells #[.int .i64 a0_0, (.slice A0_1 l0_1.length c0_1)] 24 (0, 0))) ∧ Aside0 (Below w.heap.size w wc))
  case first =>
    have H := HC5.out
    clear HC5
    by_cases c7 : (l0_1.length : Int) > 10
    · rw [if_pos c7] at H
      have c7b0 : decide (10 < (l0_1.length : Int)) = true := decide_eq_true c7
      have c7b1 : decide (10 < l0_1.length) = true := decide_eq_true (by omega)
      clear c7
      (first | rw [c7b0] | (simp only [i64_w, i32_w]; rw [c7b0]) | skip)
      have H' := Aside0.mk H
      clear H
      have hcz8_0 : w6.cell? ⟨gb283, 0, none⟩ = some (.int .i64 a0_0) := (blk_cell BK283.out 0).trans rfl
      have hcz8_1 : w6.cell? ⟨gb283, 1, none⟩ = some (.slice A0_1 l0_1.length c0_1) := (blk_cell BK283.out 1).trans rfl
      have hfz8_0 := blk_frozen BK283.out 0
      have hfz8_1 := blk_frozen BK283.out 1
      go_wp2
      go_meet
      case rel => exact ⟨_, (true), (by first | rfl | (simp; done) | (simp [*]; done)), H', ⟨by first | omega | exact Nat.le_refl _⟩, ⟨by (with_reducible repeat (first | refine blk_drewN ?_ _ | refine blk_drew ?_ | refine blk_alloc ?_ _)); exact BK283.out⟩, ⟨by repeat (first | (with_reducible first | exact HB.out | apply below_alloc | apply pw_below_drewN | apply below_drew1 | refine below_set ?_ GE283.out) | exact HB.out)⟩⟩
    · rw [if_neg c7] at H
      have c7b0 : decide (10 < (l0_1.length : Int)) = false := decide_eq_false c7
      have c7b1 : decide (10 < l0_1.length) = false := decide_eq_false (by omega)
      clear c7
      (first | rw [c7b0] | (simp only [i64_w, i32_w]; rw [c7b0]) | skip)
      replace H := Option.bind_eq_some_iff.mp H
      obtain ⟨t284, A90, H⟩ := H
      replace H : (if t284 = true then (if a3 < 0 then (taskmasterlaw11_ActiveLess.j0 k a1 a2 a3 true a0_0 l0_1) else (taskmasterlaw11_ActiveLess.j0 k a1 a2 a3 (decide (a3 > a2)) a0_0 l0_1)) else (taskmasterlaw11_ActiveLess.j0 k a1 a2 a3 true a0_0 l0_1)) = some r := H
      have A9 := Aside0.mk A90
      clear A90
      by_cases c10 : t284 = true
      · subst c10
        have H1 : (if a3 < 0 then (taskmasterlaw11_ActiveLess.j0 k a1 a2 a3 true a0_0 l0_1) else (taskmasterlaw11_ActiveLess.j0 k a1 a2 a3 (decide (a3 > a2)) a0_0 l0_1)) = some r := by rw [if_pos rfl] at H; exact H
        clear H
        have H := H1
        clear H1
        by_cases c11 : a3 < 0
        · rw [if_pos c11] at H
          have c11b0 : decide (a3 < 0) = true := decide_eq_true c11
          clear c11
          have H' := Aside0.mk H
          clear H
          have hcz12_0 : w6.cell? ⟨gb283, 0, none⟩ = some (.int .i64 a0_0) := (blk_cell BK283.out 0).trans rfl
          have hcz12_1 : w6.cell? ⟨gb283, 1, none⟩ = some (.slice A0_1 l0_1.length c0_1) := (blk_cell BK283.out 1).trans rfl
          have hfz12_0 := blk_frozen BK283.out 0
          have hfz12_1 := blk_frozen BK283.out 1
          go_wp2_with (first | (go_at_call 12; (with_reducible refine (taskmasterref5_All.calls k a0_0 _ _ l0_1 true _ ?side1 ?side2 A9.out).mono ?_); (case side1 => repeat (first | exact (Kd.C_below HR0_1.out HB.out) | (with_reducible refine Kd.C_alloc ?_ _) | (with_reducible refine Kd.C_drewN ?_ _) | (with_reducible refine Kd.C_drew ?_))); (case side2 => exact HC0_1.out); rintro e w13 ⟨rfl, hb⟩; have n0_ := Aside0.mk (blk_below (g := gb283) (o := .cells #[.int .i64 a0_0, .slice A0_1 l0_1.length c0_1] 24 (0, 0)) (by (with_reducible repeat (first | refine blk_drewN ?_ _ | refine blk_drew ?_ | refine blk_alloc ?_ _)); exact BK283.out) hb); have n1_ := Aside0.mk (below_step (by repeat (first | (with_reducible first | exact HB.out | apply below_alloc | apply pw_below_drewN | apply below_drew1 | refine below_set ?_ GE283.out) | exact HB.out)) hb); clear BK283; clear HB; have BK283 := n0_; have HB := n1_; clear n0_ n1_; (try clear hb); (try clear hb2); (try clear hk); (try clear hi)))
          go_meet
          case rel => exact ⟨_, (true), (by first | rfl | (simp; done) | (simp [*]; done)), H', ⟨by first | omega | exact Nat.le_refl _⟩, ⟨by (with_reducible repeat (first | refine blk_drewN ?_ _ | refine blk_drew ?_ | refine blk_alloc ?_ _)); exact BK283.out⟩, ⟨by repeat (first | (with_reducible first | exact HB.out | apply below_alloc | apply pw_below_drewN | apply below_drew1 | refine below_set ?_ GE283.out) | exact HB.out)⟩⟩
        · rw [if_neg c11] at H
          have c11b0 : decide (a3 < 0) = false := decide_eq_false c11
          clear c11
          have H' := Aside0.mk H
          clear H
          have hcz14_0 : w6.cell? ⟨gb283, 0, none⟩ = some (.int .i64 a0_0) := (blk_cell BK283.out 0).trans rfl
          have hcz14_1 : w6.cell? ⟨gb283, 1, none⟩ = some (.slice A0_1 l0_1.length c0_1) := (blk_cell BK283.out 1).trans rfl
          have hfz14_0 := blk_frozen BK283.out 0
          have hfz14_1 := blk_frozen BK283.out 1
          go_wp2_with (first | (go_at_call 12; (with_reducible refine (taskmasterref5_All.calls k a0_0 _ _ l0_1 true _ ?side1 ?side2 A9.out).mono ?_); (case side1 => repeat (first | exact (Kd.C_below HR0_1.out HB.out) | (with_reducible refine Kd.C_alloc ?_ _) | (with_reducible refine Kd.C_drewN ?_ _) | (with_reducible refine Kd.C_drew ?_))); (case side2 => exact HC0_1.out); rintro e w15 ⟨rfl, hb⟩; have n0_ := Aside0.mk (blk_below (g := gb283) (o := .cells #[.int .i64 a0_0, .slice A0_1 l0_1.length c0_1] 24 (0, 0)) (by (with_reducible repeat (first | refine blk_drewN ?_ _ | refine blk_drew ?_ | refine blk_alloc ?_ _)); exact BK283.out) hb); have n1_ := Aside0.mk (below_step (by repeat (first | (with_reducible first | exact HB.out | apply below_alloc | apply pw_below_drewN | apply below_drew1 | refine below_set ?_ GE283.out) | exact HB.out)) hb); clear BK283; clear HB; have BK283 := n0_; have HB := n1_; clear n0_ n1_; (try clear hb); (try clear hb2); (try clear hk); (try clear hi)))
          go_meet
          case rel => exact ⟨_, (decide (a3 > a2)), (by first | rfl | (simp; done) | (simp [*]; done)), H', ⟨by first | omega | exact Nat.le_refl _⟩, ⟨by (with_reducible repeat (first | refine blk_drewN ?_ _ | refine blk_drew ?_ | refine blk_alloc ?_ _)); exact BK283.out⟩, ⟨by repeat (first | (with_reducible first | exact HB.out | apply below_alloc | apply pw_below_drewN | apply below_drew1 | refine below_set ?_ GE283.out) | exact HB.out)⟩⟩
      · replace c10 := Bool.eq_false_iff.mpr c10
        subst c10
        have H1 : (taskmasterlaw11_ActiveLess.j0 k a1 a2 a3 true a0_0 l0_1) = some r := by rw [if_neg (show ¬ (false = true) by decide)] at H; exact H
        clear H
        have H := H1
        clear H1
        have H' := Aside0.mk H
        clear H
        have hcz16_0 : w6.cell? ⟨gb283, 0, none⟩ = some (.int .i64 a0_0) := (blk_cell BK283.out 0).trans rfl
        have hcz16_1 : w6.cell? ⟨gb283, 1, none⟩ = some (.slice A0_1 l0_1.length c0_1) := (blk_cell BK283.out 1).trans rfl
        have hfz16_0 := blk_frozen BK283.out 0
        have hfz16_1 := blk_frozen BK283.out 1
        go_wp2_with (first | (go_at_call 12; (with_reducible refine (taskmasterref5_All.calls k a0_0 _ _ l0_1 false _ ?side1 ?side2 A9.out).mono ?_); (case side1 => repeat (first | exact (Kd.C_below HR0_1.out HB.out) | (with_reducible refine Kd.C_alloc ?_ _) | (with_reducible refine Kd.C_drewN ?_ _) | (with_reducible refine Kd.C_drew ?_))); (case side2 => exact HC0_1.out); rintro e w17 ⟨rfl, hb⟩; have n0_ := Aside0.mk (blk_below (g := gb283) (o := .cells #[.int .i64 a0_0, .slice A0_1 l0_1.length c0_1] 24 (0, 0)) (by (with_reducible repeat (first | refine blk_drewN ?_ _ | refine blk_drew ?_ | refine blk_alloc ?_ _)); exact BK283.out) hb); have n1_ := Aside0.mk (below_step (by repeat (first | (with_reducible first | exact HB.out | apply below_alloc | apply pw_below_drewN | apply below_drew1 | refine below_set ?_ GE283.out) | exact HB.out)) hb); clear BK283; clear HB; have BK283 := n0_; have HB := n1_; clear n0_ n1_; (try clear hb); (try clear hb2); (try clear hk); (try clear hi)))
        go_meet
        case rel => exact ⟨_, (true), (by first | rfl | (simp; done) | (simp [*]; done)), H', ⟨by first | omega | exact Nat.le_refl _⟩, ⟨by (with_reducible repeat (first | refine blk_drewN ?_ _ | refine blk_drew ?_ | refine blk_alloc ?_ _)); exact BK283.out⟩, ⟨by repeat (first | (with_reducible first | exact HB.out | apply below_alloc | apply pw_below_drewN | apply below_drew1 | refine below_set ?_ GE283.out) | exact HB.out)⟩⟩
  case rest =>
    clear HC5
    try clear c1
    try clear p2
    try clear c4
    try clear c7
    try clear c7b0
    try clear c7b1
    try clear c10
    try clear c11
    try clear c11b0
    try clear hcz12_0
    try clear hcz12_1
    try clear hcz14_0
    try clear hcz14_1
    try clear hcz16_0
    try clear hcz16_1
    try clear hcz8_0
    try clear hcz8_1
    try clear hfz12_0
    try clear hfz12_1
    try clear hfz14_0
    try clear hfz14_1
    try clear hfz16_0
    try clear hfz16_1
    try clear hfz8_0
    try clear hfz8_1
    obtain ⟨kq, x30_4, rfl, HA, HJ4, BK283, HB⟩ := hcut
    cases kq with
    | zero => exact absurd HA.out (by simp [taskmasterlaw11_ActiveLess.j0])
    | succ kj4 =>
      have H := HA.out
      clear HA
      simp only [taskmasterlaw11_ActiveLess.j0] at H
      by_cases c18 : x30_4 = true
      · subst c18
        have H1 : (some true) = some r := by rw [if_pos rfl] at H; exact H
        clear H
        have H := H1
        clear H1
        obtain rfl := Option.some.inj H
        go_wp2
        go_ret
        exact ⟨by first | rfl | (simp [errW_none, errW_some] <;> rfl) | (simp [*, errW_none, errW_some] <;> rfl), by repeat (first | (with_reducible first | exact HB.out | apply below_alloc | apply pw_below_drewN | apply below_drew1 | refine below_set ?_ GE283.out) | exact HB.out)⟩
      · replace c18 := Bool.eq_false_iff.mpr c18
        subst c18
        have H1 : ((active_Of.f kj4 a0_0 l0_1 a1 a2).bind fun bt285 => ((active_Of.f kj4 a0_0 l0_1 a1 (wrap64 (a2 - a3))).bind fun bt287 => (if bt285.2 = true then (if bt287.2 = true then (if bt287.1 ≤ bt285.1 then ((taskmasterlaw11_known.f kj4).bind fun t289 => (some t289)) else (some false)) else (some false)) else ((taskmasterlaw11_known.f kj4).bind fun t290 => (some t290))))) = some r := by rw [if_neg (show ¬ (false = true) by decide)] at H; exact H
        clear H
        have H := H1
        clear H1
        replace H := Option.bind_eq_some_iff.mp H
        obtain ⟨⟨t285, t286⟩, A190, H⟩ := H
        replace H : ((active_Of.f kj4 a0_0 l0_1 a1 (wrap64 (a2 - a3))).bind fun bt287 => (if t286 = true then (if bt287.2 = true then (if bt287.1 ≤ t285 then ((taskmasterlaw11_known.f kj4).bind fun t289 => (some t289)) else (some false)) else (some false)) else ((taskmasterlaw11_known.f kj4).bind fun t290 => (some t290)))) = some r := H
        have A19 := Aside0.mk A190
        clear A190
        replace H := Option.bind_eq_some_iff.mp H
        obtain ⟨⟨t287, t288⟩, A200, H⟩ := H
        replace H : (if t286 = true then (if t288 = true then (if t287 ≤ t285 then ((taskmasterlaw11_known.f kj4).bind fun t289 => (some t289)) else (some false)) else (some false)) else ((taskmasterlaw11_known.f kj4).bind fun t290 => (some t290))) = some r := H
        have A20 := Aside0.mk A200
        clear A200
        by_cases c21 : t286 = true
        · subst c21
          have H1 : (if t288 = true then (if t287 ≤ t285 then ((taskmasterlaw11_known.f kj4).bind fun t289 => (some t289)) else (some false)) else (some false)) = some r := by rw [if_pos rfl] at H; exact H
          clear H
          have H := H1
          clear H1
          by_cases c22 : t288 = true
          · subst c22
            have H1 : (if t287 ≤ t285 then ((taskmasterlaw11_known.f kj4).bind fun t289 => (some t289)) else (some false)) = some r := by rw [if_pos rfl] at H; exact H
            clear H
            have H := H1
            clear H1
            by_cases c23 : t287 ≤ t285
            · rw [if_pos c23] at H
              have c23b0 : decide (t287 ≤ t285) = true := decide_eq_true c23
              clear c23
              replace H := Option.bind_eq_some_iff.mp H
              obtain ⟨t289, A240, H⟩ := H
              replace H : (some t289) = some r := H
              have A24 := Aside0.mk A240
              clear A240
              obtain rfl := Option.some.inj H
              have hcz25_0 : wc.cell? ⟨gb283, 0, none⟩ = some (.int .i64 a0_0) := (blk_cell BK283.out 0).trans rfl
              have hcz25_1 : wc.cell? ⟨gb283, 1, none⟩ = some (.slice A0_1 l0_1.length c0_1) := (blk_cell BK283.out 1).trans rfl
              have hfz25_0 := blk_frozen BK283.out 0
              have hfz25_1 := blk_frozen BK283.out 1
              go_wp2_with (first | ((with_reducible refine gate_callee (f := 13) rfl ?_); refine goesL_ (some 35) rfl rfl Try.func13 (by kernel_rfl) rfl #[.agg #[.int .i64 a0_0, .slice A0_1 l0_1.length c0_1], .int .i64 a1, .int .i64 a2] rfl (by (try simp only [List.map_toArray, List.map_cons, List.map_nil]); first | done | rfl | (simp only [List.length_drop, List.length_take]; rfl)) ?_; (with_reducible refine (active_Of.calls kj4 a0_0 _ _ l0_1 a1 a2 t285 true _ ?side1 ?side2 A19.out).mono ?_); (case side1 => repeat (first | exact (Kd.C_below HR0_1.out HB.out) | (with_reducible refine Kd.C_alloc ?_ _) | (with_reducible refine Kd.C_drewN ?_ _) | (with_reducible refine Kd.C_drew ?_))); (case side2 => exact HC0_1.out); rintro e w26 ⟨rfl, hb⟩; refine ⟨_, rfl, ?_⟩; have n0_ := Aside0.mk (blk_below (g := gb283) (o := .cells #[.int .i64 a0_0, .slice A0_1 l0_1.length c0_1] 24 (0, 0)) (by (with_reducible repeat (first | refine blk_drewN ?_ _ | refine blk_drew ?_ | refine blk_alloc ?_ _)); exact BK283.out) hb); have n1_ := Aside0.mk (below_step (by repeat (first | (with_reducible first | exact HB.out | apply below_alloc | apply pw_below_drewN | apply below_drew1 | refine below_set ?_ GE283.out) | exact HB.out)) hb); clear BK283; clear HB; have BK283 := n0_; have HB := n1_; clear n0_ n1_; (try clear hb); (try clear hb2); (try clear hk); (try clear hi); have hcz27_0 : w26.cell? ⟨gb283, 0, none⟩ = some (.int .i64 a0_0) := (blk_cell BK283.out 0).trans rfl; have hcz27_1 : w26.cell? ⟨gb283, 1, none⟩ = some (.slice A0_1 l0_1.length c0_1) := (blk_cell BK283.out 1).trans rfl; have hfz27_0 := blk_frozen BK283.out 0; have hfz27_1 := blk_frozen BK283.out 1) | ((with_reducible refine gate_callee (f := 13) rfl ?_); refine goesL_ (some 44) rfl rfl Try.func13 (by kernel_rfl) rfl #[.agg #[.int .i64 a0_0, .slice A0_1 l0_1.length c0_1], .int .i64 a1, .int .i64 (wrap64 (a2 - a3))] rfl (by (try simp only [List.map_toArray, List.map_cons, List.map_nil]); first | done | rfl | (simp only [List.length_drop, List.length_take]; rfl)) ?_; (with_reducible refine (active_Of.calls kj4 a0_0 _ _ l0_1 a1 (wrap64 (a2 - a3)) t287 true _ ?side1 ?side2 A20.out).mono ?_); (case side1 => repeat (first | exact (Kd.C_below HR0_1.out HB.out) | (with_reducible refine Kd.C_alloc ?_ _) | (with_reducible refine Kd.C_drewN ?_ _) | (with_reducible refine Kd.C_drew ?_))); (case side2 => exact HC0_1.out); rintro e w28 ⟨rfl, hb⟩; refine ⟨_, rfl, ?_⟩; have n0_ := Aside0.mk (blk_below (g := gb283) (o := .cells #[.int .i64 a0_0, .slice A0_1 l0_1.length c0_1] 24 (0, 0)) (by (with_reducible repeat (first | refine blk_drewN ?_ _ | refine blk_drew ?_ | refine blk_alloc ?_ _)); exact BK283.out) hb); have n1_ := Aside0.mk (below_step (by repeat (first | (with_reducible first | exact HB.out | apply below_alloc | apply pw_below_drewN | apply below_drew1 | refine below_set ?_ GE283.out) | exact HB.out)) hb); clear BK283; clear HB; have BK283 := n0_; have HB := n1_; clear n0_ n1_; (try clear hb); (try clear hb2); (try clear hk); (try clear hi)) | (go_at_call 18; (with_reducible refine (taskmasterlaw11_known.calls kj4  t289 _ A24.out).mono ?_); rintro e w29 ⟨rfl, hb⟩; have n0_ := Aside0.mk (blk_below (g := gb283) (o := .cells #[.int .i64 a0_0, .slice A0_1 l0_1.length c0_1] 24 (0, 0)) (by (with_reducible repeat (first | refine blk_drewN ?_ _ | refine blk_drew ?_ | refine blk_alloc ?_ _)); exact BK283.out) hb); have n1_ := Aside0.mk (below_step (by repeat (first | (with_reducible first | exact HB.out | apply below_alloc | apply pw_below_drewN | apply below_drew1 | refine below_set ?_ GE283.out) | exact HB.out)) hb); clear BK283; clear HB; have BK283 := n0_; have HB := n1_; clear n0_ n1_; (try clear hb); (try clear hb2); (try clear hk); (try clear hi)))
              go_ret
              exact ⟨by first | rfl | (simp [errW_none, errW_some] <;> rfl) | (simp [*, errW_none, errW_some] <;> rfl), by repeat (first | (with_reducible first | exact HB.out | apply below_alloc | apply pw_below_drewN | apply below_drew1 | refine below_set ?_ GE283.out) | exact HB.out)⟩
            · rw [if_neg c23] at H
              have c23b0 : decide (t287 ≤ t285) = false := decide_eq_false c23
              clear c23
              obtain rfl := Option.some.inj H
              have hcz30_0 : wc.cell? ⟨gb283, 0, none⟩ = some (.int .i64 a0_0) := (blk_cell BK283.out 0).trans rfl
              have hcz30_1 : wc.cell? ⟨gb283, 1, none⟩ = some (.slice A0_1 l0_1.length c0_1) := (blk_cell BK283.out 1).trans rfl
              have hfz30_0 := blk_frozen BK283.out 0
              have hfz30_1 := blk_frozen BK283.out 1
              go_wp2_with (first | ((with_reducible refine gate_callee (f := 13) rfl ?_); refine goesL_ (some 35) rfl rfl Try.func13 (by kernel_rfl) rfl #[.agg #[.int .i64 a0_0, .slice A0_1 l0_1.length c0_1], .int .i64 a1, .int .i64 a2] rfl (by (try simp only [List.map_toArray, List.map_cons, List.map_nil]); first | done | rfl | (simp only [List.length_drop, List.length_take]; rfl)) ?_; (with_reducible refine (active_Of.calls kj4 a0_0 _ _ l0_1 a1 a2 t285 true _ ?side1 ?side2 A19.out).mono ?_); (case side1 => repeat (first | exact (Kd.C_below HR0_1.out HB.out) | (with_reducible refine Kd.C_alloc ?_ _) | (with_reducible refine Kd.C_drewN ?_ _) | (with_reducible refine Kd.C_drew ?_))); (case side2 => exact HC0_1.out); rintro e w31 ⟨rfl, hb⟩; refine ⟨_, rfl, ?_⟩; have n0_ := Aside0.mk (blk_below (g := gb283) (o := .cells #[.int .i64 a0_0, .slice A0_1 l0_1.length c0_1] 24 (0, 0)) (by (with_reducible repeat (first | refine blk_drewN ?_ _ | refine blk_drew ?_ | refine blk_alloc ?_ _)); exact BK283.out) hb); have n1_ := Aside0.mk (below_step (by repeat (first | (with_reducible first | exact HB.out | apply below_alloc | apply pw_below_drewN | apply below_drew1 | refine below_set ?_ GE283.out) | exact HB.out)) hb); clear BK283; clear HB; have BK283 := n0_; have HB := n1_; clear n0_ n1_; (try clear hb); (try clear hb2); (try clear hk); (try clear hi); have hcz32_0 : w31.cell? ⟨gb283, 0, none⟩ = some (.int .i64 a0_0) := (blk_cell BK283.out 0).trans rfl; have hcz32_1 : w31.cell? ⟨gb283, 1, none⟩ = some (.slice A0_1 l0_1.length c0_1) := (blk_cell BK283.out 1).trans rfl; have hfz32_0 := blk_frozen BK283.out 0; have hfz32_1 := blk_frozen BK283.out 1) | ((with_reducible refine gate_callee (f := 13) rfl ?_); refine goesL_ (some 44) rfl rfl Try.func13 (by kernel_rfl) rfl #[.agg #[.int .i64 a0_0, .slice A0_1 l0_1.length c0_1], .int .i64 a1, .int .i64 (wrap64 (a2 - a3))] rfl (by (try simp only [List.map_toArray, List.map_cons, List.map_nil]); first | done | rfl | (simp only [List.length_drop, List.length_take]; rfl)) ?_; (with_reducible refine (active_Of.calls kj4 a0_0 _ _ l0_1 a1 (wrap64 (a2 - a3)) t287 true _ ?side1 ?side2 A20.out).mono ?_); (case side1 => repeat (first | exact (Kd.C_below HR0_1.out HB.out) | (with_reducible refine Kd.C_alloc ?_ _) | (with_reducible refine Kd.C_drewN ?_ _) | (with_reducible refine Kd.C_drew ?_))); (case side2 => exact HC0_1.out); rintro e w33 ⟨rfl, hb⟩; refine ⟨_, rfl, ?_⟩; have n0_ := Aside0.mk (blk_below (g := gb283) (o := .cells #[.int .i64 a0_0, .slice A0_1 l0_1.length c0_1] 24 (0, 0)) (by (with_reducible repeat (first | refine blk_drewN ?_ _ | refine blk_drew ?_ | refine blk_alloc ?_ _)); exact BK283.out) hb); have n1_ := Aside0.mk (below_step (by repeat (first | (with_reducible first | exact HB.out | apply below_alloc | apply pw_below_drewN | apply below_drew1 | refine below_set ?_ GE283.out) | exact HB.out)) hb); clear BK283; clear HB; have BK283 := n0_; have HB := n1_; clear n0_ n1_; (try clear hb); (try clear hb2); (try clear hk); (try clear hi)))
              go_ret
              exact ⟨by first | rfl | (simp [errW_none, errW_some] <;> rfl) | (simp [*, errW_none, errW_some] <;> rfl), by repeat (first | (with_reducible first | exact HB.out | apply below_alloc | apply pw_below_drewN | apply below_drew1 | refine below_set ?_ GE283.out) | exact HB.out)⟩
          · replace c22 := Bool.eq_false_iff.mpr c22
            subst c22
            have H1 : (some false) = some r := by rw [if_neg (show ¬ (false = true) by decide)] at H; exact H
            clear H
            have H := H1
            clear H1
            obtain rfl := Option.some.inj H
            have hcz34_0 : wc.cell? ⟨gb283, 0, none⟩ = some (.int .i64 a0_0) := (blk_cell BK283.out 0).trans rfl
            have hcz34_1 : wc.cell? ⟨gb283, 1, none⟩ = some (.slice A0_1 l0_1.length c0_1) := (blk_cell BK283.out 1).trans rfl
            have hfz34_0 := blk_frozen BK283.out 0
            have hfz34_1 := blk_frozen BK283.out 1
            go_wp2_with (first | ((with_reducible refine gate_callee (f := 13) rfl ?_); refine goesL_ (some 35) rfl rfl Try.func13 (by kernel_rfl) rfl #[.agg #[.int .i64 a0_0, .slice A0_1 l0_1.length c0_1], .int .i64 a1, .int .i64 a2] rfl (by (try simp only [List.map_toArray, List.map_cons, List.map_nil]); first | done | rfl | (simp only [List.length_drop, List.length_take]; rfl)) ?_; (with_reducible refine (active_Of.calls kj4 a0_0 _ _ l0_1 a1 a2 t285 true _ ?side1 ?side2 A19.out).mono ?_); (case side1 => repeat (first | exact (Kd.C_below HR0_1.out HB.out) | (with_reducible refine Kd.C_alloc ?_ _) | (with_reducible refine Kd.C_drewN ?_ _) | (with_reducible refine Kd.C_drew ?_))); (case side2 => exact HC0_1.out); rintro e w35 ⟨rfl, hb⟩; refine ⟨_, rfl, ?_⟩; have n0_ := Aside0.mk (blk_below (g := gb283) (o := .cells #[.int .i64 a0_0, .slice A0_1 l0_1.length c0_1] 24 (0, 0)) (by (with_reducible repeat (first | refine blk_drewN ?_ _ | refine blk_drew ?_ | refine blk_alloc ?_ _)); exact BK283.out) hb); have n1_ := Aside0.mk (below_step (by repeat (first | (with_reducible first | exact HB.out | apply below_alloc | apply pw_below_drewN | apply below_drew1 | refine below_set ?_ GE283.out) | exact HB.out)) hb); clear BK283; clear HB; have BK283 := n0_; have HB := n1_; clear n0_ n1_; (try clear hb); (try clear hb2); (try clear hk); (try clear hi); have hcz36_0 : w35.cell? ⟨gb283, 0, none⟩ = some (.int .i64 a0_0) := (blk_cell BK283.out 0).trans rfl; have hcz36_1 : w35.cell? ⟨gb283, 1, none⟩ = some (.slice A0_1 l0_1.length c0_1) := (blk_cell BK283.out 1).trans rfl; have hfz36_0 := blk_frozen BK283.out 0; have hfz36_1 := blk_frozen BK283.out 1) | ((with_reducible refine gate_callee (f := 13) rfl ?_); refine goesL_ (some 44) rfl rfl Try.func13 (by kernel_rfl) rfl #[.agg #[.int .i64 a0_0, .slice A0_1 l0_1.length c0_1], .int .i64 a1, .int .i64 (wrap64 (a2 - a3))] rfl (by (try simp only [List.map_toArray, List.map_cons, List.map_nil]); first | done | rfl | (simp only [List.length_drop, List.length_take]; rfl)) ?_; (with_reducible refine (active_Of.calls kj4 a0_0 _ _ l0_1 a1 (wrap64 (a2 - a3)) t287 false _ ?side1 ?side2 A20.out).mono ?_); (case side1 => repeat (first | exact (Kd.C_below HR0_1.out HB.out) | (with_reducible refine Kd.C_alloc ?_ _) | (with_reducible refine Kd.C_drewN ?_ _) | (with_reducible refine Kd.C_drew ?_))); (case side2 => exact HC0_1.out); rintro e w37 ⟨rfl, hb⟩; refine ⟨_, rfl, ?_⟩; have n0_ := Aside0.mk (blk_below (g := gb283) (o := .cells #[.int .i64 a0_0, .slice A0_1 l0_1.length c0_1] 24 (0, 0)) (by (with_reducible repeat (first | refine blk_drewN ?_ _ | refine blk_drew ?_ | refine blk_alloc ?_ _)); exact BK283.out) hb); have n1_ := Aside0.mk (below_step (by repeat (first | (with_reducible first | exact HB.out | apply below_alloc | apply pw_below_drewN | apply below_drew1 | refine below_set ?_ GE283.out) | exact HB.out)) hb); clear BK283; clear HB; have BK283 := n0_; have HB := n1_; clear n0_ n1_; (try clear hb); (try clear hb2); (try clear hk); (try clear hi)))
            go_ret
            exact ⟨by first | rfl | (simp [errW_none, errW_some] <;> rfl) | (simp [*, errW_none, errW_some] <;> rfl), by repeat (first | (with_reducible first | exact HB.out | apply below_alloc | apply pw_below_drewN | apply below_drew1 | refine below_set ?_ GE283.out) | exact HB.out)⟩
        · replace c21 := Bool.eq_false_iff.mpr c21
          subst c21
          have H1 : ((taskmasterlaw11_known.f kj4).bind fun t290 => (some t290)) = some r := by rw [if_neg (show ¬ (false = true) by decide)] at H; exact H
          clear H
          have H := H1
          clear H1
          replace H := Option.bind_eq_some_iff.mp H
          obtain ⟨t290, A380, H⟩ := H
          replace H : (some t290) = some r := H
          have A38 := Aside0.mk A380
          clear A380
          obtain rfl := Option.some.inj H
          have hcz39_0 : wc.cell? ⟨gb283, 0, none⟩ = some (.int .i64 a0_0) := (blk_cell BK283.out 0).trans rfl
          have hcz39_1 : wc.cell? ⟨gb283, 1, none⟩ = some (.slice A0_1 l0_1.length c0_1) := (blk_cell BK283.out 1).trans rfl
          have hfz39_0 := blk_frozen BK283.out 0
          have hfz39_1 := blk_frozen BK283.out 1
          go_wp2_with (first | ((with_reducible refine gate_callee (f := 13) rfl ?_); refine goesL_ (some 35) rfl rfl Try.func13 (by kernel_rfl) rfl #[.agg #[.int .i64 a0_0, .slice A0_1 l0_1.length c0_1], .int .i64 a1, .int .i64 a2] rfl (by (try simp only [List.map_toArray, List.map_cons, List.map_nil]); first | done | rfl | (simp only [List.length_drop, List.length_take]; rfl)) ?_; (with_reducible refine (active_Of.calls kj4 a0_0 _ _ l0_1 a1 a2 t285 false _ ?side1 ?side2 A19.out).mono ?_); (case side1 => repeat (first | exact (Kd.C_below HR0_1.out HB.out) | (with_reducible refine Kd.C_alloc ?_ _) | (with_reducible refine Kd.C_drewN ?_ _) | (with_reducible refine Kd.C_drew ?_))); (case side2 => exact HC0_1.out); rintro e w40 ⟨rfl, hb⟩; refine ⟨_, rfl, ?_⟩; have n0_ := Aside0.mk (blk_below (g := gb283) (o := .cells #[.int .i64 a0_0, .slice A0_1 l0_1.length c0_1] 24 (0, 0)) (by (with_reducible repeat (first | refine blk_drewN ?_ _ | refine blk_drew ?_ | refine blk_alloc ?_ _)); exact BK283.out) hb); have n1_ := Aside0.mk (below_step (by repeat (first | (with_reducible first | exact HB.out | apply below_alloc | apply pw_below_drewN | apply below_drew1 | refine below_set ?_ GE283.out) | exact HB.out)) hb); clear BK283; clear HB; have BK283 := n0_; have HB := n1_; clear n0_ n1_; (try clear hb); (try clear hb2); (try clear hk); (try clear hi); have hcz41_0 : w40.cell? ⟨gb283, 0, none⟩ = some (.int .i64 a0_0) := (blk_cell BK283.out 0).trans rfl; have hcz41_1 : w40.cell? ⟨gb283, 1, none⟩ = some (.slice A0_1 l0_1.length c0_1) := (blk_cell BK283.out 1).trans rfl; have hfz41_0 := blk_frozen BK283.out 0; have hfz41_1 := blk_frozen BK283.out 1) | ((with_reducible refine gate_callee (f := 13) rfl ?_); refine goesL_ (some 44) rfl rfl Try.func13 (by kernel_rfl) rfl #[.agg #[.int .i64 a0_0, .slice A0_1 l0_1.length c0_1], .int .i64 a1, .int .i64 (wrap64 (a2 - a3))] rfl (by (try simp only [List.map_toArray, List.map_cons, List.map_nil]); first | done | rfl | (simp only [List.length_drop, List.length_take]; rfl)) ?_; (with_reducible refine (active_Of.calls kj4 a0_0 _ _ l0_1 a1 (wrap64 (a2 - a3)) t287 t288 _ ?side1 ?side2 A20.out).mono ?_); (case side1 => repeat (first | exact (Kd.C_below HR0_1.out HB.out) | (with_reducible refine Kd.C_alloc ?_ _) | (with_reducible refine Kd.C_drewN ?_ _) | (with_reducible refine Kd.C_drew ?_))); (case side2 => exact HC0_1.out); rintro e w42 ⟨rfl, hb⟩; refine ⟨_, rfl, ?_⟩; have n0_ := Aside0.mk (blk_below (g := gb283) (o := .cells #[.int .i64 a0_0, .slice A0_1 l0_1.length c0_1] 24 (0, 0)) (by (with_reducible repeat (first | refine blk_drewN ?_ _ | refine blk_drew ?_ | refine blk_alloc ?_ _)); exact BK283.out) hb); have n1_ := Aside0.mk (below_step (by repeat (first | (with_reducible first | exact HB.out | apply below_alloc | apply pw_below_drewN | apply below_drew1 | refine below_set ?_ GE283.out) | exact HB.out)) hb); clear BK283; clear HB; have BK283 := n0_; have HB := n1_; clear n0_ n1_; (try clear hb); (try clear hb2); (try clear hk); (try clear hi)) | (go_at_call 18; (with_reducible refine (taskmasterlaw11_known.calls kj4  t290 _ A38.out).mono ?_); rintro e w43 ⟨rfl, hb⟩; have n0_ := Aside0.mk (blk_below (g := gb283) (o := .cells #[.int .i64 a0_0, .slice A0_1 l0_1.length c0_1] 24 (0, 0)) (by (with_reducible repeat (first | refine blk_drewN ?_ _ | refine blk_drew ?_ | refine blk_alloc ?_ _)); exact BK283.out) hb); have n1_ := Aside0.mk (below_step (by repeat (first | (with_reducible first | exact HB.out | apply below_alloc | apply pw_below_drewN | apply below_drew1 | refine below_set ?_ GE283.out) | exact HB.out)) hb); clear BK283; clear HB; have BK283 := n0_; have HB := n1_; clear n0_ n1_; (try clear hb); (try clear hb2); (try clear hk); (try clear hi)))
          go_ret
          exact ⟨by first | rfl | (simp [errW_none, errW_some] <;> rfl) | (simp [*, errW_none, errW_some] <;> rfl), by repeat (first | (with_reducible first | exact HB.out | apply below_alloc | apply pw_below_drewN | apply below_drew1 | refine below_set ?_ GE283.out) | exact HB.out)⟩
end Go.Proofs.Ytllnlmcofaomlaa.QAc
namespace Go.Proofs.Ytllnlmcofaomlaa.RefSet
open Go.RowKit Go.Proofs.Ytllnlmcofaomlaa.QAc Go.Proofs.YtllnlmcofaomlaaW.PrintWords Go.Proofs.YtllnlmcofaomlaaW.PrintLast Go.Proofs.YtllnlmcofaomlaaW.PrintMore
set_option linter.unusedVariables false
theorem evp {α : Type} {c : Prop} [Decidable c] {f g : Nat → Option α} {r : α} (h : c) (k : Ev f r) : Ev (fun n => if c then f n else g n) r := Ev.congr (fun _ => if_pos h) k
theorem evn {α : Type} {c : Prop} [Decidable c] {f g : Nat → Option α} {r : α} (h : ¬ c) (k : Ev g r) : Ev (fun n => if c then f n else g n) r := Ev.congr (fun _ => if_neg h) k
theorem evb {α β : Type} {o : Option α} {f : Nat → α → Option β} {a : α} {r : β} (h : o = some a) (k : Ev (fun n => f n a) r) : Ev (fun n => o.bind (f n)) r := Ev.congr (fun n => by rw [h]; rfl) k
def Ends {α : Type} (g : Nat → Option α) : Prop := ∃ r, Ev g r
theorem endsNow {α : Type} (r : α) : Ends (fun _ => some r) := ⟨r, Ev.now r⟩
theorem endsStep {α : Type} {g f : Nat → Option α} (h : ∀ k, g (k + 1) = f k) (k : Ends f) : Ends g := let ⟨r, e⟩ := k; ⟨r, Ev.step h e⟩
theorem endsIf {α : Type} {c : Prop} [Decidable c] {f g : Nat → Option α} (h : c → Ends f) (k : ¬ c → Ends g) : Ends (fun n => if c then f n else g n) := by
  by_cases hc : c
  · obtain ⟨r, e⟩ := h hc; exact ⟨r, evp hc e⟩
  · obtain ⟨r, e⟩ := k hc; exact ⟨r, evn hc e⟩
theorem endsBind {α β : Type} {g : Nat → Option α} {f : Nat → α → Option β} (h : Ends g) (k : ∀ a, Ends (fun n => f n a)) : Ends (fun n => (g n).bind (f n)) := by
  obtain ⟨a, e⟩ := h
  obtain ⟨r, e'⟩ := k a
  exact ⟨r, Ev.bind e e'⟩
theorem endsAt {α β : Type} {o : Option α} {f : Nat → α → Option β} {a : α} (h : o = some a) (k : Ends (fun n => f n a)) : Ends (fun n => o.bind (f n)) := let ⟨r, e⟩ := k; ⟨r, evb h e⟩
theorem w64 {n : Int} (h0 : -9223372036854775808 ≤ n) (h1 : n ≤ 9223372036854775807) : wrap64 n = n := by unfold wrap64; omega
theorem small_some (c : Int) : ∃ b, taskmasterref4_small.f c = some b := by unfold taskmasterref4_small.f; split <;> exact ⟨_, rfl⟩
theorem digit_some (c : Int) : ∃ b, taskmasterref4_digit.f c = some b := by unfold taskmasterref4_digit.f; split <;> exact ⟨_, rfl⟩
theorem word_loop (s : ByteArray) (l : List ByteArray) (hl : l.length ≤ 100) (d : Nat) : ∀ i : Nat, i + d = l.length → Ends (fun k => taskmasterref4_word.l0 k s l (i : Int)) := by
  induction d with
  | zero =>
    intro i hi
    refine endsStep (fun k => by rw [taskmasterref4_word.l0]) ?_
    exact endsIf (fun h => absurd h (by omega)) (fun _ => endsNow _)
  | succ d ih =>
    intro i hi
    refine endsStep (fun k => by rw [taskmasterref4_word.l0]) ?_
    refine endsIf (fun _ => endsIf (fun _ => endsIf (fun _ => endsNow _) (fun _ => ?_)) (fun h => absurd (Int.natCast_nonneg i) h)) (fun h => absurd (show (i : Int) < (l.length : Int) by omega) h)
    rw [w64 (by omega) (by omega)]
    exact ih (i + 1) (by omega)
theorem word_ends (s : ByteArray) : Ends (fun k => taskmasterref4_word.f k s) := by
  unfold taskmasterref4_word.f
  refine endsAt (show taskmasterref4_Words.f = some _ from rfl) ?_
  exact word_loop s _ (by decide) 10 0 (by decide)
theorem one_j3 (s : ByteArray) (i : Int) (h0 : 0 ≤ i) (h1 : i ≤ s.size) : Ends (fun k => taskmasterref4_one.j3 k s i) := by
  refine endsStep (fun k => by rw [taskmasterref4_one.j3]) ?_
  refine endsIf (fun _ => endsIf (fun _ => ?_) (fun h => absurd h1 h)) (fun h => absurd h0 h)
  refine endsBind (word_ends _) (fun b => ?_)
  exact endsIf (fun _ => endsNow _) (fun _ => endsIf (fun _ => endsNow _) (fun _ => endsNow _))
theorem one_l1 (s : ByteArray) (hs : s.size ≤ 9223372036854775807) (d : Nat) : ∀ i : Int, 0 ≤ i → i ≤ s.size → (s.size : Int) - i = d → Ends (fun k => taskmasterref4_one.l1 k s i) := by
  induction d with
  | zero =>
    intro i h0 h1 hd
    refine endsStep (fun k => by rw [taskmasterref4_one.l1]) ?_
    exact endsIf (fun h => absurd h (by omega)) (fun _ => one_j3 s i h0 h1)
  | succ d ih =>
    intro i h0 h1 hd
    refine endsStep (fun k => by rw [taskmasterref4_one.l1]) ?_
    have more : Ends (fun k => taskmasterref4_one.l1 k s (wrap64 (i + 1))) := by
      rw [w64 (by omega) (by omega)]; exact ih (i + 1) (by omega) (by omega) (by omega)
    refine endsIf (fun _ => endsIf (fun _ => ?_) (fun h => absurd h0 h)) (fun _ => one_j3 s i h0 h1)
    obtain ⟨b, hb⟩ := small_some (bt s i)
    refine endsAt hb (endsIf (fun _ => more) (fun _ => ?_))
    obtain ⟨c, hc⟩ := digit_some (bt s i)
    exact endsAt hc (endsIf (fun _ => more) (fun _ => endsIf (fun _ => more) (fun _ => one_j3 s i h0 h1)))
theorem one_no (s : ByteArray) (i v : Int) (h0 : 0 < (s.size : Int)) : Ends (fun k => taskmasterref4_one.j1 k s i v false) := by
  refine endsStep (fun k => by rw [taskmasterref4_one.j1]) ?_
  exact endsIf (fun h => by cases h) (fun _ => endsIf (fun _ => endsNow _) (fun _ => endsIf (fun _ => endsIf (fun _ => endsIf (fun _ => endsNow _) (fun _ => endsNow _)) (fun h => absurd h0 h)) (fun _ => endsNow _)))
theorem one_l0 (s : ByteArray) (hs : s.size ≤ 9223372036854775807) (h00 : 0 < (s.size : Int)) (d : Nat) : ∀ i v : Int, 0 ≤ i → i ≤ s.size → (s.size : Int) - i = d → Ends (fun k => taskmasterref4_one.l0 k s i v) := by
  induction d with
  | zero =>
    intro i v h0 h1 hd
    refine endsStep (fun k => by rw [taskmasterref4_one.l0]) ?_
    exact endsIf (fun h => absurd h (by omega)) (fun _ => one_no s i v h00)
  | succ d ih =>
    intro i v h0 h1 hd
    refine endsStep (fun k => by rw [taskmasterref4_one.l0]) ?_
    have more : ∀ v', Ends (fun k => taskmasterref4_one.l0 k s (wrap64 (i + 1)) v') := fun v' => by
      rw [w64 (by omega) (by omega)]; exact ih (i + 1) v' (by omega) (by omega) (by omega)
    refine endsIf (fun hlt => endsIf (fun _ => ?_) (fun h => absurd h0 h)) (fun _ => one_no s i v h00)
    obtain ⟨b, hb⟩ := digit_some (bt s i)
    refine endsAt hb ?_
    cases b with
    | false => exact one_no s i v h00
    | true =>
      refine endsStep (fun k => by rw [taskmasterref4_one.j1]) ?_
      exact endsIf (fun _ => endsIf (fun _ => endsIf (fun _ => endsIf (fun _ => more _) (fun h => absurd hlt h)) (fun h => absurd h0 h)) (fun _ => more _)) (fun h => absurd rfl h)
theorem one_ends (s : ByteArray) (hs : s.size ≤ 9223372036854775807) (h0 : 0 < (s.size : Int)) : Ends (fun k => taskmasterref4_one.f k s) := by
  unfold taskmasterref4_one.f
  refine endsIf (fun _ => endsIf (fun _ => endsNow _) (fun _ => ?_)) (fun h => absurd h0 h)
  obtain ⟨b, hb⟩ := digit_some (bt s 0)
  refine endsAt hb (endsIf (fun _ => one_l0 s hs h0 s.size 0 0 (by omega) (by omega) (by omega)) (fun _ => ?_))
  obtain ⟨c, hc⟩ := small_some (bt s 0)
  exact endsAt hc (endsIf (fun _ => one_l1 s hs s.size 0 (by omega) (by omega) (by omega)) (fun _ => endsNow _))
theorem name_ends (s : ByteArray) (hs : s.size ≤ 9223372036854775807) : Ends (fun k => taskmasterref4_Name.f k s) := by
  unfold taskmasterref4_Name.f
  refine endsIf (fun _ => endsNow _) (fun hz => endsIf (fun h0 => ?_) (fun h => absurd (show 0 < (s.size : Int) by omega) h))
  obtain ⟨b, hb⟩ := small_some (bt s 0)
  refine endsAt hb (endsIf (fun _ => ?_) (fun _ => endsNow _))
  exact endsBind (one_ends s hs h0) (fun _ => endsIf (fun _ => endsNow _) (fun _ => endsNow _))
def sum : List Int → Int
  | [] => 0
  | x :: l => x + sum l
theorem rd_drop {l : List Int} {i : Nat} (h : i < l.length) : l.drop i = rd l (i : Int) :: l.drop (i + 1) := by
  rw [List.drop_eq_getElem_cons h]; unfold rd
  rw [Int.toNat_natCast, List.getD_eq_getElem?_getD, List.getElem?_eq_getElem h]; rfl
theorem in_eq (n a b : Int) : taskmasterref5_in.f n a b = some (decide (a ≤ n ∧ n ≤ b)) := by
  unfold taskmasterref5_in.f
  by_cases h : a ≤ n
  · rw [if_pos (show n ≥ a from h)]; simp [h]
  · rw [if_neg (show ¬ n ≥ a from h)]; simp [h]
theorem sum_bound {l : List Int} (h : ∀ x ∈ l, 1 ≤ x ∧ x ≤ 10000) : (l.length : Int) ≤ sum l ∧ sum l ≤ 10000 * l.length := by
  induction l with
  | nil => simp [sum]
  | cons x l ih =>
    have h1 := ih (fun y hy => h y (List.mem_cons_of_mem _ hy))
    have h2 := h x List.mem_cons_self
    simp only [sum, List.length_cons, Int.natCast_add, Int.natCast_one]
    omega
theorem work_loop (s : ByteArray) (a1 a2 a3 a4 a5 : Int) (l : List Int) (a7 a8 : Int) (hl : l.length ≤ 8) (h : ∀ x ∈ l, 1 ≤ x ∧ x ≤ 10000) (d : Nat) : ∀ (k i : Nat) (acc : Int), i + d = l.length → d < k → 0 ≤ acc → acc ≤ 10000 * i →
    taskmasterref5_Work.l0 k acc (i : Int) s a1 a2 a3 a4 a5 l a7 a8 = some (acc + sum (l.drop i)) := by
  induction d with
  | zero =>
    intro k i acc hi hk h0 h1
    obtain ⟨k, rfl⟩ : ∃ m, k = m + 1 := ⟨k - 1, by omega⟩
    simp only [taskmasterref5_Work.l0]
    rw [if_neg (by omega), List.drop_eq_nil_of_le (by omega)]; simp [sum]
  | succ d ih =>
    intro k i acc hi hk h0 h1
    obtain ⟨k, rfl⟩ : ∃ m, k = m + 1 := ⟨k - 1, by omega⟩
    have hlt : i < l.length := by omega
    have hm : rd l (i : Int) ∈ l := by
      unfold rd; rw [Int.toNat_natCast, List.getD_eq_getElem?_getD, List.getElem?_eq_getElem hlt]; exact List.getElem_mem hlt
    have hx := h _ hm
    simp only [taskmasterref5_Work.l0]
    rw [if_pos (by omega), if_pos (by omega), w64 (n := acc + rd l (i : Int)) (by omega) (by omega), w64 (n := (i : Int) + 1) (by omega) (by omega), rd_drop hlt]
    have := ih k (i + 1) (acc + rd l (i : Int)) (by omega) (by omega) (by omega) (by omega)
    rw [show ((i + 1 : Nat) : Int) = (i : Int) + 1 by omega] at this
    rw [this]
    simp only [sum]
    rw [Int.add_assoc]
theorem work_eq (s : ByteArray) (a1 a2 a3 a4 a5 : Int) (l : List Int) (a7 a8 : Int) (hl : l.length ≤ 8) (h : ∀ x ∈ l, 1 ≤ x ∧ x ≤ 10000) (k : Nat) (hk : 8 < k) : taskmasterref5_Work.f k s a1 a2 a3 a4 a5 l a7 a8 = some (sum l) := by
  unfold taskmasterref5_Work.f
  have := work_loop s a1 a2 a3 a4 a5 l a7 a8 hl h l.length k 0 0 (by omega) (by omega) (by omega) (by omega)
  rw [List.drop_zero, Int.zero_add] at this
  exact this
def TaskOK (x : S38) (p : Int) : Prop :=
  1 ≤ x.f6.length ∧ x.f6.length ≤ 8 ∧ Go.bits .andNot .u64 x.f8 x.f7 = 0 ∧ (∀ r ∈ x.f6, 1 ≤ r ∧ r ≤ 10000) ∧ sum x.f6 ≤ x.f2 ∧ x.f2 ≤ x.f1 ∧ x.f1 ≤ 10000 ∧
  ((x.f3 = 0 ∧ x.f4 = 0 ∧ x.f5 = 0) ∨ (x.f3 = 1 ∧ 0 ≤ x.f4 ∧ x.f4 ≤ 10000 ∧ x.f5 = 0) ∨ (x.f3 = 2 ∧ x.f4 = 0 ∧ 0 ≤ x.f5 ∧ x.f5 ≤ p))
theorem is_loop (x : S38) (p : Int) (h1 : 1 ≤ x.f6.length) (h8 : x.f6.length ≤ 8) (hb : Go.bits .andNot .u64 x.f8 x.f7 = 0) (d : Nat) : ∀ i : Nat, i + d = x.f6.length → (∀ j : Nat, j < i → 1 ≤ rd x.f6 (j : Int) ∧ rd x.f6 (j : Int) ≤ 10000) →
    ∃ b, Ev (fun k => taskmasterref5_Is.l0 k p (i : Int) x.f0 x.f1 x.f2 x.f3 x.f4 x.f5 x.f6 x.f7 x.f8) b ∧ (b = true → TaskOK x p) := by
  induction d with
  | zero =>
    intro i hi hall
    have hr : ∀ r ∈ x.f6, 1 ≤ r ∧ r ≤ 10000 := fun r hm => by
      obtain ⟨j, hj, rfl⟩ := List.mem_iff_getElem.1 hm
      have := hall j (by omega)
      unfold rd at this
      rw [Int.toNat_natCast, List.getD_eq_getElem?_getD, List.getElem?_eq_getElem hj] at this
      exact this
    have hw : Ev (fun k => taskmasterref5_Work.f k x.f0 x.f1 x.f2 x.f3 x.f4 x.f5 x.f6 x.f7 x.f8) (sum x.f6) := ⟨9, fun k hk => work_eq _ _ _ _ _ _ _ _ _ h8 hr k (by omega)⟩
    have no : Ev (fun k => taskmasterref5_Is.j2 k p true x.f0 x.f1 x.f2 x.f3 x.f4 x.f5 x.f6 x.f7 x.f8) false := Ev.step (fun k => by rw [taskmasterref5_Is.j2, if_pos rfl]) (Ev.now false)
    by_cases c1 : sum x.f6 > x.f2
    · refine ⟨false, Ev.step (fun k => by rw [taskmasterref5_Is.l0]) (evn (by omega) (Ev.bind hw (evp c1 no))), fun h => by cases h⟩
    · by_cases c2 : x.f2 > x.f1
      · refine ⟨false, Ev.step (fun k => by rw [taskmasterref5_Is.l0]) (evn (by omega) (Ev.bind hw (evn c1 (evp c2 no)))), fun h => by cases h⟩
      · by_cases c3 : x.f1 > 10000
        · refine ⟨false, Ev.step (fun k => by rw [taskmasterref5_Is.l0]) (evn (by omega) (Ev.bind hw (evn c1 (evn c2 ?_)))), fun h => by cases h⟩
          rw [decide_eq_true c3]; exact no
        · have base : ∀ {b : Bool}, Ev (fun k => taskmasterref5_Is.j2 k p false x.f0 x.f1 x.f2 x.f3 x.f4 x.f5 x.f6 x.f7 x.f8) b → Ev (fun k => taskmasterref5_Is.l0 k p (i : Int) x.f0 x.f1 x.f2 x.f3 x.f4 x.f5 x.f6 x.f7 x.f8) b := fun hb => by
            refine Ev.step (fun k => by rw [taskmasterref5_Is.l0]) (evn (by omega) (Ev.bind hw (evn c1 (evn c2 ?_))))
            rw [decide_eq_false c3]; exact hb
          have ok : ∀ (_ : (x.f3 = 0 ∧ x.f4 = 0 ∧ x.f5 = 0) ∨ (x.f3 = 1 ∧ 0 ≤ x.f4 ∧ x.f4 ≤ 10000 ∧ x.f5 = 0) ∨ (x.f3 = 2 ∧ x.f4 = 0 ∧ 0 ≤ x.f5 ∧ x.f5 ≤ p)), TaskOK x p := fun hm => ⟨h1, h8, hb, hr, by omega, by omega, by omega, hm⟩
          by_cases m0 : x.f3 = 0
          · by_cases q0 : x.f4 = 0
            · refine ⟨x.f5 == 0, base (Ev.step (fun k => by rw [taskmasterref5_Is.j2, if_neg (by simp), if_pos m0, if_pos q0]) (Ev.now _)), fun h => ok (Or.inl ⟨m0, q0, by simpa using h⟩)⟩
            · exact ⟨false, base (Ev.step (fun k => by rw [taskmasterref5_Is.j2, if_neg (by simp), if_pos m0, if_neg q0]) (Ev.now _)), fun h => by cases h⟩
          · by_cases m1 : x.f3 = 1
            · by_cases q0 : 0 ≤ x.f4 ∧ x.f4 ≤ 10000
              · refine ⟨x.f5 == 0, base (Ev.step (fun k => by rw [taskmasterref5_Is.j2, if_neg (by simp), if_neg m0, if_pos m1, in_eq, decide_eq_true q0, Option.bind_some, if_pos rfl]) (Ev.now _)), fun h => ok (Or.inr (Or.inl ⟨m1, q0.1, q0.2, by simpa using h⟩))⟩
              · exact ⟨false, base (Ev.step (fun k => by rw [taskmasterref5_Is.j2, if_neg (by simp), if_neg m0, if_pos m1, in_eq, decide_eq_false q0, Option.bind_some, if_neg (by simp)]) (Ev.now _)), fun h => by cases h⟩
            · by_cases m2 : x.f3 = 2
              · by_cases q0 : x.f4 = 0
                · by_cases t0 : x.f5 ≥ 0
                  · refine ⟨decide (x.f5 ≤ p), base (Ev.step (fun k => by rw [taskmasterref5_Is.j2, if_neg (by simp), if_neg m0, if_neg m1, if_pos m2, if_pos q0, if_pos t0]) (Ev.now _)), fun h => ok (Or.inr (Or.inr ⟨m2, q0, t0, of_decide_eq_true h⟩))⟩
                  · exact ⟨false, base (Ev.step (fun k => by rw [taskmasterref5_Is.j2, if_neg (by simp), if_neg m0, if_neg m1, if_pos m2, if_pos q0, if_neg t0]) (Ev.now _)), fun h => by cases h⟩
                · exact ⟨false, base (Ev.step (fun k => by rw [taskmasterref5_Is.j2, if_neg (by simp), if_neg m0, if_neg m1, if_pos m2, if_neg q0]) (Ev.now _)), fun h => by cases h⟩
              · exact ⟨false, base (Ev.step (fun k => by rw [taskmasterref5_Is.j2, if_neg (by simp), if_neg m0, if_neg m1, if_neg m2]) (Ev.now _)), fun h => by cases h⟩
  | succ d ih =>
    intro i hi hall
    by_cases c : 1 ≤ rd x.f6 (i : Int) ∧ rd x.f6 (i : Int) ≤ 10000
    · obtain ⟨b, e, hb'⟩ := ih (i + 1) (by omega) (fun j hj => by
        by_cases hji : j = i
        · subst hji; exact c
        · exact hall j (by omega))
      refine ⟨b, Ev.step (fun k => by rw [taskmasterref5_Is.l0]) (evp (by omega) (evp (by omega) (evb (in_eq _ _ _) (evp (decide_eq_true c) ?_)))), hb'⟩
      rw [w64 (by omega) (by omega)]; exact e
    · have hc : ¬ (decide (1 ≤ rd x.f6 (i : Int) ∧ rd x.f6 (i : Int) ≤ 10000) = true) := fun h => c (of_decide_eq_true h)
      exact ⟨false, Ev.step (fun k => by rw [taskmasterref5_Is.l0]) (evp (by omega) (evp (by omega) (evb (in_eq _ _ _) (evn hc (Ev.now false))))), fun h => by cases h⟩
theorem is_ends (x : S38) (p : Int) (hs : x.f0.size ≤ 9223372036854775807) : ∃ b, Ev (fun k => taskmasterref5_Is.f k x.f0 x.f1 x.f2 x.f3 x.f4 x.f5 x.f6 x.f7 x.f8 p) b ∧ (b = true → TaskOK x p) := by
  unfold taskmasterref5_Is.f
  obtain ⟨n, hn⟩ := name_ends x.f0 hs
  have no : Ev (fun k => taskmasterref5_Is.j0 k p true x.f0 x.f1 x.f2 x.f3 x.f4 x.f5 x.f6 x.f7 x.f8) false := Ev.step (fun k => by rw [taskmasterref5_Is.j0, if_pos rfl]) (Ev.now false)
  by_cases c0 : n = true
  · by_cases c1 : (x.f6.length : Int) < 1
    · exact ⟨false, Ev.bind hn (evp c0 (evp c1 no)), fun h => by cases h⟩
    · by_cases c2 : (x.f6.length : Int) > 8
      · exact ⟨false, Ev.bind hn (evp c0 (evn c1 (evp c2 no))), fun h => by cases h⟩
      · by_cases c3 : Go.bits .andNot .u64 x.f8 x.f7 = 0
        · obtain ⟨b, e, hb⟩ := is_loop x p (by omega) (by omega) c3 x.f6.length 0 (by omega) (fun j hj => absurd hj (Nat.not_lt_zero _))
          refine ⟨b, Ev.bind hn (evp c0 (evn c1 (evn c2 (Ev.step (fun k => by rw [taskmasterref5_Is.j0, if_neg (by rw [c3]; simp)]; rfl) e)))), hb⟩
        · refine ⟨false, Ev.bind hn (evp c0 (evn c1 (evn c2 ?_))), fun h => by cases h⟩
          rw [show (Go.bits .andNot .u64 x.f8 x.f7 != 0) = true by simpa using c3]; exact no
  · exact ⟨false, Ev.bind hn (evn c0 no), fun h => by cases h⟩
def SetOK (r : Int) (l : List S38) : Prop := 0 ≤ r ∧ r ≤ 10000 ∧ 1 ≤ l.length ∧ l.length ≤ 8 ∧ ∀ i : Int, 0 ≤ i → i < l.length → TaskOK (rd_T38 l i) i
theorem all_loops (r : Int) (l : List S38) (h0 : 0 ≤ r) (h1 : r ≤ 10000) (h2 : 1 ≤ l.length) (h8 : l.length ≤ 8) (hs : ∀ y ∈ l, y.f0.size ≤ 9223372036854775807) (d : Nat) : ∀ i : Nat, i + d = l.length → (∀ j : Int, 0 ≤ j → j < i → TaskOK (rd_T38 l j) j) →
    ∃ b, Ev (fun k => taskmasterref5_All.l0 k (i : Int) r l) b ∧ (b = true → SetOK r l) := by
  induction d with
  | zero =>
    intro i hi hall
    exact ⟨true, Ev.step (fun k => by rw [taskmasterref5_All.l0]) (evn (by omega) (Ev.now true)), fun _ => ⟨h0, h1, h2, h8, fun j a b => hall j a (by omega)⟩⟩
  | succ d ih =>
    intro i hi hall
    have hlt : i < l.length := by omega
    have hm : rd_T38 l (i : Int) ∈ l := by
      unfold rd_T38; rw [Int.toNat_natCast, List.getD_eq_getElem?_getD, List.getElem?_eq_getElem hlt]; exact List.getElem_mem hlt
    obtain ⟨t, ht, hok⟩ := is_ends (rd_T38 l (i : Int)) (i : Int) (hs _ hm)
    by_cases c : t = true
    · obtain ⟨b, e, hb⟩ := ih (i + 1) (by omega) (fun j a q => by
        by_cases hji : j = i
        · subst hji; exact hok c
        · exact hall j a (by omega))
      have inner : ∀ d' j : Nat, j + d' = i → ∃ b', Ev (fun k => taskmasterref5_All.l1 k (i : Int) (j : Int) r l) b' ∧ (b' = true → SetOK r l) := by
        intro d'
        induction d' with
        | zero =>
          intro j hj
          refine ⟨b, Ev.step (fun k => by rw [taskmasterref5_All.l1]) (evn (by omega) ?_), hb⟩
          rw [w64 (by omega) (by omega)]; exact e
        | succ d' ih' =>
          intro j hj
          by_cases q : ((rd_T38 l (j : Int)).f0).toList = ((rd_T38 l (i : Int)).f0).toList
          · exact ⟨false, Ev.step (fun k => by rw [taskmasterref5_All.l1]) (evp (by omega) (evp (by omega) (evp (by omega) (evp (by omega) (evp (by omega) (evp q (Ev.now false))))))), fun h => by cases h⟩
          · obtain ⟨b', e', hb'⟩ := ih' (j + 1) (by omega)
            refine ⟨b', Ev.step (fun k => by rw [taskmasterref5_All.l1]) (evp (by omega) (evp (by omega) (evp (by omega) (evp (by omega) (evp (by omega) (evn q ?_)))))), hb'⟩
            rw [w64 (by omega) (by omega)]; exact e'
      obtain ⟨b', e', hb'⟩ := inner i 0 (by omega)
      exact ⟨b', Ev.step (fun k => by rw [taskmasterref5_All.l0]) (evp (by omega) (evp (by omega) (Ev.bind ht (evp c e')))), hb'⟩
    · exact ⟨false, Ev.step (fun k => by rw [taskmasterref5_All.l0]) (evp (by omega) (evp (by omega) (Ev.bind ht (evn c (Ev.now false))))), fun h => by cases h⟩
theorem all_ends (r : Int) (l : List S38) (hs : ∀ y ∈ l, y.f0.size ≤ 9223372036854775807) : ∃ b, Ev (fun k => taskmasterref5_All.f k r l) b ∧ (b = true → SetOK r l) := by
  unfold taskmasterref5_All.f
  have no : Ev (fun k => taskmasterref5_All.j0 k true r l) false := Ev.step (fun k => by rw [taskmasterref5_All.j0, if_pos rfl]) (Ev.now false)
  by_cases c0 : 0 ≤ r ∧ r ≤ 10000
  · by_cases c1 : (l.length : Int) < 1
    · exact ⟨false, evb (in_eq _ _ _) (evp (decide_eq_true c0) (evp c1 no)), fun h => by cases h⟩
    · by_cases c2 : (l.length : Int) > 8
      · refine ⟨false, evb (in_eq _ _ _) (evp (decide_eq_true c0) (evn c1 ?_)), fun h => by cases h⟩
        rw [decide_eq_true c2]; exact no
      · obtain ⟨b, e, hb⟩ := all_loops r l c0.1 c0.2 (by omega) (by omega) hs l.length 0 (by omega) (fun j a q => absurd q (by omega))
        refine ⟨b, evb (in_eq _ _ _) (evp (decide_eq_true c0) (evn c1 ?_)), hb⟩
        rw [decide_eq_false c2]
        exact Ev.step (fun k => by rw [taskmasterref5_All.j0, if_neg (by simp)]; rfl) e
  · have hc : ¬ (decide (0 ≤ r ∧ r ≤ 10000) = true) := fun h => c0 (of_decide_eq_true h)
    exact ⟨false, evb (in_eq _ _ _) (evn hc no), fun h => by cases h⟩
end Go.Proofs.Ytllnlmcofaomlaa.RefSet
namespace Go.Proofs.Ytllnlmcofaomlaa.CostBase
open Go.RowKit Go.Proofs.Ytllnlmcofaomlaa.QAc Go.Proofs.YtllnlmcofaomlaaW.PrintWords Go.Proofs.YtllnlmcofaomlaaW.PrintLast Go.Proofs.YtllnlmcofaomlaaW.PrintMore Go.Proofs.Ytllnlmcofaomlaa.FloatMath Go.Proofs.Ytllnlmcofaomlaa.RefSet
set_option linter.unusedVariables false
def isT (n : Int) : Bool := decide (0 ≤ n ∧ n ≤ 1099511627776)
theorem isT_iff {n : Int} : isT n = true ↔ 0 ≤ n ∧ n ≤ 1099511627776 := by unfold isT; simp
theorem is_eq (n : Int) : num_Is.f n = some (isT n) := by
  unfold num_Is.f isT
  by_cases h : n ≥ 0
  · rw [if_pos h]; simp [show 0 ≤ n from h]
  · rw [if_neg h]; simp [show ¬ 0 ≤ n from h]
theorem told_eq (n : Int) : num_told.f n true = some (if isT n = true then (n, true) else (0, false)) := by
  unfold num_told.f
  rw [if_pos rfl, is_eq, Option.bind_some]
  split <;> rfl
theorem add_eq {a b : Int} (ha : isT a = true) (hb : isT b = true) : num_Add.f a b = some (if a + b ≤ 1099511627776 then (a + b, true) else (0, false)) := by
  have h1 := isT_iff.mp ha
  have h2 := isT_iff.mp hb
  unfold num_Add.f
  rw [is_eq, Option.bind_some, if_pos ha, is_eq, Option.bind_some, if_pos hb, w64 (by omega) (by omega), told_eq]
  by_cases h : a + b ≤ 1099511627776
  · rw [if_pos (isT_iff.mpr ⟨by omega, h⟩), if_pos h]; rfl
  · rw [if_neg (fun q => h (isT_iff.mp q).2), if_neg h]; rfl
def fo (n : Int) : Nat := floatOfInt .f64 n
def ofV (a b : Int) : (Nat × Nat) × Bool := if isT a = true ∧ isT b = true then ((fo a, fo b), true) else ((0, 0), false)
theorem of_eq (a b : Int) : cost_Of.f a b = some (ofV a b) := by
  unfold cost_Of.f ofV
  rw [is_eq, Option.bind_some]
  by_cases ha : isT a = true
  · rw [if_pos ha, is_eq, Option.bind_some]
    by_cases hb : isT b = true
    · rw [if_pos hb, if_pos ⟨ha, hb⟩]; rfl
    · rw [if_neg hb, if_neg (fun x => hb x.2)]
  · rw [if_neg ha, if_neg (fun x => ha x.1)]
def partsV (c : Nat × Nat) : Int × Int × Bool := if okPart c.1 = true ∧ okPart c.2 = true then (FloatMath.part c.1, FloatMath.part c.2, true) else (0, 0, false)
theorem parts_eq (c : Nat × Nat) : cost_parts.f c = some (partsV c) := by
  unfold cost_parts.f cost_whole.f partsV
  rw [Option.bind_some, Option.bind_some]
  by_cases ha : okPart c.1 = true
  · rw [if_pos ha]
    by_cases hb : okPart c.2 = true
    · rw [if_pos hb, if_pos ⟨ha, hb⟩]
    · rw [if_neg hb, if_neg (fun x => hb x.2)]
  · rw [if_neg ha, if_neg (fun x => ha x.1)]
theorem partsV_in (c : Nat × Nat) : isT (partsV c).1 = true ∧ isT (partsV c).2.1 = true := by
  unfold partsV
  split
  · exact ⟨isT_iff.mpr (part_in _), isT_iff.mpr (part_in _)⟩
  · exact ⟨by decide, by decide⟩
theorem partsV_fo {a b : Int} (ha : -9007199254740992 < a ∧ a < 9007199254740992) (hb : -9007199254740992 < b ∧ b < 9007199254740992) : partsV (fo a, fo b) = if isT a = true ∧ isT b = true then (a, b, true) else (0, 0, false) := by
  obtain ⟨a1, a2⟩ := of_int ha
  obtain ⟨b1, b2⟩ := of_int hb
  unfold partsV
  show (if okPart (floatOfInt .f64 a) = true ∧ okPart (floatOfInt .f64 b) = true then (FloatMath.part (floatOfInt .f64 a), FloatMath.part (floatOfInt .f64 b), true) else (0, 0, false)) = _
  rw [a1, b1, a2, b2]
  show (if isT a = true ∧ isT b = true then _ else _) = _
  by_cases h : isT a = true ∧ isT b = true
  · rw [if_pos h, if_pos h, if_pos (isT_iff.mp h.1), if_pos (isT_iff.mp h.2)]
  · rw [if_neg h, if_neg h]
theorem partsV_T {a b : Int} (ha : isT a = true) (hb : isT b = true) : partsV (fo a, fo b) = (a, b, true) := by
  have h1 := isT_iff.mp ha
  have h2 := isT_iff.mp hb
  rw [partsV_fo (by omega) (by omega), if_pos ⟨ha, hb⟩]
def totalV (c : Nat × Nat) : Int × Bool := if (partsV c).2.2 = true ∧ (partsV c).1 + (partsV c).2.1 ≤ 1099511627776 then ((partsV c).1 + (partsV c).2.1, true) else (0, false)
theorem total_eq (c : Nat × Nat) : cost_Total.f c = some (totalV c) := by
  obtain ⟨h1, h2⟩ := partsV_in c
  unfold cost_Total.f totalV
  rw [parts_eq, Option.bind_some]
  by_cases h : (partsV c).2.2 = true
  · rw [if_pos h, add_eq h1 h2, Option.bind_some]
    by_cases hs : (partsV c).1 + (partsV c).2.1 ≤ 1099511627776
    · rw [if_pos hs, if_pos ⟨h, hs⟩]
    · rw [if_neg hs, if_neg (fun x => hs x.2)]
  · rw [if_neg h, if_neg (fun x => h x.1)]
end Go.Proofs.Ytllnlmcofaomlaa.CostBase
namespace Go.Proofs.Ytllnlmcofaomlaa.BitsMath
set_option linter.unusedVariables false
def pop : Nat → Nat → Nat
  | 0, _ => 0
  | n + 1, x => x % 2 + pop n (x / 2)
theorem pop_le : ∀ (n x : Nat), pop n x ≤ n
  | 0, _ => Nat.le_refl _
  | n + 1, x => by have := pop_le n (x / 2); unfold pop; omega
theorem pop_add (a : Nat) : ∀ (b x : Nat), pop (b + a) x = pop b x + pop a (x / 2 ^ b)
  | 0, x => by simp [pop]
  | b + 1, x => by
    rw [show b + 1 + a = (b + a) + 1 by omega]
    show x % 2 + pop (b + a) (x / 2) = x % 2 + pop b (x / 2) + _
    rw [pop_add a b (x / 2), Nat.div_div_eq_div_mul, show 2 * 2 ^ b = 2 ^ (b + 1) by rw [Nat.pow_succ, Nat.mul_comm]]
    omega
theorem pop_mod (b : Nat) : ∀ (x : Nat), pop b (x % 2 ^ b) = pop b x := by
  induction b with
  | zero => intro x; rfl
  | succ b ih =>
    intro x
    unfold pop
    have h1 : x % 2 ^ (b + 1) % 2 = x % 2 := Nat.mod_mod_of_dvd _ ⟨2 ^ b, by rw [Nat.pow_succ, Nat.mul_comm]⟩
    have h2 : x % 2 ^ (b + 1) / 2 = x / 2 % 2 ^ b := by
      rw [Nat.pow_succ, Nat.mul_comm, Nat.mod_mul_right_div_self]
    rw [h1, h2, ih]
theorem pop_byte (n r q : Nat) (hr : r < 256) : pop (8 + n) (r + 256 * q) = pop 8 r + pop n q := by
  rw [pop_add n 8]
  have e : (r + 256 * q) / 2 ^ 8 = q := by omega
  rw [e]
  have e2 : pop 8 (r + 256 * q) = pop 8 r := by
    rw [← pop_mod 8 (r + 256 * q), show (r + 256 * q) % 2 ^ 8 = r by omega]
  rw [e2]
theorem and_byte (r q m M : Nat) (hr : r < 256) (hm : m < 256) : (r + 256 * q) &&& (m + 256 * M) = (r &&& m) + 256 * (q &&& M) := by
  have h1 : (r &&& m) < 256 := Nat.lt_of_le_of_lt Nat.and_le_left hr
  apply Nat.eq_of_testBit_eq
  intro i
  rw [Nat.testBit_and, Nat.add_comm r, Nat.add_comm m, Nat.add_comm (r &&& m), show (256 : Nat) = 2 ^ 8 from rfl, Nat.testBit_two_pow_mul_add _ hr, Nat.testBit_two_pow_mul_add _ hm, Nat.testBit_two_pow_mul_add _ h1]
  split
  · rw [Nat.testBit_and]
  · rw [Nat.testBit_and]
def st1 (M x : Nat) : Nat := (x / 2 &&& M) + (x &&& M)
def st2 (M x : Nat) : Nat := (x / 4 &&& M) + (x &&& M)
def st3 (M x : Nat) : Nat := (x / 16 + x) &&& M
theorem low1 : ∀ r, r < 256 → ∀ e, e < 2 → (r / 2 + 128 * e) &&& 85 = r / 2 &&& 85 := by decide +kernel
theorem low2 : ∀ r, r < 256 → ∀ e, e < 4 → (r / 4 + 64 * e) &&& 51 = r / 4 &&& 51 := by decide +kernel
theorem st1_byte (r q M : Nat) (hr : r < 256) : st1 (85 + 256 * M) (r + 256 * q) = st1 85 r + 256 * st1 M q := by
  unfold st1
  have e : (r + 256 * q) / 2 = (r / 2 + 128 * (q % 2)) + 256 * (q / 2) := by omega
  rw [e, and_byte _ _ 85 M (by omega) (by omega), and_byte r q 85 M hr (by omega), low1 r hr _ (by omega), Nat.mul_add]
  omega
theorem st2_byte (r q M : Nat) (hr : r < 256) : st2 (51 + 256 * M) (r + 256 * q) = st2 51 r + 256 * st2 M q := by
  unfold st2
  have e : (r + 256 * q) / 4 = (r / 4 + 64 * (q % 4)) + 256 * (q / 4) := by omega
  rw [e, and_byte _ _ 51 M (by omega) (by omega), and_byte r q 51 M hr (by omega), low2 r hr _ (by omega), Nat.mul_add]
  omega
theorem low3 : ∀ r, r < 103 → ∀ e, e < 5 → r / 16 ≤ 4 → r % 16 ≤ 4 → (r / 16 + 16 * e + r) &&& 15 = (r / 16 + r) &&& 15 := by decide +kernel
theorem st3_byte (r q M : Nat) (hr : r < 103) (h1 : r / 16 ≤ 4) (h2 : r % 16 ≤ 4) (hq : q % 16 ≤ 4) : st3 (15 + 256 * M) (r + 256 * q) = st3 15 r + 256 * st3 M q := by
  unfold st3
  have e : (r + 256 * q) / 16 + (r + 256 * q) = (r / 16 + 16 * (q % 16) + r) + 256 * (q / 16 + q) := by omega
  rw [e, and_byte _ _ 15 M (by omega) (by omega), low3 r hr _ (by omega) h1 h2]
theorem byte_tells : ∀ r, r < 256 → st1 85 r < 256 ∧ st2 51 (st1 85 r) < 103 ∧ st2 51 (st1 85 r) / 16 ≤ 4 ∧ st2 51 (st1 85 r) % 16 ≤ 4 ∧ st3 15 (st2 51 (st1 85 r)) = pop 8 r := by decide +kernel
def rep (m : Nat) : Nat → Nat
  | 0 => 0
  | k + 1 => m + 256 * rep m k
def bsum : Nat → Nat → Nat
  | 0, _ => 0
  | k + 1, x => pop 8 (x % 256) + 256 * bsum k (x / 256)
theorem st_zero (M : Nat) : st1 M 0 = 0 ∧ st2 M 0 = 0 ∧ st3 M 0 = 0 := by
  unfold st1 st2 st3
  simp
theorem steps : ∀ (k x : Nat), x < 256 ^ k → (st2 (rep 51 k) (st1 (rep 85 k) x)) % 16 ≤ 4 ∧ st3 (rep 15 k) (st2 (rep 51 k) (st1 (rep 85 k) x)) = bsum k x
  | 0, x, h => by
    obtain rfl : x = 0 := by simpa using h
    rw [(st_zero _).1, (st_zero _).2.1, (st_zero _).2.2]
    exact ⟨by omega, rfl⟩
  | k + 1, x, h => by
    have hx : x = x % 256 + 256 * (x / 256) := by omega
    have hq : x / 256 < 256 ^ k := by
      rw [Nat.div_lt_iff_lt_mul (by omega), ← Nat.pow_succ]; exact h
    obtain ⟨i1, i2⟩ := steps k (x / 256) hq
    obtain ⟨b1, b2, b3, b4, b5⟩ := byte_tells (x % 256) (by omega)
    have e1 : st1 (rep 85 (k + 1)) x = st1 85 (x % 256) + 256 * st1 (rep 85 k) (x / 256) := by
      conv => lhs; rw [hx]
      exact st1_byte _ _ _ (by omega)
    have e2 : st2 (rep 51 (k + 1)) (st1 (rep 85 (k + 1)) x) = st2 51 (st1 85 (x % 256)) + 256 * st2 (rep 51 k) (st1 (rep 85 k) (x / 256)) := by
      rw [e1]; exact st2_byte _ _ _ b1
    rw [e2]
    refine ⟨by omega, ?_⟩
    show st3 (15 + 256 * rep 15 k) _ = _
    rw [st3_byte _ _ _ b2 b3 b4 i1, i2, b5]; rfl
theorem pop8_le (x : Nat) : pop 8 x ≤ 8 := pop_le 8 x
theorem part_low {y a b : Nat} (ha : a < 256) (hy : y = a + 256 * b) : y / 256 = b := by omega
theorem part_low' {y a b : Nat} (ha : a < 65536) (hy : y = a + 65536 * b) : y / 65536 = b := by omega
theorem part_low'' {y a b : Nat} (ha : a < 4294967296) (hy : y = a + 4294967296 * b) : y / 4294967296 = b := by omega
theorem part_mod {s t : Nat} (hs : s < 128) : (s + 256 * t) % 128 = s := by omega
theorem id0 (c0 c1 c2 c3 c4 c5 c6 c7 : Nat) : c0 + 256 * c1 + 65536 * c2 + 16777216 * c3 + 4294967296 * c4 + 1099511627776 * c5 + 281474976710656 * c6 + 72057594037927936 * c7 = c0 + 256 * (c1 + 256 * (c2 + 256 * (c3 + 256 * (c4 + 256 * (c5 + 256 * (c6 + 256 * c7)))))) := by omega
theorem id1 (c0 c1 c2 c3 c4 c5 c6 c7 : Nat) : (c0 + 256 * c1 + 65536 * c2 + 16777216 * c3 + 4294967296 * c4 + 1099511627776 * c5 + 281474976710656 * c6 + 72057594037927936 * c7) + (c1 + 256 * (c2 + 256 * (c3 + 256 * (c4 + 256 * (c5 + 256 * (c6 + 256 * c7)))))) = ((c0 + c1) + 256 * (c1 + c2)) + 65536 * ((c2 + c3) + 256 * (c3 + c4) + 65536 * ((c4 + c5) + 256 * (c5 + c6) + 65536 * ((c6 + c7) + 256 * c7))) := by omega
theorem id2 (c0 c1 c2 c3 c4 c5 c6 c7 : Nat) : ((c0 + c1) + 256 * (c1 + c2)) + 65536 * ((c2 + c3) + 256 * (c3 + c4) + 65536 * ((c4 + c5) + 256 * (c5 + c6) + 65536 * ((c6 + c7) + 256 * c7))) + ((c2 + c3) + 256 * (c3 + c4) + 65536 * ((c4 + c5) + 256 * (c5 + c6) + 65536 * ((c6 + c7) + 256 * c7))) =
    ((c0 + c1 + c2 + c3) + 256 * (c1 + c2 + c3 + c4) + 65536 * ((c2 + c3 + c4 + c5) + 256 * (c3 + c4 + c5 + c6))) + 4294967296 * ((c4 + c5 + c6 + c7) + 256 * (c5 + c6 + c7) + 65536 * ((c6 + c7) + 256 * c7)) := by omega
theorem id3 (c0 c1 c2 c3 c4 c5 c6 c7 : Nat) : ((c0 + c1 + c2 + c3) + 256 * (c1 + c2 + c3 + c4) + 65536 * ((c2 + c3 + c4 + c5) + 256 * (c3 + c4 + c5 + c6))) + 4294967296 * ((c4 + c5 + c6 + c7) + 256 * (c5 + c6 + c7) + 65536 * ((c6 + c7) + 256 * c7)) + ((c4 + c5 + c6 + c7) + 256 * (c5 + c6 + c7) + 65536 * ((c6 + c7) + 256 * c7)) =
    (c0 + c1 + c2 + c3 + c4 + c5 + c6 + c7) + 256 * ((c1 + c2 + c3 + c4) + (c5 + c6 + c7) + 256 * ((c2 + c3 + c4 + c5) + (c6 + c7) + 256 * (c3 + c4 + c5 + c6 + c7)) + 16777216 * ((c4 + c5 + c6 + c7) + 256 * (c5 + c6 + c7) + 65536 * ((c6 + c7) + 256 * c7))) := by omega
theorem fold_eight (c0 c1 c2 c3 c4 c5 c6 c7 y : Nat) (h0 : c0 ≤ 8) (h1 : c1 ≤ 8) (h2 : c2 ≤ 8) (h3 : c3 ≤ 8) (h4 : c4 ≤ 8) (h5 : c5 ≤ 8) (h6 : c6 ≤ 8) (h7 : c7 ≤ 8)
    (hy : y = c0 + 256 * c1 + 65536 * c2 + 16777216 * c3 + 4294967296 * c4 + 1099511627776 * c5 + 281474976710656 * c6 + 72057594037927936 * c7) :
    y + y / 256 < 18446744073709551616 ∧ (y + y / 256) + (y + y / 256) / 65536 < 18446744073709551616 ∧ (y + y / 256) + (y + y / 256) / 65536 + ((y + y / 256) + (y + y / 256) / 65536) / 4294967296 < 18446744073709551616 ∧
    ((y + y / 256) + (y + y / 256) / 65536 + ((y + y / 256) + (y + y / 256) / 65536) / 4294967296) % 128 = c0 + c1 + c2 + c3 + c4 + c5 + c6 + c7 := by
  have e1 : y / 256 = c1 + 256 * (c2 + 256 * (c3 + 256 * (c4 + 256 * (c5 + 256 * (c6 + 256 * c7))))) := part_low (a := c0) (by clear hy; omega) (by rw [hy]; exact id0 c0 c1 c2 c3 c4 c5 c6 c7)
  have z : y + y / 256 = ((c0 + c1) + 256 * (c1 + c2)) + 65536 * ((c2 + c3) + 256 * (c3 + c4) + 65536 * ((c4 + c5) + 256 * (c5 + c6) + 65536 * ((c6 + c7) + 256 * c7))) := by rw [e1, hy]; exact id1 c0 c1 c2 c3 c4 c5 c6 c7
  clear e1
  generalize y + y / 256 = Z at z ⊢
  have e2 : Z / 65536 = (c2 + c3) + 256 * (c3 + c4) + 65536 * ((c4 + c5) + 256 * (c5 + c6) + 65536 * ((c6 + c7) + 256 * c7)) := part_low' (a := (c0 + c1) + 256 * (c1 + c2)) (by omega) z
  have z2 : Z + Z / 65536 = ((c0 + c1 + c2 + c3) + 256 * (c1 + c2 + c3 + c4) + 65536 * ((c2 + c3 + c4 + c5) + 256 * (c3 + c4 + c5 + c6))) + 4294967296 * ((c4 + c5 + c6 + c7) + 256 * (c5 + c6 + c7) + 65536 * ((c6 + c7) + 256 * c7)) := by rw [e2, z]; exact id2 c0 c1 c2 c3 c4 c5 c6 c7
  have zb : Z < 18446744073709551616 := by rw [z]; clear z2 z e2 hy; omega
  clear e2 z hy
  generalize Z + Z / 65536 = V at z2 ⊢
  have e3 : V / 4294967296 = (c4 + c5 + c6 + c7) + 256 * (c5 + c6 + c7) + 65536 * ((c6 + c7) + 256 * c7) := part_low'' (a := (c0 + c1 + c2 + c3) + 256 * (c1 + c2 + c3 + c4) + 65536 * ((c2 + c3 + c4 + c5) + 256 * (c3 + c4 + c5 + c6))) (by omega) z2
  have vb : V < 18446744073709551616 := by rw [z2]; clear z2 e3 zb; omega
  have z3 : V + V / 4294967296 = (c0 + c1 + c2 + c3 + c4 + c5 + c6 + c7) + 256 * ((c1 + c2 + c3 + c4) + (c5 + c6 + c7) + 256 * ((c2 + c3 + c4 + c5) + (c6 + c7) + 256 * (c3 + c4 + c5 + c6 + c7)) + 16777216 * ((c4 + c5 + c6 + c7) + 256 * (c5 + c6 + c7) + 65536 * ((c6 + c7) + 256 * c7))) := by rw [e3, z2]; exact id3 c0 c1 c2 c3 c4 c5 c6 c7
  clear z2 e3
  refine ⟨zb, vb, by rw [z3]; clear z3 zb vb; omega, ?_⟩
  rw [z3]
  exact part_mod (by clear z3 zb vb; omega)
theorem bsum_eight (x : Nat) : bsum 8 x = pop 8 (x % 256) + 256 * pop 8 (x / 256 % 256) + 65536 * pop 8 (x / 256 / 256 % 256) + 16777216 * pop 8 (x / 256 / 256 / 256 % 256) + 4294967296 * pop 8 (x / 256 / 256 / 256 / 256 % 256) +
    1099511627776 * pop 8 (x / 256 / 256 / 256 / 256 / 256 % 256) + 281474976710656 * pop 8 (x / 256 / 256 / 256 / 256 / 256 / 256 % 256) + 72057594037927936 * pop 8 (x / 256 / 256 / 256 / 256 / 256 / 256 / 256 % 256) := by
  simp only [bsum]; omega
theorem pop_step (n x : Nat) : pop (8 + n) x = pop 8 (x % 256) + pop n (x / 256) := by
  have h := pop_byte n (x % 256) (x / 256) (by omega)
  rw [show x % 256 + 256 * (x / 256) = x by omega] at h
  exact h
theorem pop_eight (x : Nat) : pop 64 x = pop 8 (x % 256) + pop 8 (x / 256 % 256) + pop 8 (x / 256 / 256 % 256) + pop 8 (x / 256 / 256 / 256 % 256) + pop 8 (x / 256 / 256 / 256 / 256 % 256) +
    pop 8 (x / 256 / 256 / 256 / 256 / 256 % 256) + pop 8 (x / 256 / 256 / 256 / 256 / 256 / 256 % 256) + pop 8 (x / 256 / 256 / 256 / 256 / 256 / 256 / 256 % 256) := by
  rw [show (64 : Nat) = 8 + (8 + (8 + (8 + (8 + (8 + (8 + (8 + 0))))))) from rfl, pop_step, pop_step, pop_step, pop_step, pop_step, pop_step, pop_step, pop_step]
  simp only [pop]
  omega
end Go.Proofs.Ytllnlmcofaomlaa.BitsMath
namespace Go.Proofs.Ytllnlmcofaomlaa.QAc
open Go.RowKit Go.Proofs.YtllnlmcofaomlaaW.PrintWords Go.Proofs.YtllnlmcofaomlaaW.PrintLast Go.Proofs.YtllnlmcofaomlaaW.PrintMore
attribute [local go_sem] max2_int min2_int max_two min_two max_three min_three max_four min_four   -- for this text's walks alone
set_option linter.unusedVariables false
set_option linter.unusedSimpArgs false
end Go.Proofs.Ytllnlmcofaomlaa.QAc
namespace Go.Proofs.Ytllnlmcofaomlaa.QAc
open Go.RowKit Go.Proofs.YtllnlmcofaomlaaW.PrintWords Go.Proofs.YtllnlmcofaomlaaW.PrintLast Go.Proofs.YtllnlmcofaomlaaW.PrintMore
attribute [local go_sem] max2_int min2_int max_two min_two max_three min_three max_four min_four   -- for this text's walks alone
set_option linter.unusedVariables false
set_option linter.unusedSimpArgs false
end Go.Proofs.Ytllnlmcofaomlaa.QAc
namespace Go.Proofs.Ytllnlmcofaomlaa.QAc
open Go.RowKit Go.Proofs.YtllnlmcofaomlaaW.PrintWords Go.Proofs.YtllnlmcofaomlaaW.PrintLast Go.Proofs.YtllnlmcofaomlaaW.PrintMore
attribute [local go_sem] max2_int min2_int max_two min_two max_three min_three max_four min_four   -- for this text's walks alone
set_option linter.unusedVariables false
set_option linter.unusedSimpArgs false
end Go.Proofs.Ytllnlmcofaomlaa.QAc
namespace Go.Proofs.Ytllnlmcofaomlaa.BitsPure
open Go.RowKit Go.Proofs.Ytllnlmcofaomlaa.QAc Go.Proofs.YtllnlmcofaomlaaW.PrintWords Go.Proofs.YtllnlmcofaomlaaW.PrintLast Go.Proofs.YtllnlmcofaomlaaW.PrintMore Go.Proofs.Ytllnlmcofaomlaa.BitsMath
set_option linter.unusedVariables false
theorem wrapN {a : Nat} (h : a < 18446744073709551616) : IntKind.u64.wrap (a : Int) = (a : Int) := by rw [IntKind.wrap_u64]; omega
theorem wr64 (n : Int) (h0 : 0 ≤ n) (h1 : n < 2 ^ 64) : IntKind.u64.wrap n = n := by rw [IntKind.wrap_u64]; omega
theorem andN (a b : Nat) (ha : a < 18446744073709551616) (hb : b < 18446744073709551616) : Go.bits .and .u64 (a : Int) (b : Int) = ((a &&& b : Nat) : Int) := (bits_nat .u64 64 (by decide) wr64 a b ha hb).1
theorem orN (a b : Nat) (ha : a < 18446744073709551616) (hb : b < 18446744073709551616) : Go.bits .or .u64 (a : Int) (b : Int) = ((a ||| b : Nat) : Int) := (bits_nat .u64 64 (by decide) wr64 a b ha hb).2
theorem and_lt {a b : Nat} (ha : a < 18446744073709551616) : a &&& b < 18446744073709551616 := Nat.lt_of_le_of_lt Nat.and_le_left ha
theorem or_lt {a b : Nat} (ha : a < 18446744073709551616) (hb : b < 18446744073709551616) : a ||| b < 18446744073709551616 := Nat.or_lt_two_pow (n := 64) ha hb
def S1 (x : Int) : Int := IntKind.u64.wrap ((Go.bits .and .u64 (x / 2) 6148914691236517205) + (Go.bits .and .u64 x 6148914691236517205))
def S2 (x : Int) : Int := IntKind.u64.wrap ((Go.bits .and .u64 (x / 4) 3689348814741910323) + (Go.bits .and .u64 x 3689348814741910323))
def S3 (x : Int) : Int := Go.bits .and .u64 (IntKind.u64.wrap ((x / 16) + x)) 1085102592571150095
def S4 (x : Int) : Int := IntKind.u64.wrap (x + x / 256)
def S5 (x : Int) : Int := IntKind.u64.wrap (x + x / 65536)
def S6 (x : Int) : Int := IntKind.u64.wrap (x + x / 4294967296)
theorem ones_steps (x : Int) : bits_OnesCount64.f x = some (Go.bits .and .i64 (wrap64 (S6 (S5 (S4 (S3 (S2 (S1 x))))))) 127) := by
  unfold bits_OnesCount64.f S6 S5 S4 S3 S2 S1
  rfl
theorem S1_eq (n : Nat) (h : n < 18446744073709551616) (hs : st1 (rep 85 8) n < 18446744073709551616) : S1 (n : Int) = (st1 (rep 85 8) n : Nat) := by
  have e : (6148914691236517205 : Int) = ((rep 85 8 : Nat) : Int) := by decide
  unfold S1
  rw [e, show (n : Int) / 2 = ((n / 2 : Nat) : Int) by omega, andN _ _ (by omega) (by decide), andN _ _ h (by decide), ← Int.natCast_add]
  exact wrapN hs
theorem S2_eq (n : Nat) (h : n < 18446744073709551616) (hs : st2 (rep 51 8) n < 18446744073709551616) : S2 (n : Int) = (st2 (rep 51 8) n : Nat) := by
  have e : (3689348814741910323 : Int) = ((rep 51 8 : Nat) : Int) := by decide
  unfold S2
  rw [e, show (n : Int) / 4 = ((n / 4 : Nat) : Int) by omega, andN _ _ (by omega) (by decide), andN _ _ h (by decide), ← Int.natCast_add]
  exact wrapN hs
theorem S3_eq (n : Nat) (h : n / 16 + n < 18446744073709551616) : S3 (n : Int) = (st3 (rep 15 8) n : Nat) := by
  have e : (1085102592571150095 : Int) = ((rep 15 8 : Nat) : Int) := by decide
  unfold S3
  rw [e, show (n : Int) / 16 = ((n / 16 : Nat) : Int) by omega, ← Int.natCast_add, wrapN h, andN _ _ h (by decide)]
  rfl
theorem st1_lt {k : Nat} : ∀ x, x < 256 ^ k → st1 (rep 85 k) x < 256 ^ k := by
  induction k with
  | zero => intro x h; obtain rfl : x = 0 := by simpa using h
            rw [(st_zero _).1]; decide
  | succ k ih =>
    intro x h
    have hq : x / 256 < 256 ^ k := by rw [Nat.div_lt_iff_lt_mul (by omega), ← Nat.pow_succ]; exact h
    have hb := byte_tells (x % 256) (by omega)
    have e1 : st1 (rep 85 (k + 1)) x = st1 85 (x % 256) + 256 * st1 (rep 85 k) (x / 256) := by
      conv => lhs; rw [show x = x % 256 + 256 * (x / 256) by omega]
      exact st1_byte _ _ _ (by omega)
    have := ih _ hq
    rw [e1, Nat.pow_succ]; omega
theorem st2_lt {k : Nat} : ∀ x, x < 256 ^ k → 255 * st2 (rep 51 k) (st1 (rep 85 k) x) + 68 ≤ 68 * 256 ^ k := by
  induction k with
  | zero => intro x h; obtain rfl : x = 0 := by simpa using h
            rw [(st_zero _).1, (st_zero _).2.1]; decide
  | succ k ih =>
    intro x h
    have hq : x / 256 < 256 ^ k := by rw [Nat.div_lt_iff_lt_mul (by omega), ← Nat.pow_succ]; exact h
    have hb := byte_tells (x % 256) (by omega)
    have e1 : st1 (rep 85 (k + 1)) x = st1 85 (x % 256) + 256 * st1 (rep 85 k) (x / 256) := by
      conv => lhs; rw [show x = x % 256 + 256 * (x / 256) by omega]
      exact st1_byte _ _ _ (by omega)
    have e2 : st2 (rep 51 (k + 1)) (st1 (rep 85 (k + 1)) x) = st2 51 (st1 85 (x % 256)) + 256 * st2 (rep 51 k) (st1 (rep 85 k) (x / 256)) := by
      rw [e1]; exact st2_byte _ _ _ hb.1
    have := ih _ hq
    rw [e2, Nat.pow_succ]; omega
theorem mask7 (u : Nat) (h : u < 18446744073709551616) : Go.bits .and .i64 (wrap64 (u : Int)) 127 = ((u % 128 : Nat) : Int) := by
  have e : Go.bits .and .i64 (wrap64 (u : Int)) 127 = IntKind.i64.wrap ((BitVec.ofInt 64 (wrap64 (u : Int)) &&& BitVec.ofInt 64 127).toNat : Int) := rfl
  have e1 : (BitVec.ofInt 64 (wrap64 (u : Int))).toNat = u := by
    rw [BitVec.toNat_ofInt]
    unfold wrap64
    omega
  have e2 : (BitVec.ofInt 64 127).toNat = 2 ^ 7 - 1 := by decide
  rw [e, BitVec.toNat_and, e1, e2, Nat.and_two_pow_sub_one_eq_mod, IntKind.wrap_i64]
  omega
theorem ones_eq (n : Nat) (h : n < 18446744073709551616) : bits_OnesCount64.f (n : Int) = some ((pop 64 n : Nat) : Int) := by
  have hk : n < 256 ^ 8 := h
  have a1 := st1_lt n hk
  have a2 := st2_lt n hk
  obtain ⟨_, a3⟩ := steps 8 n hk
  rw [show (256 : Nat) ^ 8 = 18446744073709551616 by decide] at a1 a2
  rw [ones_steps, S1_eq n h a1, S2_eq _ a1 (by omega), S3_eq _ (by omega), a3]
  obtain ⟨f1, f2, f3, f4⟩ := fold_eight _ _ _ _ _ _ _ _ (bsum 8 n) (pop8_le _) (pop8_le _) (pop8_le _) (pop8_le _) (pop8_le _) (pop8_le _) (pop8_le _) (pop8_le _) (bsum_eight n)
  rw [← pop_eight] at f4
  have hp := pop_le 64 n
  generalize bsum 8 n = y at *
  have g1 : S4 (y : Int) = ((y + y / 256 : Nat) : Int) := by unfold S4; rw [show (y : Int) + (y : Int) / 256 = ((y + y / 256 : Nat) : Int) by omega]; exact wrapN f1
  rw [g1]
  generalize y + y / 256 = z at *
  have g2 : S5 (z : Int) = ((z + z / 65536 : Nat) : Int) := by unfold S5; rw [show (z : Int) + (z : Int) / 65536 = ((z + z / 65536 : Nat) : Int) by omega]; exact wrapN f2
  rw [g2]
  generalize z + z / 65536 = v at *
  have g3 : S6 (v : Int) = ((v + v / 4294967296 : Nat) : Int) := by unfold S6; rw [show (v : Int) + (v : Int) / 4294967296 = ((v + v / 4294967296 : Nat) : Int) by omega]; exact wrapN f3
  rw [g3]
  generalize v + v / 4294967296 = u at *
  rw [mask7 u f3, f4]
theorem ones_int (x : Int) (h0 : 0 ≤ x) (h1 : x < 18446744073709551616) : bits_OnesCount64.f x = some ((pop 64 x.toNat : Nat) : Int) := by
  obtain ⟨n, rfl⟩ := Int.eq_ofNat_of_zero_le h0
  rw [ones_eq n (by omega)]; rfl
theorem count_int (x : Int) (h0 : 0 ≤ x) (h1 : x < 18446744073709551616) : bits_Count.f x = some ((pop 64 x.toNat : Nat) : Int) := by
  unfold bits_Count.f; rw [ones_int x h0 h1]; rfl
end Go.Proofs.Ytllnlmcofaomlaa.BitsPure
namespace Go.Proofs.Ytllnlmcofaomlaa.Open
open Go.RowKit Go.Proofs.YtllnlmcofaomlaaW.PrintWords Go.Proofs.YtllnlmcofaomlaaW.PrintLast Go.WideShapes
set_option linter.unusedVariables false
structure Opens (P : Program) {α : Type} (k : Kd α) (t : TypeId) (W : α → Prop) : Prop where
  out : ∀ {H : Type} {enc : TypeId × Value → H} {w : World} {base : Nat} {spare : Nat → Bool} {held : Bool} {fuel : Nat} {cs : List Value} {x : DataW H × List MemPlace},
    DataW.trod enc P w base spare held fuel t cs = some x → ∃ a : α, k.K w a cs ∧ W a
theorem opens_int {P : Program} {t : TypeId} {k : IntKind} (ht : P.underlying t = some (.int k)) : Opens P (Kd.int k) t (fun n => (Lit.int k n).wf = true) := by
  refine ⟨fun {H enc w base spare held fuel cs x} h => ?_⟩
  obtain ⟨n, rfl, _, hw⟩ := DataW.trod_int ht h
  exact ⟨n, rfl, hw⟩
theorem opens_string {P : Program} {t : TypeId} (ht : P.underlying t = some .string) : Opens P Kd.string t (fun s => s.size ≤ maxLen) := by
  refine ⟨fun {H enc w base spare held fuel cs x} h => ?_⟩
  obtain ⟨s, rfl, _, hs⟩ := DataW.trod_string ht h
  exact ⟨s, rfl, hs⟩
theorem addr_add (a : Addr) (i j : Nat) : (a.add i).add j = a.add (i + j) := Go.Deep.add_add a i j
theorem opens_slice {P : Program} {α : Type} [Inhabited α] {d : Kd α} {t e : TypeId} {W : α → Prop} (ht : P.underlying t = some (.slice e)) (hs : P.cellsOf e = d.sz) (hd : Opens P d e W) :
    Opens P (Kd.slice e d) t (fun xs => ∀ x ∈ xs, W x) := by
  refine ⟨fun {H enc w base spare held fuel cs x} h => ?_⟩
  rcases Go.Deep.open_slice ht h with ⟨rfl, _⟩ | ⟨a, len, cap, m, n, D, Pl, rfl, hb, hl, hc, hm, _, hel⟩
  · exact ⟨[], ⟨none, 0, rfl, Nat.le_refl _, rfl, Nat.zero_le _, fun h => absurd h (Nat.lt_irrefl _)⟩, fun x hx => absurd hx (List.not_mem_nil)⟩
  · have hlm : len ≤ m := by rw [hm]; split <;> omega
    have each : ∀ i, i < len → ∃ y : α, (∃ cs', w.cells? base (a.add (i * P.cellsOf e)) (P.cellsOf e) = some cs' ∧ d.K w y cs') ∧ W y := fun i hi => by
      obtain ⟨cs', h1, h2⟩ := hel i (by omega)
      obtain ⟨y, hy, hw⟩ := hd.out h2
      exact ⟨y, ⟨cs', h1, hy⟩, hw⟩
    obtain ⟨f, hf⟩ := Go.Deep.choose_lt each
    have hlen : ((List.range len).map f).length = len := by simp
    refine ⟨(List.range len).map f, ⟨some a, cap, by rw [hlen], by rw [hlen]; exact hl, rfl, ?_, ?_⟩, ?_⟩
    · rw [hlen]; unfold maxLen at hc; omega
    · intro _
      refine ⟨a, rfl, fun j p hp => ?_⟩
      obtain ⟨hj, rfl⟩ := List.getElem?_eq_some_iff.1 hp
      rw [hlen] at hj
      obtain ⟨⟨cs', h1, h2⟩, _⟩ := hf j hj
      obtain ⟨_, h4, h5⟩ := World.cells?_some h1
      refine ⟨cs', by rw [h4, hs], by simpa using h2, fun i u hu => ?_⟩
      have hi : i < cs'.length := by
        by_cases q : i < cs'.length
        · exact q
        · rw [List.getElem?_eq_none (by omega)] at hu; cases hu
      have := h5 i (by omega)
      rw [addr_add, hs] at this
      rw [this]; exact hu
    · intro x hx
      obtain ⟨i, hi, rfl⟩ := List.mem_map.1 hx
      exact (hf i (List.mem_range.1 hi)).2
structure OpensFrom (P : Program) (fs : Array Field) (i : Nat) (off : Nat) {α : Type} (k : Kd α) (W : α → Prop) : Prop where
  out : ∀ {H : Type} {enc : TypeId × Value → H} {w : World} {base : Nat} {spare : Nat → Bool} {held : Bool} {n : Nat} {cs : List Value} {xs : List (DataW H × List MemPlace)},
    xs.length = fs.size → cs.length = off + k.sz →
    (∀ (j : Nat) (f : Field), fs[j]? = some f → DataW.trod enc P w base spare held n f.type ((cs.drop f.offset).take (P.cellsOf f.type)) = xs[j]?) → ∃ a : α, k.K w a (cs.drop off) ∧ W a
theorem opensFrom_last {P : Program} {fs : Array Field} {i off : Nat} {α : Type} {k : Kd α} {W : α → Prop} (f : Field) (hf : fs[i]? = some f) (ho : f.offset = off) (hs : P.cellsOf f.type = k.sz) (hd : Opens P k f.type W) : OpensFrom P fs i off k W := by
  refine ⟨fun {H enc w base spare held n cs xs} hx hl h => ?_⟩
  have hi : i < xs.length := by
    rw [hx]
    by_cases q : i < fs.size
    · exact q
    · rw [Array.getElem?_eq_none (by omega)] at hf; cases hf
  have h1 := h i f hf
  rw [List.getElem?_eq_getElem hi, ho, hs, List.take_of_length_le (by simp; omega)] at h1
  exact hd.out h1
theorem opensFrom_cons {P : Program} {fs : Array Field} {i off : Nat} {α β : Type} {k : Kd α} {l : Kd β} {W : α → Prop} {V : β → Prop} (f : Field) (hf : fs[i]? = some f) (ho : f.offset = off) (hs : P.cellsOf f.type = k.sz)
    (hd : Opens P k f.type W) (hr : OpensFrom P fs (i + 1) (off + k.sz) l V) : OpensFrom P fs i off (Kd.pair k l) (fun x => W x.1 ∧ V x.2) := by
  refine ⟨fun {H enc w base spare held n cs xs} hx hl h => ?_⟩
  have hi : i < xs.length := by
    rw [hx]
    by_cases q : i < fs.size
    · exact q
    · rw [Array.getElem?_eq_none (by omega)] at hf; cases hf
  have hl' : cs.length = off + (k.sz + l.sz) := hl
  have h1 := h i f hf
  rw [List.getElem?_eq_getElem hi, ho, hs] at h1
  obtain ⟨a, ka, wa⟩ := hd.out h1
  obtain ⟨b, kb, wb⟩ := hr.out hx (by omega) h
  refine ⟨(a, b), ⟨_, _, ?_, ka, kb⟩, wa, wb⟩
  rw [← List.drop_drop, List.take_append_drop]
theorem opens_struct {P : Program} {t : TypeId} {fs : Array Field} {α β : Type} {k : Kd α} {g : β → α} {W : α → Prop} {V : β → Prop} (ht : P.underlying t = some (.struct fs)) (hs : P.cellsOf t = k.sz) (hd : OpensFrom P fs 0 0 k W)
    (inv : α → β) (hg : ∀ a, g (inv a) = a) (hW : ∀ a, W a → V (inv a)) : Opens P (Kd.iso k g) t V := by
  refine ⟨fun {H enc w base spare held fuel cs x} h => ?_⟩
  obtain ⟨xs, n, _, _, hl, hx, hall⟩ := DataW.trod_struct ht h
  obtain ⟨a, ka, wa⟩ := hd.out hx (by rw [hl, hs]; omega) hall
  exact ⟨inv a, by show k.K w (g (inv a)) cs; rw [hg]; simpa using ka, hW a wa⟩
theorem arg_struct {P : Program} {H : Type} {enc : TypeId × Value → H} {w : World} {base : Nat} {spare : Nat → Bool} {held : Bool} {α : Type} {d : Kd α} {t : TypeId} {fs : Array Field} {W : α → Prop} {v : Value} {x : DataW H} {ps : List MemPlace} {r : Reach} {b0 : Nat}
    (ht : P.underlying t = some (.struct fs)) (hv : Value.okWide P w r b0 t v) (ho : Opens P d t W) (h : DataW.Trod enc P w base spare held t v x ps) :
    ∃ (a : α) (cs : List Value), v = .agg cs.toArray ∧ d.K w a cs ∧ W a := by
  obtain ⟨fuel, hf⟩ := h
  obtain ⟨cs, rfl, _⟩ := okWide_struct ht hv
  obtain ⟨a, ha, hw⟩ := ho.out hf
  exact ⟨a, cs.toList, by simp, ha, hw⟩
end Go.Proofs.Ytllnlmcofaomlaa.Open
namespace Go.Proofs.Ytllnlmcofaomlaa.QAc
open Go.RowKit Go.Proofs.YtllnlmcofaomlaaW.PrintWords Go.Proofs.YtllnlmcofaomlaaW.PrintLast Go.Proofs.Ytllnlmcofaomlaa.Open
set_option linter.unusedVariables false
instance : Inhabited S38 := ⟨z38⟩
def wf38 (x : S38) : Prop := ((x.f0).size ≤ maxLen) ∧ ((Lit.int .i64 x.f1).wf = true) ∧ ((Lit.int .i64 x.f2).wf = true) ∧ ((Lit.int .i64 x.f3).wf = true) ∧ ((Lit.int .i64 x.f4).wf = true) ∧ ((Lit.int .i64 x.f5).wf = true) ∧ (∀ y ∈ x.f6, (Lit.int .i64 y).wf = true) ∧ ((Lit.int .u64 x.f7).wf = true) ∧ ((Lit.int .u64 x.f8).wf = true)
theorem opens38 : Opens Try.prog k38 38 wf38 :=
  opens_struct Try.underlying38 (by kernel_rfl) (opensFrom_cons _ rfl rfl (by kernel_rfl) (opens_string Try.underlying9) (opensFrom_cons _ rfl rfl (by kernel_rfl) (opens_int Try.underlying2) (opensFrom_cons _ rfl rfl (by kernel_rfl) (opens_int Try.underlying2) (opensFrom_cons _ rfl rfl (by kernel_rfl) (opens_int Try.underlying3) (opensFrom_cons _ rfl rfl (by kernel_rfl) (opens_int Try.underlying2) (opensFrom_cons _ rfl rfl (by kernel_rfl) (opens_int Try.underlying3) (opensFrom_cons _ rfl rfl (by kernel_rfl) (opens_slice Try.underlying35 (by kernel_rfl) (opens_int Try.underlying2)) (opensFrom_cons _ rfl rfl (by kernel_rfl) (opens_int Try.underlying36) (opensFrom_last _ rfl rfl (by kernel_rfl) (opens_int Try.underlying36)))))))))) (fun a => ⟨a.1, a.2.1, a.2.2.1, a.2.2.2.1, a.2.2.2.2.1, a.2.2.2.2.2.1, a.2.2.2.2.2.2.1, a.2.2.2.2.2.2.2.1, a.2.2.2.2.2.2.2.2⟩) (fun _ => rfl) (fun _ h => h)
structure S24 where
  f0 : Int
  f1 : (List S38)
def z24 : S24 := ⟨0, []⟩
def k24 : Kd S24 := Kd.iso (Kd.pair (Kd.int .i64) (Kd.slice 38 k38)) (fun x : S24 => (x.f0, x.f1))
theorem k24_open {w : World} {x : S24} {cs : List Value} (h : k24.K w x cs) : ∃ A1 c1, cs = [.int .i64 x.f0, .slice A1 x.f1.length c1] ∧ x.f1.length ≤ c1 ∧ Kd.C k38 w A1 x.f1.length x.f1 := by
  obtain ⟨_, _, rfl, rfl, ⟨A1, c1, rfl, l1, g1⟩⟩ := h
  exact ⟨A1, c1, rfl, l1, g1⟩
instance : Inhabited S24 := ⟨z24⟩
def wf24 (x : S24) : Prop := ((Lit.int .i64 x.f0).wf = true) ∧ (∀ y ∈ x.f1, wf38 y)
theorem opens24 : Opens Try.prog k24 24 wf24 :=
  opens_struct Try.underlying24 (by kernel_rfl) (opensFrom_cons _ rfl rfl (by kernel_rfl) (opens_int Try.underlying2) (opensFrom_last _ rfl rfl (by kernel_rfl) (opens_slice Try.underlying22 (by kernel_rfl) opens38))) (fun a => ⟨a.1, a.2⟩) (fun _ => rfl) (fun _ h => h)
end Go.Proofs.Ytllnlmcofaomlaa.QAc
namespace Go.Proofs.Ytllnlmcofaomlaa.QAc
open Go.RowKit Go.Proofs.YtllnlmcofaomlaaW.PrintWords Go.Proofs.YtllnlmcofaomlaaW.PrintLast Go.Proofs.YtllnlmcofaomlaaW.PrintMore
attribute [local go_sem] max2_int min2_int max_two min_two max_three min_three max_four min_four   -- for this text's walks alone
set_option linter.unusedVariables false
set_option linter.unusedSimpArgs false
end Go.Proofs.Ytllnlmcofaomlaa.QAc
namespace Go.Proofs.Ytllnlmcofaomlaa.AgainPure
open Go.RowKit Go.Proofs.Ytllnlmcofaomlaa.QAc Go.Proofs.YtllnlmcofaomlaaW.PrintWords Go.Proofs.YtllnlmcofaomlaaW.PrintLast Go.Proofs.YtllnlmcofaomlaaW.PrintMore Go.Proofs.Ytllnlmcofaomlaa.RefSet Go.Proofs.Ytllnlmcofaomlaa.BitsPure Go.Proofs.Ytllnlmcofaomlaa.BitsMath
set_option linter.unusedVariables false
theorem u64_in {n : Int} (h : (Lit.int .u64 n).wf = true) : 0 ≤ n ∧ n < 18446744073709551616 := by
  simp only [Lit.wf, IntKind.min, IntKind.max, IntKind.signed, IntKind.bits, Bool.and_eq_true] at h
  simp at h
  omega
theorem i64_in' {n : Int} (h : (Lit.int .i64 n).wf = true) : -9223372036854775808 ≤ n ∧ n ≤ 9223372036854775807 := by
  simp only [Lit.wf, IntKind.min, IntKind.max, IntKind.signed, IntKind.bits, Bool.and_eq_true, decide_eq_true_eq, if_true] at h
  omega
def SetsOK (l : List S38) : Prop := ∀ y ∈ l, (0 ≤ y.f7 ∧ y.f7 < 18446744073709551616) ∧ (0 ≤ y.f8 ∧ y.f8 < 18446744073709551616)
theorem sets_of {l : List S38} (h : ∀ y ∈ l, wf38 y) : SetsOK l := fun y hy => ⟨u64_in (h y hy).2.2.2.2.2.2.2.1, u64_in (h y hy).2.2.2.2.2.2.2.2⟩
theorem sizes_of {l : List S38} (h : ∀ y ∈ l, wf38 y) : ∀ y ∈ l, y.f0.size ≤ 9223372036854775807 := fun y hy => (h y hy).1
theorem rd_in {l : List S38} {i : Int} (h0 : 0 ≤ i) (h1 : i < (l.length : Int)) : rd_T38 l i ∈ l := by
  unfold rd_T38; rw [List.getD_eq_getElem?_getD, List.getElem?_eq_getElem (show i.toNat < l.length by omega)]; exact List.getElem_mem _
theorem rd_dropT {l : List S38} {i : Nat} (h : i < l.length) : l.drop i = rd_T38 l (i : Int) :: l.drop (i + 1) := by
  rw [List.drop_eq_getElem_cons h]; unfold rd_T38
  rw [Int.toNat_natCast, List.getD_eq_getElem?_getD, List.getElem?_eq_getElem h]; rfl
def orAll : List S38 → Nat → Nat
  | [], a => a
  | x :: l, a => orAll l (a ||| x.f8.toNat)
theorem or_int {a : Nat} {u : Int} (ha : a < 18446744073709551616) (h : 0 ≤ u ∧ u < 18446744073709551616) : Go.bits .or .u64 (a : Int) u = ((a ||| u.toNat : Nat) : Int) := by
  obtain ⟨n, rfl⟩ := Int.eq_ofNat_of_zero_le h.1
  exact orN a n ha (by omega)
theorem and_int {a : Nat} {u : Int} (ha : a < 18446744073709551616) (h : 0 ≤ u ∧ u < 18446744073709551616) : Go.bits .and .u64 u (a : Int) = ((u.toNat &&& a : Nat) : Int) := by
  obtain ⟨n, rfl⟩ := Int.eq_ofNat_of_zero_le h.1
  exact andN n a (by omega) ha
theorem is_at (r : Int) (l : List S38) (i : Int) : again_is.f r l i = some (decide (0 ≤ i ∧ i < (l.length : Int))) := by
  unfold again_is.f
  by_cases h : 0 ≤ i
  · rw [if_pos (show i ≥ 0 from h)]; simp [h]
  · rw [if_neg (show ¬ i ≥ 0 from h)]; simp [h]
def ticksV (r : Int) (x : Nat) : Int := wrap64 (r * (pop 64 x : Nat))
theorem ticks_eq (r : Int) (l : List S38) (n : Nat) (h : n < 18446744073709551616) : again_ticks.f r l (n : Int) = some (ticksV r n) := by
  unfold again_ticks.f
  rw [count_int (n : Int) (by omega) (by omega), Option.bind_some]; rfl
theorem ticksV_in {r : Int} (h0 : 0 ≤ r) (h1 : r ≤ 10000) (x : Nat) : ticksV r x = r * (pop 64 x : Nat) ∧ 0 ≤ ticksV r x ∧ ticksV r x ≤ 640000 := by
  have hp := pop_le 64 x
  have a : 0 ≤ r * ((pop 64 x : Nat) : Int) := Int.mul_nonneg h0 (by omega)
  have b : r * ((pop 64 x : Nat) : Int) ≤ 10000 * 64 := Int.mul_le_mul h1 (by omega) (by omega) (by omega)
  have e : ticksV r x = r * (pop 64 x : Nat) := w64 (by omega) (by omega)
  rw [e]; exact ⟨rfl, a, by omega⟩
def madeV (r : Int) (l : List S38) (i : Int) : Int := if 0 ≤ i ∧ i < (l.length : Int) then ticksV r ((rd_T38 l i).f7.toNat &&& orAll (l.drop (i.toNat + 1)) 0) else 0
theorem made_loop {r : Int} {l L : List S38} (h : SetsOK l) (hL : SetsOK L) (hl : l.length ≤ 9223372036854775807) {i : Int} (c : 0 ≤ i ∧ i < (L.length : Int)) (d : Nat) : ∀ (k j a : Nat), j + d = l.length → d < k → a < 18446744073709551616 →
    again_Made.l0 k i (a : Int) l (l.length : Int) (j : Int) r L = some (ticksV r ((rd_T38 L i).f7.toNat &&& orAll (l.drop j) a)) := by
  induction d with
  | zero =>
    intro k j a hj hk ha
    obtain ⟨k, rfl⟩ : ∃ m, k = m + 1 := ⟨k - 1, by omega⟩
    simp only [again_Made.l0]
    have hx := (hL _ (rd_in c.1 c.2)).1
    rw [if_neg (by omega), if_pos c.1, if_pos c.2, and_int ha hx, List.drop_eq_nil_of_le (by omega), ticks_eq _ _ _ (and_lt (by omega)), Option.bind_some]; rfl
  | succ d ih =>
    intro k j a hj hk ha
    obtain ⟨k, rfl⟩ : ∃ m, k = m + 1 := ⟨k - 1, by omega⟩
    have hlt : j < l.length := by omega
    have hx := (h _ (rd_in (i := (j : Int)) (by omega) (by omega))).2
    simp only [again_Made.l0]
    rw [if_pos (by omega), if_pos (by omega), if_pos (by omega), or_int ha hx, w64 (n := (j : Int) + 1) (by omega) (by omega), rd_dropT hlt]
    have := ih k (j + 1) (a ||| (rd_T38 l (j : Int)).f8.toNat) (by omega) (by omega) (or_lt ha (by omega))
    rw [show ((j + 1 : Nat) : Int) = (j : Int) + 1 by omega] at this
    exact this
theorem made_eq {r : Int} {l : List S38} (h : SetsOK l) (hl : l.length ≤ 1000) (i : Int) (k : Nat) (hk : 1000 < k) : again_Made.f k r l i = some (madeV r l i) := by
  unfold again_Made.f madeV
  rw [is_at, Option.bind_some]
  by_cases c : 0 ≤ i ∧ i < (l.length : Int)
  · rw [decide_eq_true c, if_pos rfl, if_pos c, w64 (n := i + 1) (by omega) (by omega), if_pos (by omega), if_pos (by omega), Option.bind_some, show (i + 1).toNat = i.toNat + 1 by omega]
    have hd : SetsOK (l.drop (i.toNat + 1)) := fun y hy => h y (List.mem_of_mem_drop hy)
    have hdl : (l.drop (i.toNat + 1)).length ≤ l.length := by rw [List.length_drop]; omega
    have := made_loop (r := r) hd h (by omega) c (l.drop (i.toNat + 1)).length k 0 0 (by omega) (by omega) (by omega)
    rw [List.drop_zero] at this
    exact this
  · rw [decide_eq_false c, if_neg (by simp), if_neg c]
theorem made_ev {r : Int} {l : List S38} (h : SetsOK l) (hl : l.length ≤ 1000) (i : Int) : Ev (fun k => again_Made.f k r l i) (madeV r l i) := ⟨1001, fun k hk => made_eq h hl i k (by omega)⟩
theorem madeV_in {r : Int} (h0 : 0 ≤ r) (h1 : r ≤ 10000) (l : List S38) (i : Int) : 0 ≤ madeV r l i ∧ madeV r l i ≤ 640000 := by
  unfold madeV
  split
  · exact (ticksV_in h0 h1 _).2
  · omega
end Go.Proofs.Ytllnlmcofaomlaa.AgainPure
namespace Go.Proofs.Ytllnlmcofaomlaa.BlockPure
open Go.RowKit Go.Proofs.Ytllnlmcofaomlaa.QAc Go.Proofs.YtllnlmcofaomlaaW.PrintWords Go.Proofs.YtllnlmcofaomlaaW.PrintLast Go.Proofs.YtllnlmcofaomlaaW.PrintMore Go.Proofs.Ytllnlmcofaomlaa.RefSet
set_option linter.unusedVariables false
theorem twork_loop {l : List Int} (hl : l.length ≤ 8) (h : ∀ x ∈ l, 1 ≤ x ∧ x ≤ 10000) (d : Nat) : ∀ (k i : Nat) (acc : Int), i + d = l.length → d < k → 0 ≤ acc → acc ≤ 10000 * i →
    task_Work.l0 k acc l (l.length : Int) (i : Int) = some (acc + sum (l.drop i)) := by
  induction d with
  | zero =>
    intro k i acc hi hk h0 h1
    obtain ⟨k, rfl⟩ : ∃ m, k = m + 1 := ⟨k - 1, by omega⟩
    simp only [task_Work.l0]
    rw [if_neg (by omega), List.drop_eq_nil_of_le (by omega)]; simp [sum]
  | succ d ih =>
    intro k i acc hi hk h0 h1
    obtain ⟨k, rfl⟩ : ∃ m, k = m + 1 := ⟨k - 1, by omega⟩
    have hlt : i < l.length := by omega
    have hm : rd l (i : Int) ∈ l := by
      unfold rd; rw [Int.toNat_natCast, List.getD_eq_getElem?_getD, List.getElem?_eq_getElem hlt]; exact List.getElem_mem hlt
    have hx := h _ hm
    simp only [task_Work.l0]
    rw [if_pos (by omega), if_pos (by omega), if_pos (by omega), w64 (n := acc + rd l (i : Int)) (by omega) (by omega), w64 (n := (i : Int) + 1) (by omega) (by omega), rd_drop hlt]
    have := ih k (i + 1) (acc + rd l (i : Int)) (by omega) (by omega) (by omega) (by omega)
    rw [show ((i + 1 : Nat) : Int) = (i : Int) + 1 by omega] at this
    rw [this]
    simp only [sum]
    rw [Int.add_assoc]
theorem twork_eq (s : ByteArray) (a1 a2 a3 a4 a5 : Int) {l : List Int} (a7 a8 : Int) (hl : l.length ≤ 8) (h : ∀ x ∈ l, 1 ≤ x ∧ x ≤ 10000) (k : Nat) (hk : 8 < k) : task_Work.f k s a1 a2 a3 a4 a5 l a7 a8 = some (sum l) := by
  unfold task_Work.f
  have := twork_loop hl h l.length k 0 0 (by omega) (by omega) (by omega) (by omega)
  rw [List.drop_zero, Int.zero_add] at this
  exact this
theorem twork_ev (s : ByteArray) (a1 a2 a3 a4 a5 : Int) {l : List Int} (a7 a8 : Int) (hl : l.length ≤ 8) (h : ∀ x ∈ l, 1 ≤ x ∧ x ≤ 10000) : Ev (fun k => task_Work.f k s a1 a2 a3 a4 a5 l a7 a8) (sum l) := ⟨9, fun k hk => twork_eq s a1 a2 a3 a4 a5 a7 a8 hl h k (by omega)⟩
end Go.Proofs.Ytllnlmcofaomlaa.BlockPure
namespace Go.Proofs.Ytllnlmcofaomlaa.FixMath
set_option linter.unusedVariables false
theorem good_init {l : List (Int × Int)} {x : Int × Int} (h : good (l ++ [x])) : good l ∧ (1 ≤ x.1 ∧ x.1 ≤ 1000000 ∧ 0 ≤ x.2 ∧ x.2 ≤ 1000000) := by
  obtain ⟨h1, h2⟩ := h
  refine ⟨⟨by rw [List.length_append] at h1; simp at h1; omega, fun y hy => h2 y (List.mem_append.mpr (Or.inl hy))⟩, h2 x (List.mem_append.mpr (Or.inr (List.mem_singleton.mpr rfl)))⟩
theorem Least.fix {S : Int → Int} {r : Int} (h : Least S r true) : 1 ≤ r ∧ r ≤ 1000000 ∧ S r = r ∧ ∀ w, 1 ≤ w → w < r → w < S w := by
  rcases h with ⟨_, h1, h2, h3, h4⟩ | ⟨e, _⟩
  · exact ⟨h1, h2, h3, h4⟩
  · cases e
theorem Least.mono {S S' : Int → Int} {r r' : Int} (h : Least S r true) (h' : Least S' r' true) (hS : ∀ w, 1 ≤ w → S' w ≤ S w) : r' ≤ r := by
  obtain ⟨h1, h2, h3, h4⟩ := h.fix
  obtain ⟨g1, g2, g3, g4⟩ := h'.fix
  by_cases e : r < r'
  · have := g4 r h1 e
    have := hS r h1
    omega
  · omega
end Go.Proofs.Ytllnlmcofaomlaa.FixMath
namespace Go.Proofs.Ytllnlmcofaomlaa.QAc
open Go.RowKit Go.Proofs.YtllnlmcofaomlaaW.PrintWords Go.Proofs.YtllnlmcofaomlaaW.PrintLast Go.Proofs.YtllnlmcofaomlaaW.PrintMore
attribute [local go_sem] max2_int min2_int max_two min_two max_three min_three max_four min_four   -- for this text's walks alone
set_option linter.unusedVariables false
set_option linter.unusedSimpArgs false
end Go.Proofs.Ytllnlmcofaomlaa.QAc
namespace Go.Proofs.Ytllnlmcofaomlaa.QAc
open Go.RowKit Go.Proofs.YtllnlmcofaomlaaW.PrintWords Go.Proofs.YtllnlmcofaomlaaW.PrintLast Go.Proofs.YtllnlmcofaomlaaW.PrintMore
attribute [local go_sem] max2_int min2_int max_two min_two max_three min_three max_four min_four   -- for this text's walks alone
set_option linter.unusedVariables false
set_option linter.unusedSimpArgs false
end Go.Proofs.Ytllnlmcofaomlaa.QAc
namespace Go.Proofs.Ytllnlmcofaomlaa.QAc
open Go.RowKit Go.Proofs.YtllnlmcofaomlaaW.PrintWords Go.Proofs.YtllnlmcofaomlaaW.PrintLast Go.Proofs.YtllnlmcofaomlaaW.PrintMore
attribute [local go_sem] max2_int min2_int max_two min_two max_three min_three max_four min_four   -- for this text's walks alone
set_option linter.unusedVariables false
set_option linter.unusedSimpArgs false
end Go.Proofs.Ytllnlmcofaomlaa.QAc
namespace Go.Proofs.Ytllnlmcofaomlaa.QAc
open Go.RowKit Go.Proofs.YtllnlmcofaomlaaW.PrintWords Go.Proofs.YtllnlmcofaomlaaW.PrintLast Go.Proofs.YtllnlmcofaomlaaW.PrintMore
attribute [local go_sem] max2_int min2_int max_two min_two max_three min_three max_four min_four   -- for this text's walks alone
set_option linter.unusedVariables false
set_option linter.unusedSimpArgs false
end Go.Proofs.Ytllnlmcofaomlaa.QAc
namespace Go.Proofs.Ytllnlmcofaomlaa.QAc
open Go.RowKit Go.Proofs.YtllnlmcofaomlaaW.PrintWords Go.Proofs.YtllnlmcofaomlaaW.PrintLast Go.Proofs.YtllnlmcofaomlaaW.PrintMore
attribute [local go_sem] max2_int min2_int max_two min_two max_three min_three max_four min_four   -- for this text's walks alone
set_option linter.unusedVariables false
set_option linter.unusedSimpArgs false
end Go.Proofs.Ytllnlmcofaomlaa.QAc
namespace Go.Proofs.Ytllnlmcofaomlaa.ActivePure
open Go.RowKit Go.Proofs.Ytllnlmcofaomlaa.QAc Go.Proofs.YtllnlmcofaomlaaW.PrintWords Go.Proofs.YtllnlmcofaomlaaW.PrintLast Go.Proofs.YtllnlmcofaomlaaW.PrintMore Go.Proofs.Ytllnlmcofaomlaa.RefSet Go.Proofs.Ytllnlmcofaomlaa.BitsPure Go.Proofs.Ytllnlmcofaomlaa.BitsMath Go.Proofs.Ytllnlmcofaomlaa.AgainPure Go.Proofs.Ytllnlmcofaomlaa.FixMath
open Go.Proofs.Ytllnlmcofaomlaa.FixPure (prs leastV sumV prs_length rleast_eq may_eq rsum_eq)
set_option linter.unusedVariables false
theorem wi {i : Nat} (h : i ≤ 1000000) : wrap64 ((i : Int) + 1) = ((i + 1 : Nat) : Int) := w64 (by omega) (by omega)
def workV (l : List S38) (j : Int) : Int := sum (rd_T38 l j).f6
theorem workV_in {r : Int} {l : List S38} (hok : SetOK r l) {j : Int} (h0 : 0 ≤ j) (h1 : j < (l.length : Int)) : 1 ≤ workV l j ∧ workV l j ≤ 80000 := by
  have hx := hok.2.2.2.2 j h0 h1
  have := sum_bound hx.2.2.2.1
  have h1 := hx.1
  have h8 := hx.2.1
  unfold workV; omega
theorem time_in {r : Int} {l : List S38} (hok : SetOK r l) {j : Int} (h0 : 0 ≤ j) (h1 : j < (l.length : Int)) : 1 ≤ (rd_T38 l j).f1 ∧ (rd_T38 l j).f1 ≤ 10000 ∧ workV l j ≤ (rd_T38 l j).f2 ∧ (rd_T38 l j).f2 ≤ (rd_T38 l j).f1 := by
  have hx := hok.2.2.2.2 j h0 h1
  have hw := workV_in hok h0 h1
  have h5 : workV l j ≤ (rd_T38 l j).f2 := hx.2.2.2.2.1
  have h6 := hx.2.2.2.2.2.1
  have h7 := hx.2.2.2.2.2.2.1
  omega
def loadV (r : Int) (l : List S38) (j : Nat) : S41 := ⟨(rd_T38 l (j : Int)).f1, workV l (j : Int) + madeV r l (j : Int)⟩
def loadsF (r : Int) (l : List S38) : Nat → Nat → List S41
  | 0, _ => []
  | d + 1, j => loadV r l j :: loadsF r l d (j + 1)
theorem loadsF_length (r : Int) (l : List S38) : ∀ d j, (loadsF r l d j).length = d
  | 0, _ => rfl
  | d + 1, j => by unfold loadsF; rw [List.length_cons, loadsF_length r l d]
theorem twork_at {r : Int} {l : List S38} (hok : SetOK r l) {j : Int} (h0 : 0 ≤ j) (h1 : j < (l.length : Int)) : Ev (fun k => task_Work.f k (rd_T38 l j).f0 (rd_T38 l j).f1 (rd_T38 l j).f2 (rd_T38 l j).f3 (rd_T38 l j).f4 (rd_T38 l j).f5 (rd_T38 l j).f6 (rd_T38 l j).f7 (rd_T38 l j).f8) (workV l j) := by
  have hx := hok.2.2.2.2 j h0 h1
  exact BlockPure.twork_ev _ _ _ _ _ _ _ _ hx.2.1 hx.2.2.2.1
theorem cost_ev {r : Int} {l : List S38} (hok : SetOK r l) (hS : SetsOK l) {j : Int} (h0 : 0 ≤ j) (h1 : j < (l.length : Int)) : Ev (fun k => again_Cost.f k r l j) ((CostBase.fo (workV l j), CostBase.fo (madeV r l j)), true) := by
  have hw := workV_in hok h0 h1
  have hm := madeV_in hok.1 hok.2.1 l j
  unfold again_Cost.f
  refine evb (is_at r l j) ?_
  refine evp (decide_eq_true ⟨h0, h1⟩) ?_
  refine evp h0 (evp h1 (Ev.bind (twork_at hok h0 h1) (Ev.bind (made_ev hS (by have := hok.2.2.2.1; omega) j) ?_)))
  have e : CostBase.ofV (workV l j) (madeV r l j) = ((CostBase.fo (workV l j), CostBase.fo (madeV r l j)), true) := by
    unfold CostBase.ofV; rw [if_pos ⟨CostBase.isT_iff.mpr ⟨by omega, by omega⟩, CostBase.isT_iff.mpr ⟨by omega, by omega⟩⟩]
  have h := CostBase.of_eq (workV l j) (madeV r l j)
  rw [e] at h
  exact evb h (Ev.now _)
theorem total_at {r : Int} {l : List S38} (hok : SetOK r l) {j : Int} (h0 : 0 ≤ j) (h1 : j < (l.length : Int)) : cost_Total.f (CostBase.fo (workV l j), CostBase.fo (madeV r l j)) = some (workV l j + madeV r l j, true) := by
  have hw := workV_in hok h0 h1
  have hm := madeV_in hok.1 hok.2.1 l j
  have hp := CostBase.partsV_T (a := workV l j) (b := madeV r l j) (CostBase.isT_iff.mpr ⟨by omega, by omega⟩) (CostBase.isT_iff.mpr ⟨by omega, by omega⟩)
  rw [CostBase.total_eq]
  unfold CostBase.totalV
  rw [hp]
  show some (if true = true ∧ workV l j + madeV r l j ≤ 1099511627776 then (workV l j + madeV r l j, true) else (0, false)) = _
  rw [if_pos ⟨rfl, by omega⟩]
theorem rd_take {l : List S38} {n j : Nat} (h : j < n) : rd_T38 (l.take n) (j : Int) = rd_T38 l (j : Int) := by
  unfold rd_T38
  rw [Int.toNat_natCast, List.getD_eq_getElem?_getD, List.getD_eq_getElem?_getD, List.getElem?_take]
  rw [if_pos h]
theorem loads_loop {r : Int} {l : List S38} (hok : SetOK r l) (hS : SetsOK l) {n : Nat} (hn : n < l.length) (d : Nat) : ∀ (j : Nat) (acc : List S41), j + d = n → acc.length ≤ j → Ev (fun k => active_Loads.l0 k acc (l.take n) (n : Int) (j : Int) r l) (acc ++ loadsF r l d j) := by
  have l8 := hok.2.2.2.1
  have hlen : (l.take n).length = n := by rw [List.length_take]; omega
  induction d with
  | zero =>
    intro j acc hj ha
    have e : acc ++ loadsF r l 0 j = acc := List.append_nil _
    rw [e]
    exact Ev.step (fun k => by rw [active_Loads.l0]) (evn (by omega) (Ev.now _))
  | succ d ih =>
    intro j acc hj ha
    refine Ev.step (fun k => by rw [active_Loads.l0]) ?_
    refine evp (by omega) ?_
    refine evp (by omega) ?_
    refine evp (by rw [hlen]; omega) ?_
    refine Ev.bind (cost_ev hok hS (j := (j : Int)) (by omega) (by omega)) ?_
    refine evb (total_at hok (j := (j : Int)) (by omega) (by omega)) ?_
    refine evp (by omega) ?_
    rw [rd_take (by omega), wi (by omega)]
    have x := ih (j + 1) (acc ++ [loadV r l j]) (by omega) (by simp; omega)
    rw [List.append_assoc] at x
    exact x
theorem loads_ev {r : Int} {l : List S38} (hok : SetOK r l) (hS : SetsOK l) {i : Int} (h0 : 0 ≤ i) (h1 : i < (l.length : Int)) : Ev (fun k => active_Loads.f k r l i) (loadsF r l i.toNat 0) := by
  obtain ⟨n, rfl⟩ := Int.eq_ofNat_of_zero_le h0
  have l8 := hok.2.2.2.1
  have hlen : (l.take n).length = n := by rw [List.length_take]; omega
  unfold active_Loads.f
  refine evn (by omega) ?_
  rw [decide_eq_false (by omega)]
  refine Ev.step (fun k => by rw [active_Loads.j0, if_neg (by simp)]) ?_
  refine evp h0 ?_
  refine evp (by omega) ?_
  rw [Int.toNat_natCast]
  refine evb (a := l.take n) rfl ?_
  rw [hlen]
  have x := loads_loop hok hS (n := n) (by omega) n 0 [] (by omega) (by simp)
  rw [List.nil_append] at x
  exact x
def allL (r : Int) (l : List S38) (i : Int) : List S41 := loadsF r l i.toNat 0 ++ [(⟨(rd_T38 l i).f1, workV l i⟩ : S41)]
def activeV (r : Int) (l : List S38) (i b : Int) : Int × Bool := if 0 ≤ i ∧ i < (l.length : Int) then leastV b (allL r l i) else (0, false)
theorem of_ev {r : Int} {l : List S38} (hok : SetOK r l) (hS : SetsOK l) (i b : Int) : Ev (fun k => active_Of.f k r l i b) (activeV r l i b) := by
  have no : Ev (fun k => active_Of.j0 k i b true r l) (0, false) := Ev.step (fun k => by rw [active_Of.j0, if_pos rfl]) (Ev.now _)
  have l8 := hok.2.2.2.1
  unfold active_Of.f
  by_cases h : 0 ≤ i ∧ i < (l.length : Int)
  · have e : activeV r l i b = leastV b (allL r l i) := if_pos h
    rw [e]
    refine evn (by omega) ?_
    rw [decide_eq_false (by omega)]
    refine Ev.step (fun k => by rw [active_Of.j0, if_neg (by simp)]) ?_
    refine Ev.bind (loads_ev hok hS h.1 h.2) ?_
    refine evp h.1 (evp h.2 (Ev.bind (twork_at hok h.1 h.2) ?_))
    refine evp (by rw [loadsF_length]; omega) ?_
    refine evb (a := leastV b (allL r l i)) rfl ?_
    exact Ev.now _
  · have e : activeV r l i b = (0, false) := if_neg h
    rw [e]
    by_cases c : i < 0
    · exact evp c no
    · rw [decide_eq_true (show i ≥ (l.length : Int) by omega)]; exact evn c no
theorem good_loads {r : Int} {l : List S38} (hok : SetOK r l) : ∀ (d j : Nat), j + d ≤ l.length → ∀ x ∈ prs (loadsF r l d j), 1 ≤ x.1 ∧ x.1 ≤ 1000000 ∧ 0 ≤ x.2 ∧ x.2 ≤ 1000000
  | 0, j, _, x, hx => by cases hx
  | d + 1, j, h, x, hx => by
    have e : prs (loadsF r l (d + 1) j) = ((rd_T38 l (j : Int)).f1, workV l (j : Int) + madeV r l (j : Int)) :: prs (loadsF r l d (j + 1)) := rfl
    rw [e] at hx
    have hw := workV_in hok (j := (j : Int)) (by omega) (by omega)
    have hm := madeV_in hok.1 hok.2.1 l (j : Int)
    have ht := time_in hok (j := (j : Int)) (by omega) (by omega)
    rcases List.mem_cons.mp hx with rfl | hx
    · exact ⟨ht.1, by simp only; omega, by simp only; omega, by simp only; omega⟩
    · exact good_loads hok d (j + 1) (by omega) x hx
theorem prs_append (a b : List S41) : prs (a ++ b) = prs a ++ prs b := by unfold prs; rw [List.map_append]
theorem prs_all (r : Int) (l : List S38) (i : Int) : prs (allL r l i) = prs (loadsF r l i.toNat 0) ++ [((rd_T38 l i).f1, workV l i)] := by unfold allL; rw [prs_append]; rfl
theorem good_all {r : Int} {l : List S38} (hok : SetOK r l) {i : Int} (h0 : 0 ≤ i) (h1 : i < (l.length : Int)) : good (prs (allL r l i)) := by
  have l8 := hok.2.2.2.1
  have hw := workV_in hok h0 h1
  have ht := time_in hok h0 h1
  refine ⟨?_, fun x hx => ?_⟩
  · rw [prs_length]; unfold allL; rw [List.length_append, loadsF_length]; simp; omega
  · rw [prs_all] at hx
    rcases List.mem_append.mp hx with hx | hx
    · exact good_loads hok i.toNat 0 (by omega) x hx
    · rw [List.mem_singleton] at hx; subst hx
      exact ⟨ht.1, by simp only; omega, by simp only; omega, by simp only; omega⟩
theorem good_init' {r : Int} {l : List S38} (hok : SetOK r l) {i : Int} (h0 : 0 ≤ i) (h1 : i < (l.length : Int)) : good (prs (loadsF r l i.toNat 0)) := by
  have h := good_all hok h0 h1
  rw [prs_all] at h
  exact (good_init h).1
theorem one_all {r : Int} {l : List S38} (hok : SetOK r l) {i b : Int} (h0 : 0 ≤ i) (h1 : i < (l.length : Int)) (hb : 0 ≤ b) : 1 ≤ tot b (prs (allL r l i)) 1 := by
  have hw := workV_in hok h0 h1
  have ht := time_in hok h0 h1
  rw [prs_all, tot_snoc]
  have h2 := tot_ge (good_two (good_init' hok h0 h1)) b (w := 1) (by omega)
  have h3 := up_pos ht.1 (show (1 : Int) ≤ 1 by omega)
  have h4 : 1 * 1 ≤ workV l i * ups 1 (rd_T38 l i).f1 := Int.mul_le_mul hw.1 h3 (by omega) (by omega)
  simp only
  omega
theorem active_tells {r : Int} {l : List S38} (hok : SetOK r l) (i b : Int) : ((activeV r l i b).2 = true ∧ (0 ≤ i ∧ i < (l.length : Int)) ∧ (0 ≤ b ∧ b ≤ 1000000) ∧ Least (tot b (prs (allL r l i))) (activeV r l i b).1 true) ∨ ((activeV r l i b).2 = false ∧ (activeV r l i b).1 = 0) := by
  by_cases h : 0 ≤ i ∧ i < (l.length : Int)
  · have e : activeV r l i b = leastV b (allL r l i) := if_pos h
    have hg := good_all hok h.1 h.2
    rw [e]
    unfold leastV
    by_cases hb : 0 ≤ b ∧ b ≤ 1000000
    · rw [if_pos ⟨hb.1, hb.2, hg⟩]
      have g := leastR_least (a := b) hg
      cases q : (leastR b (prs (allL r l i))).2 with
      | true => rw [q] at g; exact Or.inl ⟨rfl, h, hb, g⟩
      | false =>
        rw [q] at g
        rcases g with ⟨x, _⟩ | ⟨_, x, _⟩
        · cases x
        · exact Or.inr ⟨rfl, x⟩
    · rw [if_neg (fun x => hb ⟨x.1, x.2.1⟩)]; exact Or.inr ⟨rfl, rfl⟩
  · have e : activeV r l i b = (0, false) := if_neg h
    rw [e]; exact Or.inr ⟨rfl, rfl⟩
theorem active_le {r : Int} {l : List S38} (hok : SetOK r l) {i i' b b' : Int} (hi : 0 ≤ i' ∧ i' < (l.length : Int)) (hb : 0 ≤ b') (hb' : b' ≤ 1000000) (hS : ∀ w, 1 ≤ w → tot b' (prs (allL r l i')) w ≤ tot b (prs (allL r l i)) w) (h : (activeV r l i b).2 = true) : (activeV r l i' b').2 = true ∧ (activeV r l i' b').1 ≤ (activeV r l i b).1 := by
  rcases active_tells hok i b with ⟨_, h1, h2, hL⟩ | ⟨x, _⟩
  · obtain ⟨n1, n2, n3, _⟩ := hL.fix
    have hg := good_all hok hi.1 hi.2
    have e : activeV r l i' b' = leastR b' (prs (allL r l i')) := by
      unfold activeV leastV
      rw [if_pos hi, if_pos ⟨hb, hb', hg⟩]
    rw [e]
    have h3 := hS _ n1
    exact (leastR_least (a := b') hg).le n1 n2 (by omega) (one_all hok hi.1 hi.2 hb)
  · rw [x] at h; cases h
end Go.Proofs.Ytllnlmcofaomlaa.ActivePure
namespace Go.Proofs.Ytllnlmcofaomlaa.Pure
open Go.RowKit Go.Proofs.Ytllnlmcofaomlaa.QAc Go.Proofs.YtllnlmcofaomlaaW.PrintWords Go.Proofs.YtllnlmcofaomlaaW.PrintLast Go.Proofs.YtllnlmcofaomlaaW.PrintMore Go.Proofs.Ytllnlmcofaomlaa.RefSet Go.Proofs.Ytllnlmcofaomlaa.AgainPure Go.Proofs.Ytllnlmcofaomlaa.FixMath Go.Proofs.Ytllnlmcofaomlaa.ActivePure
open Go.Proofs.Ytllnlmcofaomlaa.FixPure (prs leastV sumV prs_length)
set_option linter.unusedVariables false
theorem known11 : Ev (fun k => taskmasterlaw11_known.f k) true := Ev.of (fun k => taskmasterlaw11_known.mono k) (k := 40) (by decide +kernel)
end Go.Proofs.Ytllnlmcofaomlaa.Pure
namespace Go.Proofs.Ytllnlmcofaomlaa.Pure
open Go.RowKit Go.Proofs.Ytllnlmcofaomlaa.QAc Go.Proofs.YtllnlmcofaomlaaW.PrintWords Go.Proofs.YtllnlmcofaomlaaW.PrintLast Go.Proofs.YtllnlmcofaomlaaW.PrintMore Go.Proofs.Ytllnlmcofaomlaa.RefSet Go.Proofs.Ytllnlmcofaomlaa.AgainPure Go.Proofs.Ytllnlmcofaomlaa.FixMath Go.Proofs.Ytllnlmcofaomlaa.ActivePure
open Go.Proofs.Ytllnlmcofaomlaa.FixPure (prs leastV sumV prs_length)
set_option linter.unusedVariables false
theorem ActiveLess (a0 : S24) (a1 : Int) (a2 : Int) (a3 : Int) (w0 : wf24 a0) (w1 : (Lit.int .i64 a1).wf = true) (w2 : (Lit.int .i64 a2).wf = true) (w3 : (Lit.int .i64 a3).wf = true) : ∃ k : Nat, taskmasterlaw11_ActiveLess.f k a0.f0 a0.f1 a1 a2 a3 = some true := by
  refine Ev.rounds ?_
  have hS := sets_of w0.2
  obtain ⟨b, hb, hok⟩ := all_ends a0.f0 a0.f1 (sizes_of w0.2)
  generalize a0.f0 = r at *
  generalize a0.f1 = l at *
  have no : Ev (fun k => taskmasterlaw11_ActiveLess.j0 k a1 a2 a3 true r l) true := Ev.step (fun k => by rw [taskmasterlaw11_ActiveLess.j0, if_pos rfl]) (Ev.now true)
  unfold taskmasterlaw11_ActiveLess.f
  by_cases c0 : (l.length : Int) > 10
  · exact evp c0 no
  refine evn c0 (Ev.bind hb ?_)
  by_cases c1 : b = true
  · have ok := hok c1
    refine evp c1 ?_
    by_cases c2 : a3 < 0
    · exact evp c2 no
    refine evn c2 ?_
    by_cases c3 : a3 > a2
    · rw [decide_eq_true c3]; exact no
    rw [decide_eq_false c3]
    have g := i64_in' w2
    refine Ev.step (fun k => by rw [taskmasterlaw11_ActiveLess.j0, if_neg (by simp)]) ?_
    rw [w64 (n := a2 - a3) (by omega) (by omega)]
    refine Ev.bind (of_ev ok hS a1 a2) (Ev.bind (of_ev ok hS a1 (a2 - a3)) ?_)
    by_cases q : (activeV r l a1 a2).2 = true
    · refine evp q ?_
      rcases active_tells ok a1 a2 with ⟨_, hi, hb2, _⟩ | ⟨x, _⟩
      · obtain ⟨x1, x2⟩ := active_le ok (i := a1) (b := a2) (b' := a2 - a3) hi (by omega) (by omega) (fun w _ => tot_mono_base _ _ _ w (by omega)) q
        exact evp x1 (evp x2 (Ev.bind known11 (Ev.now true)))
      · rw [x] at q; cases q
    · exact evn q (Ev.bind known11 (Ev.now true))
  · exact evn c1 no
end Go.Proofs.Ytllnlmcofaomlaa.Pure
namespace Go.Proofs.Ytllnlmcofaomlaa.activeLess
open Go.ChangeShapes Go.WideShapes Go.ChangeAt Go.RowKit
open Go.ChangeMaps (open_string shut_string)
open Go.Proofs.YtllnlmcofaomlaaW.PrintWords Go.Proofs.YtllnlmcofaomlaaW.PrintLast Go.Proofs.Ytllnlmcofaomlaa.QAc Go.Proofs.Ytllnlmcofaomlaa.Open
set_option linter.unusedVariables false
theorem own : ownKnob Try.prog.godebug = none := by kernel_rfl
theorem laidOut : laidOutB Try.prog = true := by kernel_rfl
set_option maxRecDepth 100000 in
theorem lifted (os : Os) (started : os.Started) (H : Type) (enc : TypeId × Value → H) :
    ReturnsInHanded {} Try.checked os 4 .any (Rows.activeLessSpec.pre6 enc Try.prog Try.f4 Rows.activeLessRow.domain false) (Rows.activeLessSpec.post enc Try.prog Try.f4 false true false false) := by
  refine returnsInHanded_of_change_sized (C := Try.checked) own started (by kernel_rfl) Try.func4
    (ChangeSpec.witness6 (enc := enc) (C := Try.checked) false ⟨#[], #[.agg #[.int .i64 0, .slice none 0 0], .int .i64 0, .int .i64 0, .int .i64 0], []⟩ 8 (by kernel_rfl) (by kernel_rfl) (by kernel_rfl) (by kernel_rfl)) ?_
  intro W base args ds gs before hval0 hW hcnd hsz0 _
  have hsz : (DataW.weightsEach Try.prog (Try.f4.params.toList ++ Rows.activeLessSpec.plain.varTypes Try.prog) (ds ++ gs)).all (· ≤ reachBytes) = true := hsz0
  have hval : ∀ (j : Nat) t v, Try.f4.params[j]? = some t → args[j]? = some v → Value.okWide Try.prog W .any base t v := hval0
  have hW' := hW
  obtain ⟨p, q, hA0, hV, rfl, hfz, hnd⟩ := hW
  have hA : DataW.TrodAll enc Try.prog W 0 (fun _ => true) true Try.f4.params.toList args.toList ds p := hA0
  rw [Try.params4] at hA hval hsz
  obtain ⟨v0, vs0, d0, ds0, p0, q0, hargs, rfl, rfl, h0, r0⟩ := trodAll_cons hA
  obtain ⟨v1, vs1, d1, ds1, p1, q1, rfl, rfl, rfl, h1, r1⟩ := trodAll_cons r0
  obtain ⟨v2, vs2, d2, ds2, p2, q2, rfl, rfl, rfl, h2, r2⟩ := trodAll_cons r1
  obtain ⟨v3, vs3, d3, ds3, p3, q3, rfl, rfl, rfl, h3, r3⟩ := trodAll_cons r2
  obtain ⟨rfl, rfl, rfl⟩ := trodAll_nil r3
  obtain rfl : args = #[v0, v1, v2, v3] := by cases args; simp_all
  obtain ⟨rfl, rfl⟩ := trodVars_none hV
  have k0 := h0
  have lt0 : ∀ x ∈ p0, x.block < W.heap.size := by obtain ⟨m, hm⟩ := k0; exact DataW.trod_lt m _ _ _ hm
  obtain ⟨a0, cs0, rfl, hk0, hw0⟩ := arg_struct Try.underlying24 (hval 0 24 v0 rfl rfl) opens24 h0
  obtain ⟨A0_1, c0_1, rfl, hc0_1, hr0_1⟩ := k24_open hk0
  obtain ⟨a1, rfl, rfl, rfl, w1⟩ := open_int Try.underlying3 (hval 1 3 v1 rfl rfl) h1
  obtain ⟨a2, rfl, rfl, rfl, w2⟩ := open_int Try.underlying2 (hval 2 2 v2 rfl rfl) h2
  obtain ⟨a3, rfl, rfl, rfl, w3⟩ := open_int Try.underlying2 (hval 3 2 v3 rfl rfl) h3
  clear hA0 hval0 hsz0 hsz
  obtain ⟨k, hk⟩ := Pure.ActiveLess a0 a1 a2 a3 hw0 w1 w2 w3
  refine (taskmasterlaw11_ActiveLess.calls (w := W) (h := hk) (hc0_1 := hc0_1) (hr0_1 := hr0_1)).mono fun e W' ⟨he, bel0⟩ => ?_
  have bel : Below W.heap.size W W' := bel0
  subst he
  exact ⟨_, rfl, _, _, _, [], _, [], hW', trodAll_mk1 (shut_bool Try.underlying4 _), (trodAll_cons_mk (Below.trod laidOut (by kernel_rfl) (of_decide_eq_true (by kernel_rfl)) k0 bel lt0) (trodAll_cons_mk (shut_int Try.underlying3 w1) (trodAll_cons_mk (shut_int Try.underlying2 w2) (trodAll_cons_mk (shut_int Try.underlying2 w3) trodAll_mk0)))), rfl, bel.frame _, fun h => by cases h⟩
theorem over : Rows.activeLessRow.holds Try.pinned (OpenSpec.ofChange Rows.activeLessSpec) :=
  OpenClaim.holds_of_wide 4 Try.f4 rfl rfl rfl rfl rfl rfl rfl ⟨rfl, rfl, rfl, rfl, rfl⟩ rfl rfl rfl rfl rfl (by kernel_rfl) Try.func4 (by kernel_rfl)
    (of_decide_eq_true (by kernel_rfl)) (by unfold Func.isWrapper; first | (rw [if_pos (by decide +kernel)]; kernel_rfl) | (rw [if_neg (by decide +kernel)]; exact ⟨rfl, rfl⟩))
    (fun os started H enc _ => lifted os started H enc)
theorem proved : Rows.ActiveLessSaid := over
end Go.Proofs.Ytllnlmcofaomlaa.activeLess
namespace Go.Proofs.Ytllnlmcofaomlaa
theorem activeLess_holds : Rows.ActiveLessSaid := activeLess.proved
end Go.Proofs.Ytllnlmcofaomlaa

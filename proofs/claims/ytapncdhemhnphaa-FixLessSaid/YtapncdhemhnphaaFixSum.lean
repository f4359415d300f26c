/- What is proved: plain facts on the printed functions of chapter 10: fix.sum and the reference's sum are 'tot' at loads that may be, may and is tell whether they may; conditions as each theorem names them. -/
import Derived.Test.YtapncdhemhnphaaFixMath
import Derived.Test.YtapncdhemhnphaaHandFix
import Derived.Test.YtapncdhemhnphaaQFixxf14
import Derived.Test.YtapncdhemhnphaaQFixxf15
import Derived.Test.YtapncdhemhnphaaQFixxf16
import Derived.Test.YtapncdhemhnphaaQFixxf20
import Derived.Test.YtapncdhemhnphaaQFixxf9
import Derived.Test.YtapncdhemhnphaaQFixxf22
import Derived.Test.YtapncdhemhnphaaQFixxf23
namespace Go.Proofs.Ytapncdhemhnphaa.FixPure
open Go.RowKit Go.Proofs.Ytapncdhemhnphaa.QFix Go.Proofs.YtapncdhemhnphaaW.PrintWords Go.Proofs.YtapncdhemhnphaaW.PrintLast Go.Proofs.Ytapncdhemhnphaa.FixMath
set_option linter.unusedVariables false

theorem is_eq (a : Int) : num_Is.f a = some (decide (0 ≤ a ∧ a ≤ 1099511627776)) := by
  unfold num_Is.f
  by_cases h : 0 ≤ a
  · rw [if_pos (show a ≥ 0 from h)]; simp [h]
  · rw [if_neg (show ¬ a ≥ 0 from h)]; simp [h]
theorem is_yes {a : Int} (h : 0 ≤ a ∧ a ≤ 1099511627776) : num_Is.f a = some true := by rw [is_eq, decide_eq_true h]
theorem w64 {n : Int} (h0 : -9223372036854775808 ≤ n) (h1 : n ≤ 9223372036854775807) : wrap64 n = n := by unfold wrap64; omega
theorem ediv_in {a b : Int} (h0 : 0 ≤ a) : 0 ≤ a / b ∨ b < 0 := by
  by_cases h : b < 0
  · exact .inr h
  · exact .inl (Int.ediv_nonneg h0 (by omega))
theorem floor_yes {a b : Int} (h0 : 0 ≤ a) (h1 : a ≤ 1099511627776) (h2 : 1 ≤ b) (h3 : b ≤ 1099511627776) : num_Floor.f a b = some (a / b, true) := by
  have hd : 0 ≤ a / b ∧ a / b ≤ a := ⟨Int.ediv_nonneg h0 (by omega), Int.ediv_le_self b h0⟩
  unfold num_Floor.f
  rw [is_yes ⟨h0, h1⟩, Option.bind_some, if_pos rfl, is_yes ⟨by omega, h3⟩, Option.bind_some, if_pos rfl, if_neg (by omega), Int.tdiv_eq_ediv_of_nonneg h0, w64 (by omega) (by omega)]
theorem ceil_yes {a b : Int} (h0 : 0 ≤ a) (h1 : a ≤ 1099511627776) (h2 : 1 ≤ b) (h3 : b ≤ 1099511627776) : num_Ceil.f a b = some (ups a b, true) := by
  have hd : 0 ≤ a / b ∧ a / b ≤ a := ⟨Int.ediv_nonneg h0 (by omega), Int.ediv_le_self b h0⟩
  have hm : a / b * b = a - a % b := by have := Int.emod_add_mul_ediv a b; rw [Int.mul_comm] at this; omega
  have hn := Int.emod_nonneg a (show b ≠ 0 by omega)
  have hl := Int.emod_lt_of_pos a (show 0 < b by omega)
  have hr : a % b ≤ a := by
    have := Int.mul_nonneg hd.1 (show 0 ≤ b by omega)
    omega
  rw [up_ceil h2 h0]
  unfold num_Ceil.f
  rw [floor_yes h0 h1 h2 h3, Option.bind_some, if_pos rfl]
  simp only
  rw [w64 (by omega) (by omega)]
  by_cases e : a % b = 0
  · rw [if_neg (by omega), if_pos e]
  · rw [if_pos (by omega), if_neg e, w64 (by omega) (by omega)]

/-- Loads as pairs. -/
def prs (l : List S31) : List (Int × Int) := l.map fun x => (x.f0, x.f1)
theorem prs_length (l : List S31) : (prs l).length = l.length := by unfold prs; simp
theorem oddL_no {x : S31} : oddL x = false ↔ (1 ≤ x.f0 ∧ x.f0 ≤ 1000000) ∧ (0 ≤ x.f1 ∧ x.f1 ≤ 1000000) := by
  unfold oddL; simp
theorem good_iff {l : List S31} : ((l.length : Int) ≤ 64 ∧ l.any oddL = false) ↔ good (prs l) := by
  unfold good
  rw [prs_length]
  constructor
  · rintro ⟨h1, h2⟩
    refine ⟨by omega, fun x hx => ?_⟩
    obtain ⟨y, hy, rfl⟩ := List.mem_map.1 hx
    rw [List.any_eq_false] at h2
    have := oddL_no.1 (Bool.eq_false_iff.2 (h2 y hy))
    exact ⟨this.1.1, this.1.2, this.2.1, this.2.2⟩
  · rintro ⟨h1, h2⟩
    refine ⟨by omega, ?_⟩
    rw [List.any_eq_false]
    intro y hy
    have := h2 _ (List.mem_map.2 ⟨y, hy, rfl⟩)
    rw [oddL_no.2 ⟨⟨this.1, this.2.1⟩, this.2.2.1, this.2.2.2⟩]; simp
theorem is_fix (a : Int) (l : List S31) : fix_is.f a l = some (decide (0 ≤ a ∧ a ≤ 1000000 ∧ good (prs l))) := by
  unfold fix_is.f
  by_cases h : 0 ≤ a ∧ a ≤ 1000000 ∧ good (prs l)
  · have g := good_iff.2 h.2.2
    rw [decide_eq_true h, decide_eq_true (⟨h.1, h.2.1⟩ : 0 ≤ a ∧ a ≤ 1000000), decide_eq_true g.1, g.2]; rfl
  · rw [decide_eq_false h]
    by_cases h1 : 0 ≤ a ∧ a ≤ 1000000
    · have g : ¬ ((l.length : Int) ≤ 64 ∧ l.any oddL = false) := fun g => h ⟨h1.1, h1.2, good_iff.1 g⟩
      rw [decide_eq_true h1]
      by_cases h2 : (l.length : Int) ≤ 64
      · have : l.any oddL = true := by
          cases hb : l.any oddL
          · exact absurd ⟨h2, hb⟩ g
          · rfl
        rw [this]; simp
      · rw [decide_eq_false h2]; rfl
    · rw [decide_eq_false h1]; rfl
theorem drop_step {l : List S31} {i : Nat} (h : i < l.length) : prs (l.drop i) = ((rd_T31 l i).f0, (rd_T31 l i).f1) :: prs (l.drop (i + 1)) := by
  rw [List.drop_eq_getElem_cons h]
  unfold prs rd_T31
  rw [List.map_cons, Int.toNat_natCast, List.getD_eq_getElem?_getD, List.getElem?_eq_getElem h]; rfl
theorem rd_mem {l : List S31} {i : Nat} (h : i < l.length) : ((rd_T31 l i).f0, (rd_T31 l i).f1) ∈ prs l := by
  unfold prs rd_T31
  rw [Int.toNat_natCast, List.getD_eq_getElem?_getD, List.getElem?_eq_getElem h]
  exact List.mem_map.2 ⟨_, List.getElem_mem h, rfl⟩
theorem prs_drop_mem {l : List S31} {i : Nat} : ∀ x ∈ prs (l.drop i), x ∈ prs l := by
  intro x hx
  obtain ⟨y, hy, rfl⟩ := List.mem_map.1 hx
  exact List.mem_map.2 ⟨y, List.mem_of_mem_drop hy, rfl⟩

/-- The code's loop. -/
theorem sum_loop {l : List S31} {w : Int} (hg : good (prs l)) (h0 : 0 ≤ w) (h1 : w ≤ 1000000) (d : Nat) : ∀ (k i : Nat) (acc : Int), i + d = l.length → d < k → 0 ≤ acc → acc ≤ 1000000 + 1000000000000 * i →
    fix_sum.l0 k acc w l (l.length : Int) (i : Int) = some (tot acc (prs (l.drop i)) w) := by
  induction d with
  | zero =>
    intro k i acc hi hk a0 a1
    obtain ⟨k, rfl⟩ : ∃ m, k = m + 1 := ⟨k - 1, by omega⟩
    simp only [fix_sum.l0]
    rw [if_neg (by omega), List.drop_eq_nil_of_le (by omega)]; rfl
  | succ d ih =>
    intro k i acc hi hk a0 a1
    obtain ⟨k, rfl⟩ : ∃ m, k = m + 1 := ⟨k - 1, by omega⟩
    have hlt : i < l.length := by omega
    have hx := hg.2 _ (rd_mem hlt)
    have h64 := hg.1
    rw [prs_length] at h64
    rw [drop_step hlt]
    have e0 : fix_sum.l0 (k + 1) acc w l (l.length : Int) (i : Int) = (num_Ceil.f w (rd_T31 l i).f0).bind fun bt108 => fix_sum.l0 k (wrap64 (acc + wrap64 ((rd_T31 l i).f1 * bt108.1))) w l (l.length : Int) (wrap64 ((i : Int) + 1)) := by
      simp only [fix_sum.l0]; rw [if_pos (by omega), if_pos (by omega), if_pos (by omega)]
    rw [e0]
    clear e0
    generalize rd_T31 l (i : Int) = x at hx ⊢
    simp only at hx
    have hu := up_le hx.1 h0
    have hu0 := up_nonneg hx.1 h0
    have hp : x.f1 * ups w x.f0 ≤ 1000000 * 1000000 := Int.mul_le_mul hx.2.2.2 (by omega) hu0 (by omega)
    have hp0 : 0 ≤ x.f1 * ups w x.f0 := Int.mul_nonneg hx.2.2.1 hu0
    rw [ceil_yes (a := w) (b := x.f0) h0 (by omega) hx.1 (by omega), Option.bind_some]
    simp only
    rw [w64 (n := x.f1 * ups w x.f0) (by omega) (by omega), w64 (n := acc + x.f1 * ups w x.f0) (by omega) (by omega), w64 (n := (i : Int) + 1) (by omega) (by omega)]
    exact ih k (i + 1) _ (by omega) (by omega) (by omega) (by omega)
theorem sum_eq {l : List S31} {a w : Int} (hg : good (prs l)) (ha : 0 ≤ a) (ha' : a ≤ 1000000) (h0 : 0 ≤ w) (h1 : w ≤ 1000000) (k : Nat) (hk : l.length < k) : fix_sum.f k a l w = some (tot a (prs l) w) := by
  unfold fix_sum.f
  exact sum_loop hg h0 h1 l.length k 0 a (by omega) hk ha (by omega)
/-- The reference's loop. -/
theorem rsum_loop {l : List S31} {w : Int} (hg : good (prs l)) (h0 : 0 ≤ w) (h1 : w ≤ 1000000) (d : Nat) : ∀ (k i : Nat) (acc : Int), i + d = l.length → d < k → 0 ≤ acc → acc ≤ 1000000 + 1000000000000 * i →
    taskmasterref10_sum.l0 k l w acc (i : Int) = some (tot acc (prs (l.drop i)) w) := by
  induction d with
  | zero =>
    intro k i acc hi hk a0 a1
    obtain ⟨k, rfl⟩ : ∃ m, k = m + 1 := ⟨k - 1, by omega⟩
    simp only [taskmasterref10_sum.l0]
    rw [if_neg (by omega), List.drop_eq_nil_of_le (by omega)]; rfl
  | succ d ih =>
    intro k i acc hi hk a0 a1
    obtain ⟨k, rfl⟩ : ∃ m, k = m + 1 := ⟨k - 1, by omega⟩
    have hlt : i < l.length := by omega
    have hx := hg.2 _ (rd_mem hlt)
    have h64 := hg.1
    rw [prs_length] at h64
    rw [drop_step hlt]
    have e0 : taskmasterref10_sum.l0 (k + 1) l w acc (i : Int) = taskmasterref10_sum.l0 k l w (acc + ups w (rd_T31 l i).f0 * (rd_T31 l i).f1) ((i : Int) + 1) := by
      simp only [taskmasterref10_sum.l0]
      rw [if_pos (by omega), if_pos (by omega)]
      generalize rd_T31 l (i : Int) = x at hx ⊢
      simp only at hx
      have hu := up_le hx.1 h0
      have hu0 := up_nonneg hx.1 h0
      have hp : x.f1 * ups w x.f0 ≤ 1000000 * 1000000 := Int.mul_le_mul hx.2.2.2 (by omega) hu0 (by omega)
      have hp0 : 0 ≤ x.f1 * ups w x.f0 := Int.mul_nonneg hx.2.2.1 hu0
      rw [if_neg (by omega), w64 (n := w + x.f0) (by omega) (by omega), w64 (n := w + x.f0 - 1) (by omega) (by omega), Int.tdiv_eq_ediv_of_nonneg (by omega)]
      show taskmasterref10_sum.l0 k l w (wrap64 (acc + wrap64 (wrap64 (ups w x.f0) * x.f1))) _ = _
      rw [w64 (n := ups w x.f0) (by omega) (by omega), Int.mul_comm (ups w x.f0), w64 (n := x.f1 * ups w x.f0) (by omega) (by omega), w64 (n := acc + x.f1 * ups w x.f0) (by omega) (by omega), w64 (n := (i : Int) + 1) (by omega) (by omega)]
    rw [e0, Int.mul_comm]
    generalize rd_T31 l (i : Int) = x at hx ⊢
    simp only at hx
    have hu := up_le hx.1 h0
    have hu0 := up_nonneg hx.1 h0
    have hp : x.f1 * ups w x.f0 ≤ 1000000 * 1000000 := Int.mul_le_mul hx.2.2.2 (by omega) hu0 (by omega)
    have hp0 : 0 ≤ x.f1 * ups w x.f0 := Int.mul_nonneg hx.2.2.1 hu0
    exact ih k (i + 1) _ (by omega) (by omega) (by omega) (by omega)
theorem rsum_eq {l : List S31} {a w : Int} (hg : good (prs l)) (ha : 0 ≤ a) (ha' : a ≤ 1000000) (h0 : 0 ≤ w) (h1 : w ≤ 1000000) (k : Nat) (hk : l.length < k) : taskmasterref10_sum.f k a l w = some (tot a (prs l) w) := by
  unfold taskmasterref10_sum.f
  exact rsum_loop hg h0 h1 l.length k 0 a (by omega) hk ha (by omega)
/-- The reference's look at the loads. -/
theorem may_loop {l : List S31} (h64 : l.length ≤ 64) (d : Nat) : ∀ (k i : Nat), i + d = l.length → d < k → taskmasterref10_may.l0 k l (i : Int) = some (!((l.drop i).any oddL)) := by
  induction d with
  | zero =>
    intro k i hi hk
    obtain ⟨k, rfl⟩ : ∃ m, k = m + 1 := ⟨k - 1, by omega⟩
    unfold taskmasterref10_may.l0
    rw [if_neg (by omega), List.drop_eq_nil_of_le (by omega)]; rfl
  | succ d ih =>
    intro k i hi hk
    obtain ⟨k, rfl⟩ : ∃ m, k = m + 1 := ⟨k - 1, by omega⟩
    have hlt : i < l.length := by omega
    have hd : l.drop i = rd_T31 l (i : Int) :: l.drop (i + 1) := by
      rw [List.drop_eq_getElem_cons hlt]; unfold rd_T31
      rw [Int.toNat_natCast, List.getD_eq_getElem?_getD, List.getElem?_eq_getElem hlt]; rfl
    unfold taskmasterref10_may.l0
    rw [if_pos (by omega), if_pos (by omega), hd, List.any_cons, w64 (n := (i : Int) + 1) (by omega) (by omega)]
    have hn := ih k (i + 1) (by omega) (by omega)
    rw [show (((i + 1 : Nat) : Int)) = (i : Int) + 1 by omega] at hn
    rw [hn]
    generalize rd_T31 l (i : Int) = x
    have ho := @oddL_no x
    by_cases h : (1 ≤ x.f0 ∧ x.f0 ≤ 1000000) ∧ (0 ≤ x.f1 ∧ x.f1 ≤ 1000000)
    · rw [if_neg (by omega), if_neg (by omega), if_neg (by omega), if_neg (by omega), ho.2 h]; rfl
    · have hb : oddL x = true := by
        cases hb : oddL x
        · exact absurd (ho.1 hb) h
        · rfl
      rw [hb]
      by_cases h1 : x.f0 < 1
      · rw [if_pos h1]; rfl
      · rw [if_neg h1]
        by_cases h2 : x.f0 > 1000000
        · rw [if_pos h2]; rfl
        · rw [if_neg h2]
          by_cases h3 : x.f1 < 0
          · rw [if_pos h3]; rfl
          · rw [if_neg h3, if_pos (by omega)]; rfl
theorem may_eq (a : Int) (l : List S31) (k : Nat) (hk : l.length + 1 < k ∨ 66 < k) : taskmasterref10_may.f k a l = some (decide (0 ≤ a ∧ a ≤ 1000000 ∧ good (prs l))) := by
  obtain ⟨k, rfl⟩ : ∃ m, k = m + 1 := ⟨k - 1, by omega⟩
  unfold taskmasterref10_may.f
  have no : taskmasterref10_may.j0 (k + 1) l true = some false := by rw [taskmasterref10_may.j0, if_pos rfl]
  by_cases h0 : a < 0
  · rw [if_pos h0, no, decide_eq_false (by omega)]
  · rw [if_neg h0]
    by_cases h1 : a > 1000000
    · rw [if_pos h1, no, decide_eq_false (by omega)]
    · rw [if_neg h1]
      by_cases h2 : (l.length : Int) > 64
      · rw [decide_eq_true h2, no, decide_eq_false]
        rintro ⟨_, _, h⟩
        have := h.1; rw [prs_length] at this; omega
      · rw [decide_eq_false h2]
        rw [taskmasterref10_may.j0]
        rw [if_neg (by simp)]
        have := may_loop (l := l) (by omega) l.length k 0 (by omega) (by omega)
        rw [show ((0 : Nat) : Int) = 0 from rfl] at this
        rw [this, List.drop_zero]
        congr 1
        have g := @good_iff l
        by_cases hb : l.any oddL = false
        · rw [hb, decide_eq_true ⟨by omega, by omega, g.1 ⟨by omega, hb⟩⟩]; rfl
        · have hb' : l.any oddL = true := by simpa using hb
          rw [hb', decide_eq_false (fun h => hb (g.2 h.2.2).2)]; rfl
theorem rleast_loop {l : List S31} {a : Int} (hg : good (prs l)) (ha : 0 ≤ a) (ha' : a ≤ 1000000) : ∀ (n k : Nat) (w : Int), 1 ≤ w → w ≤ 1000000 → 1000000 - w < n → n + 67 < k →
    taskmasterref10_Least.l0 k a l w = some (leastGo (tot a (prs l)) n w) := by
  have h64 := hg.1
  rw [prs_length] at h64
  intro n
  induction n with
  | zero => intro k w h0 h1 h2 hk; omega
  | succ n ih =>
    intro k w h0 h1 h2 hk
    obtain ⟨k, rfl⟩ : ∃ m, k = m + 1 := ⟨k - 1, by omega⟩
    simp only [taskmasterref10_Least.l0]
    rw [if_pos h1, rsum_eq hg ha ha' (by omega) h1 k (by omega), Option.bind_some]
    unfold leastGo
    by_cases e : tot a (prs l) w = w
    · rw [if_pos e, if_pos e]
    · rw [if_neg e, if_neg e]
      by_cases e1 : tot a (prs l) w < w
      · rw [if_pos e1, if_pos (Or.inl e1)]
      · rw [if_neg e1]
        by_cases e2 : 1000000 < tot a (prs l) w
        · rw [if_pos (Or.inr e2)]
          obtain ⟨k, rfl⟩ : ∃ m, k = m + 1 := ⟨k - 1, by omega⟩
          simp only [taskmasterref10_Least.l0]
          rw [if_neg (by omega)]
        · rw [if_neg (by omega)]
          exact ih k _ (by omega) (by omega) (by omega) (by omega)
/-- What both answer. -/
def leastV (a : Int) (l : List S31) : Int × Bool := if 0 ≤ a ∧ a ≤ 1000000 ∧ good (prs l) then leastR a (prs l) else (0, false)
def sumV (a : Int) (l : List S31) (w : Int) : Int × Bool := if (0 ≤ a ∧ a ≤ 1000000 ∧ good (prs l)) ∧ 0 ≤ w ∧ w ≤ 1000000 then (tot a (prs l) w, true) else (0, false)
theorem rleast_eq (a : Int) (l : List S31) (k : Nat) (hk : 1000100 < k) : taskmasterref10_Least.f k a l = some (leastV a l) := by
  unfold taskmasterref10_Least.f leastV
  rw [may_eq a l k (Or.inr (by omega)), Option.bind_some]
  by_cases h : 0 ≤ a ∧ a ≤ 1000000 ∧ good (prs l)
  · rw [decide_eq_true h, if_pos rfl, if_pos h]
    exact rleast_loop h.2.2 h.1 h.2.1 1000001 k 1 (by omega) (by omega) (by omega) (by omega)
  · rw [decide_eq_false h, if_neg (by simp), if_neg h]
end Go.Proofs.Ytapncdhemhnphaa.FixPure

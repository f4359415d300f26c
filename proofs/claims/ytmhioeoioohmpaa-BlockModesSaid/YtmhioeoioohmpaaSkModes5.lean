/- What is proved: contracts and plain facts on the way to the row RowBlockModes, and, in the last text, the row itself; conditions as each theorem names them. -/
import Derived.Test.YtmhioeoioohmpaaSkModes1
import Derived.Test.YtmhioeoioohmpaaSkModes2
import Derived.Test.YtmhioeoioohmpaaSkModes3
import Derived.Test.YtmhioeoioohmpaaSkModes4
namespace Go.Proofs.Ytmhioeoioohmpaa.QBm
open Go.RowKit Go.Proofs.YtmhioeoioohmpaaW.PrintWords Go.Proofs.YtmhioeoioohmpaaW.PrintLast Go.Proofs.YtmhioeoioohmpaaW.PrintMore
attribute [local go_sem] max2_int min2_int max_two min_two max_three min_three max_four min_four
set_option linter.unusedVariables false
set_option linter.unusedSimpArgs false
def taskmasterlaw9_BlockModes.j0 : Nat → Int → Int → Int → Int → Bool → Int → List (S31) → Option (Bool)
 | 0, _, _, _, _, _, _, _ => none
 | k + 1, x1, x2, x3, x4, x56, x198000, x198001 => if x56 = true then (some true) else ((taskmasterref5_Put.f k x198000 x198001).bind fun bt199 => ((taskmasterref5_Put.f k x198000 x198001).bind fun bt203 => (if 0 ≤ x1 then (if x1 < (bt199.2.length : Int) then ((some (bt199.2.set (x1 : Int).toNat (⟨(rd_T31 bt199.2 x1).f0, (rd_T31 bt199.2 x1).f1, (rd_T31 bt199.2 x1).f2, 1, (rd_T31 bt199.2 x1).f4, (rd_T31 bt199.2 x1).f5, (rd_T31 bt199.2 x1).f6, (rd_T31 bt199.2 x1).f7, (rd_T31 bt199.2 x1).f8⟩ : S31) : List (S31))).bind fun y209 => ((some (y209.set (x1 : Int).toNat (⟨(rd_T31 y209 x1).f0, (rd_T31 y209 x1).f1, (rd_T31 y209 x1).f2, (rd_T31 y209 x1).f3, x3, (rd_T31 y209 x1).f5, (rd_T31 y209 x1).f6, (rd_T31 y209 x1).f7, (rd_T31 y209 x1).f8⟩ : S31) : List (S31))).bind fun y210 => ((some (y210.set (x1 : Int).toNat (⟨(rd_T31 y210 x1).f0, (rd_T31 y210 x1).f1, (rd_T31 y210 x1).f2, (rd_T31 y210 x1).f3, (rd_T31 y210 x1).f4, 0, (rd_T31 y210 x1).f6, (rd_T31 y210 x1).f7, (rd_T31 y210 x1).f8⟩ : S31) : List (S31))).bind fun y211 => (if x1 < (bt203.2.length : Int) then ((some (bt203.2.set (x1 : Int).toNat (⟨(rd_T31 bt203.2 x1).f0, (rd_T31 bt203.2 x1).f1, (rd_T31 bt203.2 x1).f2, 2, (rd_T31 bt203.2 x1).f4, (rd_T31 bt203.2 x1).f5, (rd_T31 bt203.2 x1).f6, (rd_T31 bt203.2 x1).f7, (rd_T31 bt203.2 x1).f8⟩ : S31) : List (S31))).bind fun y212 => ((some (y212.set (x1 : Int).toNat (⟨(rd_T31 y212 x1).f0, (rd_T31 y212 x1).f1, (rd_T31 y212 x1).f2, (rd_T31 y212 x1).f3, 0, (rd_T31 y212 x1).f5, (rd_T31 y212 x1).f6, (rd_T31 y212 x1).f7, (rd_T31 y212 x1).f8⟩ : S31) : List (S31))).bind fun y213 => ((some (y213.set (x1 : Int).toNat (⟨(rd_T31 y213 x1).f0, (rd_T31 y213 x1).f1, (rd_T31 y213 x1).f2, (rd_T31 y213 x1).f3, (rd_T31 y213 x1).f4, x4, (rd_T31 y213 x1).f6, (rd_T31 y213 x1).f7, (rd_T31 y213 x1).f8⟩ : S31) : List (S31))).bind fun y214 => ((taskmasterref9_Whole.f k x198000 x198001 x1).bind fun t215 => (if x4 > x2 then ((block_Of.f k bt199.1 y211 x1 x2).bind fun t216 => (if t216 = (mn x3 t215) then ((block_Of.f k bt203.1 y214 x1 x2).bind fun t217 => (if t217 = 0 then ((taskmasterlaw9_known.f k).bind fun t218 => (some t218)) else (some false))) else (some false))) else ((block_Of.f k bt199.1 y211 x1 x2).bind fun t219 => (if t219 = (mn x3 t215) then ((block_Of.f k bt203.1 y214 x1 x2).bind fun t220 => (if t220 = t215 then ((taskmasterlaw9_known.f k).bind fun t221 => (some t221)) else (some false))) else (some false)))))))) else (none))))) else (none)) else (none))))
def taskmasterlaw9_BlockModes.f (k : Nat) (a0_0 : Int) (l0_1 : List (S31)) (a1 : Int) (a2 : Int) (a3 : Int) (a4 : Int) : Option (Bool) := if (l0_1.length : Int) > 10 then (taskmasterlaw9_BlockModes.j0 k a1 a2 a3 a4 true a0_0 l0_1) else ((taskmasterref5_All.f k a0_0 l0_1).bind fun t198 => (if t198 = true then (if a2 < 0 then (taskmasterlaw9_BlockModes.j0 k a1 a2 a3 a4 true a0_0 l0_1) else (if a1 ≤ a2 then (taskmasterlaw9_BlockModes.j0 k a1 a2 a3 a4 true a0_0 l0_1) else (if a1 ≥ (l0_1.length : Int) then (taskmasterlaw9_BlockModes.j0 k a1 a2 a3 a4 true a0_0 l0_1) else (if a3 < 0 then (taskmasterlaw9_BlockModes.j0 k a1 a2 a3 a4 true a0_0 l0_1) else (if a3 > 10000 then (taskmasterlaw9_BlockModes.j0 k a1 a2 a3 a4 true a0_0 l0_1) else (if a4 < 0 then (taskmasterlaw9_BlockModes.j0 k a1 a2 a3 a4 true a0_0 l0_1) else (taskmasterlaw9_BlockModes.j0 k a1 a2 a3 a4 (decide (a4 > a1)) a0_0 l0_1))))))) else (taskmasterlaw9_BlockModes.j0 k a1 a2 a3 a4 true a0_0 l0_1)))
def taskmasterlaw9_BlockModes.T3 : Bool × List (List Nat × List Nat) := (true, [([], []), ([0], [0]), ([], []), ([2, 1], [2]), ([], []), ([], []), ([4, 1, 3, 0, 1, 4, 5], [1, 4]), ([5, 3, 6, 0, 1, 2, 3, 4, 5, 6], [3, 5])])
def taskmasterlaw9_BlockModes.B3 : List Nat := [0, 1, 0, 7, 0, 0, 63, 127]
theorem taskmasterlaw9_BlockModes.tab3 : rtab .any (opsOf Try.f8 3) = taskmasterlaw9_BlockModes.T3 := by kernel_rfl
theorem taskmasterlaw9_BlockModes.bits3 : waitsOk taskmasterlaw9_BlockModes.T3.2 taskmasterlaw9_BlockModes.B3 = true := by kernel_rfl
set_option maxHeartbeats 8000000 in
set_option maxRecDepth 100000 in
theorem taskmasterlaw9_BlockModes.calls (k : Nat) (a0_0 : Int) (A0_1 : Option Addr) (c0_1 : Nat) (l0_1 : List (S31)) (a1 : Int) (a2 : Int) (a3 : Int) (a4 : Int) (r : Bool) (w : World) (hr0_1 : Kd.C k31 w A0_1 l0_1.length l0_1) (hc0_1 : l0_1.length ≤ c0_1) (h : taskmasterlaw9_BlockModes.f k a0_0 l0_1 a1 a2 a3 a4 = some r) :
  Calls Try.prog 8 #[.agg #[.int .i64 a0_0, .slice A0_1 l0_1.length c0_1], .int .i64 a1, .int .i64 a2, .int .i64 a3, .int .i64 a4] w fun e w' => e = .returned (.bool r) ∧ Below w.heap.size w w' := by
 have hu24 := Try.underlying24
 have HR0_1 := Aside0.mk hr0_1
 have HC0_1 := Aside0.mk hc0_1
 clear hr0_1 hc0_1
 have HB := Aside0.mk (Below.refl w.heap.size w)
 have H : (if (l0_1.length : Int) > 10 then (taskmasterlaw9_BlockModes.j0 k a1 a2 a3 a4 true a0_0 l0_1) else ((taskmasterref5_All.f k a0_0 l0_1).bind fun t198 => (if t198 = true then (if a2 < 0 then (taskmasterlaw9_BlockModes.j0 k a1 a2 a3 a4 true a0_0 l0_1) else (if a1 ≤ a2 then (taskmasterlaw9_BlockModes.j0 k a1 a2 a3 a4 true a0_0 l0_1) else (if a1 ≥ (l0_1.length : Int) then (taskmasterlaw9_BlockModes.j0 k a1 a2 a3 a4 true a0_0 l0_1) else (if a3 < 0 then (taskmasterlaw9_BlockModes.j0 k a1 a2 a3 a4 true a0_0 l0_1) else (if a3 > 10000 then (taskmasterlaw9_BlockModes.j0 k a1 a2 a3 a4 true a0_0 l0_1) else (if a4 < 0 then (taskmasterlaw9_BlockModes.j0 k a1 a2 a3 a4 true a0_0 l0_1) else (taskmasterlaw9_BlockModes.j0 k a1 a2 a3 a4 (decide (a4 > a1)) a0_0 l0_1))))))) else (taskmasterlaw9_BlockModes.j0 k a1 a2 a3 a4 true a0_0 l0_1)))) = some r := h
 clear h
 have HC6 := Aside0.mk H
 clear H
 go_enter Try.func8, Try.ntmps8
 go_upto_region 1 with (first | ((with_reducible refine gate_dst (N := 5) rfl ?_); (try (refine gate_guard (by rfl) ?_; dsimp only)); refine box_event ?hg (N := 5) ?hd (cs := #[.int .i64 a0_0, .slice A0_1 l0_1.length c0_1]) (t := 24) ?hr ?_; (case hd => rfl); (case hg => rfl); (case hr => first | (go_simp; done) | (go_simp; rfl)); intro gb197 hg w7 hbox hb; have n0_ := Aside0.mk (below_step (by repeat (first | (with_reducible first | exact HB.out | apply below_alloc | apply pw_below_drewN | apply below_drew1) | exact HB.out)) hb); have n1_ := Aside0.mk (hbox); have n2_ := Aside0.mk ((by rw [hg]; exact (below_size (by repeat (first | (with_reducible first | exact HB.out | apply below_alloc | apply pw_below_drewN | apply below_drew1) | exact HB.out))) : w.heap.size ≤ gb197)); have n3_ := Aside0.mk ((by rw [hg]; exact (below_size (by repeat (first | (with_reducible first | exact HB.out | apply below_alloc | apply pw_below_drewN | apply below_drew1) | exact HB.out))) : w.heap.size ≤ gb197)); clear HB; have HB := n0_; have BK197 := n1_; have GW197 := n2_; have GE197 := n3_; clear n0_ n1_ n2_ n3_; clear hb hbox hg))
 (try simp only [Act.put, List.setIfInBounds_toArray, List.set_cons_zero, List.set_cons_succ])
 go_cut [56] (fun v56 wc => ∃ (kq : Nat) (x56_5 : Bool), v56 = .bool x56_5 ∧ Aside0 (taskmasterlaw9_BlockModes.j0 kq a1 a2 a3 a4 x56_5 a0_0 l0_1 = some r) ∧ Aside0 (kq ≤ k) ∧ Aside0 (wc.heap[gb197]? = some (.cells #[.int .i64 a0_0, (.slice A0_1 l0_1.length c0_1)] 24 (0, 0))) ∧ Aside0 (Below w.heap.size w wc))
 case first =>
  have H := HC6.out
  clear HC6
  by_cases c8 : (l0_1.length : Int) > 10
  ·rw [if_pos c8] at H
   have c8b0 : decide (10 < (l0_1.length : Int)) = true := decide_eq_true c8
   have c8b1 : decide (10 < l0_1.length) = true := decide_eq_true (by omega)
   clear c8
   (first | rw [c8b0] | (simp only [i64_w, i32_w]; rw [c8b0]) | skip)
   have H' := Aside0.mk H
   clear H
   have hcz9_0 : w7.cell? ⟨gb197, 0, none⟩ = some (.int .i64 a0_0) := (blk_cell BK197.out 0).trans rfl
   have hcz9_1 : w7.cell? ⟨gb197, 1, none⟩ = some (.slice A0_1 l0_1.length c0_1) := (blk_cell BK197.out 1).trans rfl
   have hfz9_0 := blk_frozen BK197.out 0
   have hfz9_1 := blk_frozen BK197.out 1
   go_wp2
   go_meet
   case rel => exact ⟨_, (true), (by first | rfl | (simp; done) | (simp [*]; done)), H', ⟨by first | omega | exact Nat.le_refl _⟩, ⟨by (with_reducible repeat (first | refine blk_drewN ?_ _ | refine blk_drew ?_ | refine blk_alloc ?_ _)); exact BK197.out⟩, ⟨by repeat (first | (with_reducible first | exact HB.out | apply below_alloc | apply pw_below_drewN | apply below_drew1 | refine below_set ?_ GE197.out) | exact HB.out)⟩⟩
  ·rw [if_neg c8] at H
   have c8b0 : decide (10 < (l0_1.length : Int)) = false := decide_eq_false c8
   have c8b1 : decide (10 < l0_1.length) = false := decide_eq_false (by omega)
   clear c8
   (first | rw [c8b0] | (simp only [i64_w, i32_w]; rw [c8b0]) | skip)
   replace H := Option.bind_eq_some_iff.mp H
   obtain ⟨t198, A100, H⟩ := H
   replace H : (if t198 = true then (if a2 < 0 then (taskmasterlaw9_BlockModes.j0 k a1 a2 a3 a4 true a0_0 l0_1) else (if a1 ≤ a2 then (taskmasterlaw9_BlockModes.j0 k a1 a2 a3 a4 true a0_0 l0_1) else (if a1 ≥ (l0_1.length : Int) then (taskmasterlaw9_BlockModes.j0 k a1 a2 a3 a4 true a0_0 l0_1) else (if a3 < 0 then (taskmasterlaw9_BlockModes.j0 k a1 a2 a3 a4 true a0_0 l0_1) else (if a3 > 10000 then (taskmasterlaw9_BlockModes.j0 k a1 a2 a3 a4 true a0_0 l0_1) else (if a4 < 0 then (taskmasterlaw9_BlockModes.j0 k a1 a2 a3 a4 true a0_0 l0_1) else (taskmasterlaw9_BlockModes.j0 k a1 a2 a3 a4 (decide (a4 > a1)) a0_0 l0_1))))))) else (taskmasterlaw9_BlockModes.j0 k a1 a2 a3 a4 true a0_0 l0_1)) = some r := H
   have A10 := Aside0.mk A100
   clear A100
   by_cases c11 : t198 = true
   ·subst c11
    have H1 : (if a2 < 0 then (taskmasterlaw9_BlockModes.j0 k a1 a2 a3 a4 true a0_0 l0_1) else (if a1 ≤ a2 then (taskmasterlaw9_BlockModes.j0 k a1 a2 a3 a4 true a0_0 l0_1) else (if a1 ≥ (l0_1.length : Int) then (taskmasterlaw9_BlockModes.j0 k a1 a2 a3 a4 true a0_0 l0_1) else (if a3 < 0 then (taskmasterlaw9_BlockModes.j0 k a1 a2 a3 a4 true a0_0 l0_1) else (if a3 > 10000 then (taskmasterlaw9_BlockModes.j0 k a1 a2 a3 a4 true a0_0 l0_1) else (if a4 < 0 then (taskmasterlaw9_BlockModes.j0 k a1 a2 a3 a4 true a0_0 l0_1) else (taskmasterlaw9_BlockModes.j0 k a1 a2 a3 a4 (decide (a4 > a1)) a0_0 l0_1))))))) = some r := by rw [if_pos rfl] at H; exact H
    clear H
    have H := H1
    clear H1
    by_cases c12 : a2 < 0
    ·rw [if_pos c12] at H
     have c12b0 : decide (a2 < 0) = true := decide_eq_true c12
     clear c12
     have H' := Aside0.mk H
     clear H
     have hcz13_0 : w7.cell? ⟨gb197, 0, none⟩ = some (.int .i64 a0_0) := (blk_cell BK197.out 0).trans rfl
     have hcz13_1 : w7.cell? ⟨gb197, 1, none⟩ = some (.slice A0_1 l0_1.length c0_1) := (blk_cell BK197.out 1).trans rfl
     have hfz13_0 := blk_frozen BK197.out 0
     have hfz13_1 := blk_frozen BK197.out 1
     go_wp2_with (first | (go_at_call 10; (with_reducible refine (taskmasterref5_All.calls k a0_0 _ _ l0_1 true _ ?side1 ?side2 A10.out).mono ?_); (case side1 => repeat (first | exact (Kd.C_below HR0_1.out HB.out) | (with_reducible refine Kd.C_alloc ?_ _) | (with_reducible refine Kd.C_drewN ?_ _) | (with_reducible refine Kd.C_drew ?_))); (case side2 => exact HC0_1.out); rintro e w14 ⟨rfl, hb⟩; have n0_ := Aside0.mk (blk_below (g := gb197) (o := .cells #[.int .i64 a0_0, .slice A0_1 l0_1.length c0_1] 24 (0, 0)) (by (with_reducible repeat (first | refine blk_drewN ?_ _ | refine blk_drew ?_ | refine blk_alloc ?_ _)); exact BK197.out) hb); have n1_ := Aside0.mk (below_step (by repeat (first | (with_reducible first | exact HB.out | apply below_alloc | apply pw_below_drewN | apply below_drew1 | refine below_set ?_ GE197.out) | exact HB.out)) hb); clear BK197; clear HB; have BK197 := n0_; have HB := n1_; clear n0_ n1_; (try clear hb); (try clear hb2); (try clear hk); (try clear hi)))
     go_meet
     case rel => exact ⟨_, (true), (by first | rfl | (simp; done) | (simp [*]; done)), H', ⟨by first | omega | exact Nat.le_refl _⟩, ⟨by (with_reducible repeat (first | refine blk_drewN ?_ _ | refine blk_drew ?_ | refine blk_alloc ?_ _)); exact BK197.out⟩, ⟨by repeat (first | (with_reducible first | exact HB.out | apply below_alloc | apply pw_below_drewN | apply below_drew1 | refine below_set ?_ GE197.out) | exact HB.out)⟩⟩
    ·rw [if_neg c12] at H
     have c12b0 : decide (a2 < 0) = false := decide_eq_false c12
     clear c12
     by_cases c15 : a1 ≤ a2
     ·rw [if_pos c15] at H
      have c15b0 : decide (a1 ≤ a2) = true := decide_eq_true c15
      clear c15
      have H' := Aside0.mk H
      clear H
      have hcz16_0 : w7.cell? ⟨gb197, 0, none⟩ = some (.int .i64 a0_0) := (blk_cell BK197.out 0).trans rfl
      have hcz16_1 : w7.cell? ⟨gb197, 1, none⟩ = some (.slice A0_1 l0_1.length c0_1) := (blk_cell BK197.out 1).trans rfl
      have hfz16_0 := blk_frozen BK197.out 0
      have hfz16_1 := blk_frozen BK197.out 1
      go_wp2_with (first | (go_at_call 10; (with_reducible refine (taskmasterref5_All.calls k a0_0 _ _ l0_1 true _ ?side1 ?side2 A10.out).mono ?_); (case side1 => repeat (first | exact (Kd.C_below HR0_1.out HB.out) | (with_reducible refine Kd.C_alloc ?_ _) | (with_reducible refine Kd.C_drewN ?_ _) | (with_reducible refine Kd.C_drew ?_))); (case side2 => exact HC0_1.out); rintro e w17 ⟨rfl, hb⟩; have n0_ := Aside0.mk (blk_below (g := gb197) (o := .cells #[.int .i64 a0_0, .slice A0_1 l0_1.length c0_1] 24 (0, 0)) (by (with_reducible repeat (first | refine blk_drewN ?_ _ | refine blk_drew ?_ | refine blk_alloc ?_ _)); exact BK197.out) hb); have n1_ := Aside0.mk (below_step (by repeat (first | (with_reducible first | exact HB.out | apply below_alloc | apply pw_below_drewN | apply below_drew1 | refine below_set ?_ GE197.out) | exact HB.out)) hb); clear BK197; clear HB; have BK197 := n0_; have HB := n1_; clear n0_ n1_; (try clear hb); (try clear hb2); (try clear hk); (try clear hi)))
      go_meet
      case rel => exact ⟨_, (true), (by first | rfl | (simp; done) | (simp [*]; done)), H', ⟨by first | omega | exact Nat.le_refl _⟩, ⟨by (with_reducible repeat (first | refine blk_drewN ?_ _ | refine blk_drew ?_ | refine blk_alloc ?_ _)); exact BK197.out⟩, ⟨by repeat (first | (with_reducible first | exact HB.out | apply below_alloc | apply pw_below_drewN | apply below_drew1 | refine below_set ?_ GE197.out) | exact HB.out)⟩⟩
     ·rw [if_neg c15] at H
      have c15b0 : decide (a1 ≤ a2) = false := decide_eq_false c15
      clear c15
      by_cases c18 : a1 ≥ (l0_1.length : Int)
      ·rw [if_pos c18] at H
       have c18b0 : decide ((l0_1.length : Int) ≤ a1) = true := decide_eq_true c18
       clear c18
       have H' := Aside0.mk H
       clear H
       have hcz19_0 : w7.cell? ⟨gb197, 0, none⟩ = some (.int .i64 a0_0) := (blk_cell BK197.out 0).trans rfl
       have hcz19_1 : w7.cell? ⟨gb197, 1, none⟩ = some (.slice A0_1 l0_1.length c0_1) := (blk_cell BK197.out 1).trans rfl
       have hfz19_0 := blk_frozen BK197.out 0
       have hfz19_1 := blk_frozen BK197.out 1
       go_wp2_with (first | (go_at_call 10; (with_reducible refine (taskmasterref5_All.calls k a0_0 _ _ l0_1 true _ ?side1 ?side2 A10.out).mono ?_); (case side1 => repeat (first | exact (Kd.C_below HR0_1.out HB.out) | (with_reducible refine Kd.C_alloc ?_ _) | (with_reducible refine Kd.C_drewN ?_ _) | (with_reducible refine Kd.C_drew ?_))); (case side2 => exact HC0_1.out); rintro e w20 ⟨rfl, hb⟩; have n0_ := Aside0.mk (blk_below (g := gb197) (o := .cells #[.int .i64 a0_0, .slice A0_1 l0_1.length c0_1] 24 (0, 0)) (by (with_reducible repeat (first | refine blk_drewN ?_ _ | refine blk_drew ?_ | refine blk_alloc ?_ _)); exact BK197.out) hb); have n1_ := Aside0.mk (below_step (by repeat (first | (with_reducible first | exact HB.out | apply below_alloc | apply pw_below_drewN | apply below_drew1 | refine below_set ?_ GE197.out) | exact HB.out)) hb); clear BK197; clear HB; have BK197 := n0_; have HB := n1_; clear n0_ n1_; (try clear hb); (try clear hb2); (try clear hk); (try clear hi); have hcz21_0 : w20.cell? ⟨gb197, 0, none⟩ = some (.int .i64 a0_0) := (blk_cell BK197.out 0).trans rfl; have hcz21_1 : w20.cell? ⟨gb197, 1, none⟩ = some (.slice A0_1 l0_1.length c0_1) := (blk_cell BK197.out 1).trans rfl; have hfz21_0 := blk_frozen BK197.out 0; have hfz21_1 := blk_frozen BK197.out 1))
       go_meet
       case rel => exact ⟨_, (true), (by first | rfl | (simp; done) | (simp [*]; done)), H', ⟨by first | omega | exact Nat.le_refl _⟩, ⟨by (with_reducible repeat (first | refine blk_drewN ?_ _ | refine blk_drew ?_ | refine blk_alloc ?_ _)); exact BK197.out⟩, ⟨by repeat (first | (with_reducible first | exact HB.out | apply below_alloc | apply pw_below_drewN | apply below_drew1 | refine below_set ?_ GE197.out) | exact HB.out)⟩⟩
      ·rw [if_neg c18] at H
       have c18b0 : decide ((l0_1.length : Int) ≤ a1) = false := decide_eq_false c18
       clear c18
       by_cases c22 : a3 < 0
       ·rw [if_pos c22] at H
        have c22b0 : decide (a3 < 0) = true := decide_eq_true c22
        clear c22
        have H' := Aside0.mk H
        clear H
        have hcz23_0 : w7.cell? ⟨gb197, 0, none⟩ = some (.int .i64 a0_0) := (blk_cell BK197.out 0).trans rfl
        have hcz23_1 : w7.cell? ⟨gb197, 1, none⟩ = some (.slice A0_1 l0_1.length c0_1) := (blk_cell BK197.out 1).trans rfl
        have hfz23_0 := blk_frozen BK197.out 0
        have hfz23_1 := blk_frozen BK197.out 1
        go_wp2_with (first | (go_at_call 10; (with_reducible refine (taskmasterref5_All.calls k a0_0 _ _ l0_1 true _ ?side1 ?side2 A10.out).mono ?_); (case side1 => repeat (first | exact (Kd.C_below HR0_1.out HB.out) | (with_reducible refine Kd.C_alloc ?_ _) | (with_reducible refine Kd.C_drewN ?_ _) | (with_reducible refine Kd.C_drew ?_))); (case side2 => exact HC0_1.out); rintro e w24 ⟨rfl, hb⟩; have n0_ := Aside0.mk (blk_below (g := gb197) (o := .cells #[.int .i64 a0_0, .slice A0_1 l0_1.length c0_1] 24 (0, 0)) (by (with_reducible repeat (first | refine blk_drewN ?_ _ | refine blk_drew ?_ | refine blk_alloc ?_ _)); exact BK197.out) hb); have n1_ := Aside0.mk (below_step (by repeat (first | (with_reducible first | exact HB.out | apply below_alloc | apply pw_below_drewN | apply below_drew1 | refine below_set ?_ GE197.out) | exact HB.out)) hb); clear BK197; clear HB; have BK197 := n0_; have HB := n1_; clear n0_ n1_; (try clear hb); (try clear hb2); (try clear hk); (try clear hi); have hcz25_0 : w24.cell? ⟨gb197, 0, none⟩ = some (.int .i64 a0_0) := (blk_cell BK197.out 0).trans rfl; have hcz25_1 : w24.cell? ⟨gb197, 1, none⟩ = some (.slice A0_1 l0_1.length c0_1) := (blk_cell BK197.out 1).trans rfl; have hfz25_0 := blk_frozen BK197.out 0; have hfz25_1 := blk_frozen BK197.out 1))
        go_meet
        case rel => exact ⟨_, (true), (by first | rfl | (simp; done) | (simp [*]; done)), H', ⟨by first | omega | exact Nat.le_refl _⟩, ⟨by (with_reducible repeat (first | refine blk_drewN ?_ _ | refine blk_drew ?_ | refine blk_alloc ?_ _)); exact BK197.out⟩, ⟨by repeat (first | (with_reducible first | exact HB.out | apply below_alloc | apply pw_below_drewN | apply below_drew1 | refine below_set ?_ GE197.out) | exact HB.out)⟩⟩
       ·rw [if_neg c22] at H
        have c22b0 : decide (a3 < 0) = false := decide_eq_false c22
        clear c22
        by_cases c26 : a3 > 10000
        ·rw [if_pos c26] at H
         have c26b0 : decide (10000 < a3) = true := decide_eq_true c26
         clear c26
         have H' := Aside0.mk H
         clear H
         have hcz27_0 : w7.cell? ⟨gb197, 0, none⟩ = some (.int .i64 a0_0) := (blk_cell BK197.out 0).trans rfl
         have hcz27_1 : w7.cell? ⟨gb197, 1, none⟩ = some (.slice A0_1 l0_1.length c0_1) := (blk_cell BK197.out 1).trans rfl
         have hfz27_0 := blk_frozen BK197.out 0
         have hfz27_1 := blk_frozen BK197.out 1
         go_wp2_with (first | (go_at_call 10; (with_reducible refine (taskmasterref5_All.calls k a0_0 _ _ l0_1 true _ ?side1 ?side2 A10.out).mono ?_); (case side1 => repeat (first | exact (Kd.C_below HR0_1.out HB.out) | (with_reducible refine Kd.C_alloc ?_ _) | (with_reducible refine Kd.C_drewN ?_ _) | (with_reducible refine Kd.C_drew ?_))); (case side2 => exact HC0_1.out); rintro e w28 ⟨rfl, hb⟩; have n0_ := Aside0.mk (blk_below (g := gb197) (o := .cells #[.int .i64 a0_0, .slice A0_1 l0_1.length c0_1] 24 (0, 0)) (by (with_reducible repeat (first | refine blk_drewN ?_ _ | refine blk_drew ?_ | refine blk_alloc ?_ _)); exact BK197.out) hb); have n1_ := Aside0.mk (below_step (by repeat (first | (with_reducible first | exact HB.out | apply below_alloc | apply pw_below_drewN | apply below_drew1 | refine below_set ?_ GE197.out) | exact HB.out)) hb); clear BK197; clear HB; have BK197 := n0_; have HB := n1_; clear n0_ n1_; (try clear hb); (try clear hb2); (try clear hk); (try clear hi); have hcz29_0 : w28.cell? ⟨gb197, 0, none⟩ = some (.int .i64 a0_0) := (blk_cell BK197.out 0).trans rfl; have hcz29_1 : w28.cell? ⟨gb197, 1, none⟩ = some (.slice A0_1 l0_1.length c0_1) := (blk_cell BK197.out 1).trans rfl; have hfz29_0 := blk_frozen BK197.out 0; have hfz29_1 := blk_frozen BK197.out 1))
         go_meet
         case rel => exact ⟨_, (true), (by first | rfl | (simp; done) | (simp [*]; done)), H', ⟨by first | omega | exact Nat.le_refl _⟩, ⟨by (with_reducible repeat (first | refine blk_drewN ?_ _ | refine blk_drew ?_ | refine blk_alloc ?_ _)); exact BK197.out⟩, ⟨by repeat (first | (with_reducible first | exact HB.out | apply below_alloc | apply pw_below_drewN | apply below_drew1 | refine below_set ?_ GE197.out) | exact HB.out)⟩⟩
        ·rw [if_neg c26] at H
         have c26b0 : decide (10000 < a3) = false := decide_eq_false c26
         clear c26
         by_cases c30 : a4 < 0
         ·rw [if_pos c30] at H
          have c30b0 : decide (a4 < 0) = true := decide_eq_true c30
          clear c30
          have H' := Aside0.mk H
          clear H
          have hcz31_0 : w7.cell? ⟨gb197, 0, none⟩ = some (.int .i64 a0_0) := (blk_cell BK197.out 0).trans rfl
          have hcz31_1 : w7.cell? ⟨gb197, 1, none⟩ = some (.slice A0_1 l0_1.length c0_1) := (blk_cell BK197.out 1).trans rfl
          have hfz31_0 := blk_frozen BK197.out 0
          have hfz31_1 := blk_frozen BK197.out 1
          go_wp2_with (first | (go_at_call 10; (with_reducible refine (taskmasterref5_All.calls k a0_0 _ _ l0_1 true _ ?side1 ?side2 A10.out).mono ?_); (case side1 => repeat (first | exact (Kd.C_below HR0_1.out HB.out) | (with_reducible refine Kd.C_alloc ?_ _) | (with_reducible refine Kd.C_drewN ?_ _) | (with_reducible refine Kd.C_drew ?_))); (case side2 => exact HC0_1.out); rintro e w32 ⟨rfl, hb⟩; have n0_ := Aside0.mk (blk_below (g := gb197) (o := .cells #[.int .i64 a0_0, .slice A0_1 l0_1.length c0_1] 24 (0, 0)) (by (with_reducible repeat (first | refine blk_drewN ?_ _ | refine blk_drew ?_ | refine blk_alloc ?_ _)); exact BK197.out) hb); have n1_ := Aside0.mk (below_step (by repeat (first | (with_reducible first | exact HB.out | apply below_alloc | apply pw_below_drewN | apply below_drew1 | refine below_set ?_ GE197.out) | exact HB.out)) hb); clear BK197; clear HB; have BK197 := n0_; have HB := n1_; clear n0_ n1_; (try clear hb); (try clear hb2); (try clear hk); (try clear hi); have hcz33_0 : w32.cell? ⟨gb197, 0, none⟩ = some (.int .i64 a0_0) := (blk_cell BK197.out 0).trans rfl; have hcz33_1 : w32.cell? ⟨gb197, 1, none⟩ = some (.slice A0_1 l0_1.length c0_1) := (blk_cell BK197.out 1).trans rfl; have hfz33_0 := blk_frozen BK197.out 0; have hfz33_1 := blk_frozen BK197.out 1))
          go_meet
          case rel => exact ⟨_, (true), (by first | rfl | (simp; done) | (simp [*]; done)), H', ⟨by first | omega | exact Nat.le_refl _⟩, ⟨by (with_reducible repeat (first | refine blk_drewN ?_ _ | refine blk_drew ?_ | refine blk_alloc ?_ _)); exact BK197.out⟩, ⟨by repeat (first | (with_reducible first | exact HB.out | apply below_alloc | apply pw_below_drewN | apply below_drew1 | refine below_set ?_ GE197.out) | exact HB.out)⟩⟩
         ·rw [if_neg c30] at H
          have c30b0 : decide (a4 < 0) = false := decide_eq_false c30
          clear c30
          have H' := Aside0.mk H
          clear H
          have hcz34_0 : w7.cell? ⟨gb197, 0, none⟩ = some (.int .i64 a0_0) := (blk_cell BK197.out 0).trans rfl
          have hcz34_1 : w7.cell? ⟨gb197, 1, none⟩ = some (.slice A0_1 l0_1.length c0_1) := (blk_cell BK197.out 1).trans rfl
          have hfz34_0 := blk_frozen BK197.out 0
          have hfz34_1 := blk_frozen BK197.out 1
          go_wp2_with (first | (go_at_call 10; (with_reducible refine (taskmasterref5_All.calls k a0_0 _ _ l0_1 true _ ?side1 ?side2 A10.out).mono ?_); (case side1 => repeat (first | exact (Kd.C_below HR0_1.out HB.out) | (with_reducible refine Kd.C_alloc ?_ _) | (with_reducible refine Kd.C_drewN ?_ _) | (with_reducible refine Kd.C_drew ?_))); (case side2 => exact HC0_1.out); rintro e w35 ⟨rfl, hb⟩; have n0_ := Aside0.mk (blk_below (g := gb197) (o := .cells #[.int .i64 a0_0, .slice A0_1 l0_1.length c0_1] 24 (0, 0)) (by (with_reducible repeat (first | refine blk_drewN ?_ _ | refine blk_drew ?_ | refine blk_alloc ?_ _)); exact BK197.out) hb); have n1_ := Aside0.mk (below_step (by repeat (first | (with_reducible first | exact HB.out | apply below_alloc | apply pw_below_drewN | apply below_drew1 | refine below_set ?_ GE197.out) | exact HB.out)) hb); clear BK197; clear HB; have BK197 := n0_; have HB := n1_; clear n0_ n1_; (try clear hb); (try clear hb2); (try clear hk); (try clear hi); have hcz36_0 : w35.cell? ⟨gb197, 0, none⟩ = some (.int .i64 a0_0) := (blk_cell BK197.out 0).trans rfl; have hcz36_1 : w35.cell? ⟨gb197, 1, none⟩ = some (.slice A0_1 l0_1.length c0_1) := (blk_cell BK197.out 1).trans rfl; have hfz36_0 := blk_frozen BK197.out 0; have hfz36_1 := blk_frozen BK197.out 1))
          go_meet
          case rel => exact ⟨_, (decide (a4 > a1)), (by first | rfl | (simp; done) | (simp [*]; done)), H', ⟨by first | omega | exact Nat.le_refl _⟩, ⟨by (with_reducible repeat (first | refine blk_drewN ?_ _ | refine blk_drew ?_ | refine blk_alloc ?_ _)); exact BK197.out⟩, ⟨by repeat (first | (with_reducible first | exact HB.out | apply below_alloc | apply pw_below_drewN | apply below_drew1 | refine below_set ?_ GE197.out) | exact HB.out)⟩⟩
   ·replace c11 := Bool.eq_false_iff.mpr c11
    subst c11
    have H1 : (taskmasterlaw9_BlockModes.j0 k a1 a2 a3 a4 true a0_0 l0_1) = some r := by rw [if_neg (show ¬ (false = true) by decide)] at H; exact H
    clear H
    have H := H1
    clear H1
    have H' := Aside0.mk H
    clear H
    have hcz37_0 : w7.cell? ⟨gb197, 0, none⟩ = some (.int .i64 a0_0) := (blk_cell BK197.out 0).trans rfl
    have hcz37_1 : w7.cell? ⟨gb197, 1, none⟩ = some (.slice A0_1 l0_1.length c0_1) := (blk_cell BK197.out 1).trans rfl
    have hfz37_0 := blk_frozen BK197.out 0
    have hfz37_1 := blk_frozen BK197.out 1
    go_wp2_with (first | (go_at_call 10; (with_reducible refine (taskmasterref5_All.calls k a0_0 _ _ l0_1 false _ ?side1 ?side2 A10.out).mono ?_); (case side1 => repeat (first | exact (Kd.C_below HR0_1.out HB.out) | (with_reducible refine Kd.C_alloc ?_ _) | (with_reducible refine Kd.C_drewN ?_ _) | (with_reducible refine Kd.C_drew ?_))); (case side2 => exact HC0_1.out); rintro e w38 ⟨rfl, hb⟩; have n0_ := Aside0.mk (blk_below (g := gb197) (o := .cells #[.int .i64 a0_0, .slice A0_1 l0_1.length c0_1] 24 (0, 0)) (by (with_reducible repeat (first | refine blk_drewN ?_ _ | refine blk_drew ?_ | refine blk_alloc ?_ _)); exact BK197.out) hb); have n1_ := Aside0.mk (below_step (by repeat (first | (with_reducible first | exact HB.out | apply below_alloc | apply pw_below_drewN | apply below_drew1 | refine below_set ?_ GE197.out) | exact HB.out)) hb); clear BK197; clear HB; have BK197 := n0_; have HB := n1_; clear n0_ n1_; (try clear hb); (try clear hb2); (try clear hk); (try clear hi)))
    go_meet
    case rel => exact ⟨_, (true), (by first | rfl | (simp; done) | (simp [*]; done)), H', ⟨by first | omega | exact Nat.le_refl _⟩, ⟨by (with_reducible repeat (first | refine blk_drewN ?_ _ | refine blk_drew ?_ | refine blk_alloc ?_ _)); exact BK197.out⟩, ⟨by repeat (first | (with_reducible first | exact HB.out | apply below_alloc | apply pw_below_drewN | apply below_drew1 | refine below_set ?_ GE197.out) | exact HB.out)⟩⟩
 case rest =>
  clear HC6
  try clear c1
  try clear c2
  try clear p2
  try clear c3
  try clear c8
  try clear c8b0
  try clear c8b1
  try clear c11
  try clear c12
  try clear c12b0
  try clear c15
  try clear c15b0
  try clear c18
  try clear c18b0
  try clear c22
  try clear c22b0
  try clear c26
  try clear c26b0
  try clear c30
  try clear c30b0
  try clear hcz13_0
  try clear hcz13_1
  try clear hcz16_0
  try clear hcz16_1
  try clear hcz19_0
  try clear hcz19_1
  try clear hcz21_0
  try clear hcz21_1
  try clear hcz23_0
  try clear hcz23_1
  try clear hcz25_0
  try clear hcz25_1
  try clear hcz27_0
  try clear hcz27_1
  try clear hcz29_0
  try clear hcz29_1
  try clear hcz31_0
  try clear hcz31_1
  try clear hcz33_0
  try clear hcz33_1
  try clear hcz34_0
  try clear hcz34_1
  try clear hcz36_0
  try clear hcz36_1
  try clear hcz37_0
  try clear hcz37_1
  try clear hcz9_0
  try clear hcz9_1
  try clear hfz13_0
  try clear hfz13_1
  try clear hfz16_0
  try clear hfz16_1
  try clear hfz19_0
  try clear hfz19_1
  try clear hfz21_0
  try clear hfz21_1
  try clear hfz23_0
  try clear hfz23_1
  try clear hfz25_0
  try clear hfz25_1
  try clear hfz27_0
  try clear hfz27_1
  try clear hfz29_0
  try clear hfz29_1
  try clear hfz31_0
  try clear hfz31_1
  try clear hfz33_0
  try clear hfz33_1
  try clear hfz34_0
  try clear hfz34_1
  try clear hfz36_0
  try clear hfz36_1
  try clear hfz37_0
  try clear hfz37_1
  try clear hfz9_0
  try clear hfz9_1
  obtain ⟨kq, x56_5, rfl, HA, HJ5, BK197, HB⟩ := hcut
  cases kq with
  | zero => exact absurd HA.out (by simp [taskmasterlaw9_BlockModes.j0])
  | succ kj5 =>
   have H := HA.out
   clear HA
   simp only [taskmasterlaw9_BlockModes.j0] at H
   by_cases c39 : x56_5 = true
   ·subst c39
    have H1 : (some true) = some r := by rw [if_pos rfl] at H; exact H
    clear H
    have H := H1
    clear H1
    obtain rfl := Option.some.inj H
    go_wp2; go_ret
    exact ⟨by first | rfl | (simp [errW_none, errW_some] <;> rfl) | (simp [*, errW_none, errW_some] <;> rfl), by repeat (first | (with_reducible first | exact HB.out | apply below_alloc | apply pw_below_drewN | apply below_drew1 | refine below_set ?_ GE197.out) | exact HB.out)⟩
   ·replace c39 := Bool.eq_false_iff.mpr c39
    subst c39
    have H1 : ((taskmasterref5_Put.f kj5 a0_0 l0_1).bind fun bt199 => ((taskmasterref5_Put.f kj5 a0_0 l0_1).bind fun bt203 => (if 0 ≤ a1 then (if a1 < (bt199.2.length : Int) then ((some (bt199.2.set (a1 : Int).toNat (⟨(rd_T31 bt199.2 a1).f0, (rd_T31 bt199.2 a1).f1, (rd_T31 bt199.2 a1).f2, 1, (rd_T31 bt199.2 a1).f4, (rd_T31 bt199.2 a1).f5, (rd_T31 bt199.2 a1).f6, (rd_T31 bt199.2 a1).f7, (rd_T31 bt199.2 a1).f8⟩ : S31) : List (S31))).bind fun y209 => ((some (y209.set (a1 : Int).toNat (⟨(rd_T31 y209 a1).f0, (rd_T31 y209 a1).f1, (rd_T31 y209 a1).f2, (rd_T31 y209 a1).f3, a3, (rd_T31 y209 a1).f5, (rd_T31 y209 a1).f6, (rd_T31 y209 a1).f7, (rd_T31 y209 a1).f8⟩ : S31) : List (S31))).bind fun y210 => ((some (y210.set (a1 : Int).toNat (⟨(rd_T31 y210 a1).f0, (rd_T31 y210 a1).f1, (rd_T31 y210 a1).f2, (rd_T31 y210 a1).f3, (rd_T31 y210 a1).f4, 0, (rd_T31 y210 a1).f6, (rd_T31 y210 a1).f7, (rd_T31 y210 a1).f8⟩ : S31) : List (S31))).bind fun y211 => (if a1 < (bt203.2.length : Int) then ((some (bt203.2.set (a1 : Int).toNat (⟨(rd_T31 bt203.2 a1).f0, (rd_T31 bt203.2 a1).f1, (rd_T31 bt203.2 a1).f2, 2, (rd_T31 bt203.2 a1).f4, (rd_T31 bt203.2 a1).f5, (rd_T31 bt203.2 a1).f6, (rd_T31 bt203.2 a1).f7, (rd_T31 bt203.2 a1).f8⟩ : S31) : List (S31))).bind fun y212 => ((some (y212.set (a1 : Int).toNat (⟨(rd_T31 y212 a1).f0, (rd_T31 y212 a1).f1, (rd_T31 y212 a1).f2, (rd_T31 y212 a1).f3, 0, (rd_T31 y212 a1).f5, (rd_T31 y212 a1).f6, (rd_T31 y212 a1).f7, (rd_T31 y212 a1).f8⟩ : S31) : List (S31))).bind fun y213 => ((some (y213.set (a1 : Int).toNat (⟨(rd_T31 y213 a1).f0, (rd_T31 y213 a1).f1, (rd_T31 y213 a1).f2, (rd_T31 y213 a1).f3, (rd_T31 y213 a1).f4, a4, (rd_T31 y213 a1).f6, (rd_T31 y213 a1).f7, (rd_T31 y213 a1).f8⟩ : S31) : List (S31))).bind fun y214 => ((taskmasterref9_Whole.f kj5 a0_0 l0_1 a1).bind fun t215 => (if a4 > a2 then ((block_Of.f kj5 bt199.1 y211 a1 a2).bind fun t216 => (if t216 = (mn a3 t215) then ((block_Of.f kj5 bt203.1 y214 a1 a2).bind fun t217 => (if t217 = 0 then ((taskmasterlaw9_known.f kj5).bind fun t218 => (some t218)) else (some false))) else (some false))) else ((block_Of.f kj5 bt199.1 y211 a1 a2).bind fun t219 => (if t219 = (mn a3 t215) then ((block_Of.f kj5 bt203.1 y214 a1 a2).bind fun t220 => (if t220 = t215 then ((taskmasterlaw9_known.f kj5).bind fun t221 => (some t221)) else (some false))) else (some false)))))))) else (none))))) else (none)) else (none)))) = some r := by rw [if_neg (show ¬ (false = true) by decide)] at H; exact H
    clear H
    have H := H1
    clear H1
    replace H := Option.bind_eq_some_iff.mp H
    obtain ⟨⟨t199, t200⟩, A400, H⟩ := H
    replace H : ((taskmasterref5_Put.f kj5 a0_0 l0_1).bind fun bt203 => (if 0 ≤ a1 then (if a1 < (t200.length : Int) then ((some (t200.set (a1 : Int).toNat (⟨(rd_T31 t200 a1).f0, (rd_T31 t200 a1).f1, (rd_T31 t200 a1).f2, 1, (rd_T31 t200 a1).f4, (rd_T31 t200 a1).f5, (rd_T31 t200 a1).f6, (rd_T31 t200 a1).f7, (rd_T31 t200 a1).f8⟩ : S31) : List (S31))).bind fun y209 => ((some (y209.set (a1 : Int).toNat (⟨(rd_T31 y209 a1).f0, (rd_T31 y209 a1).f1, (rd_T31 y209 a1).f2, (rd_T31 y209 a1).f3, a3, (rd_T31 y209 a1).f5, (rd_T31 y209 a1).f6, (rd_T31 y209 a1).f7, (rd_T31 y209 a1).f8⟩ : S31) : List (S31))).bind fun y210 => ((some (y210.set (a1 : Int).toNat (⟨(rd_T31 y210 a1).f0, (rd_T31 y210 a1).f1, (rd_T31 y210 a1).f2, (rd_T31 y210 a1).f3, (rd_T31 y210 a1).f4, 0, (rd_T31 y210 a1).f6, (rd_T31 y210 a1).f7, (rd_T31 y210 a1).f8⟩ : S31) : List (S31))).bind fun y211 => (if a1 < (bt203.2.length : Int) then ((some (bt203.2.set (a1 : Int).toNat (⟨(rd_T31 bt203.2 a1).f0, (rd_T31 bt203.2 a1).f1, (rd_T31 bt203.2 a1).f2, 2, (rd_T31 bt203.2 a1).f4, (rd_T31 bt203.2 a1).f5, (rd_T31 bt203.2 a1).f6, (rd_T31 bt203.2 a1).f7, (rd_T31 bt203.2 a1).f8⟩ : S31) : List (S31))).bind fun y212 => ((some (y212.set (a1 : Int).toNat (⟨(rd_T31 y212 a1).f0, (rd_T31 y212 a1).f1, (rd_T31 y212 a1).f2, (rd_T31 y212 a1).f3, 0, (rd_T31 y212 a1).f5, (rd_T31 y212 a1).f6, (rd_T31 y212 a1).f7, (rd_T31 y212 a1).f8⟩ : S31) : List (S31))).bind fun y213 => ((some (y213.set (a1 : Int).toNat (⟨(rd_T31 y213 a1).f0, (rd_T31 y213 a1).f1, (rd_T31 y213 a1).f2, (rd_T31 y213 a1).f3, (rd_T31 y213 a1).f4, a4, (rd_T31 y213 a1).f6, (rd_T31 y213 a1).f7, (rd_T31 y213 a1).f8⟩ : S31) : List (S31))).bind fun y214 => ((taskmasterref9_Whole.f kj5 a0_0 l0_1 a1).bind fun t215 => (if a4 > a2 then ((block_Of.f kj5 t199 y211 a1 a2).bind fun t216 => (if t216 = (mn a3 t215) then ((block_Of.f kj5 bt203.1 y214 a1 a2).bind fun t217 => (if t217 = 0 then ((taskmasterlaw9_known.f kj5).bind fun t218 => (some t218)) else (some false))) else (some false))) else ((block_Of.f kj5 t199 y211 a1 a2).bind fun t219 => (if t219 = (mn a3 t215) then ((block_Of.f kj5 bt203.1 y214 a1 a2).bind fun t220 => (if t220 = t215 then ((taskmasterlaw9_known.f kj5).bind fun t221 => (some t221)) else (some false))) else (some false)))))))) else (none))))) else (none)) else (none))) = some r := H
    have A40 := Aside0.mk A400
    clear A400
    replace H := Option.bind_eq_some_iff.mp H
    obtain ⟨⟨t203, t204⟩, A410, H⟩ := H
    replace H : (if 0 ≤ a1 then (if a1 < (t200.length : Int) then ((some (t200.set (a1 : Int).toNat (⟨(rd_T31 t200 a1).f0, (rd_T31 t200 a1).f1, (rd_T31 t200 a1).f2, 1, (rd_T31 t200 a1).f4, (rd_T31 t200 a1).f5, (rd_T31 t200 a1).f6, (rd_T31 t200 a1).f7, (rd_T31 t200 a1).f8⟩ : S31) : List (S31))).bind fun y209 => ((some (y209.set (a1 : Int).toNat (⟨(rd_T31 y209 a1).f0, (rd_T31 y209 a1).f1, (rd_T31 y209 a1).f2, (rd_T31 y209 a1).f3, a3, (rd_T31 y209 a1).f5, (rd_T31 y209 a1).f6, (rd_T31 y209 a1).f7, (rd_T31 y209 a1).f8⟩ : S31) : List (S31))).bind fun y210 => ((some (y210.set (a1 : Int).toNat (⟨(rd_T31 y210 a1).f0, (rd_T31 y210 a1).f1, (rd_T31 y210 a1).f2, (rd_T31 y210 a1).f3, (rd_T31 y210 a1).f4, 0, (rd_T31 y210 a1).f6, (rd_T31 y210 a1).f7, (rd_T31 y210 a1).f8⟩ : S31) : List (S31))).bind fun y211 => (if a1 < (t204.length : Int) then ((some (t204.set (a1 : Int).toNat (⟨(rd_T31 t204 a1).f0, (rd_T31 t204 a1).f1, (rd_T31 t204 a1).f2, 2, (rd_T31 t204 a1).f4, (rd_T31 t204 a1).f5, (rd_T31 t204 a1).f6, (rd_T31 t204 a1).f7, (rd_T31 t204 a1).f8⟩ : S31) : List (S31))).bind fun y212 => ((some (y212.set (a1 : Int).toNat (⟨(rd_T31 y212 a1).f0, (rd_T31 y212 a1).f1, (rd_T31 y212 a1).f2, (rd_T31 y212 a1).f3, 0, (rd_T31 y212 a1).f5, (rd_T31 y212 a1).f6, (rd_T31 y212 a1).f7, (rd_T31 y212 a1).f8⟩ : S31) : List (S31))).bind fun y213 => ((some (y213.set (a1 : Int).toNat (⟨(rd_T31 y213 a1).f0, (rd_T31 y213 a1).f1, (rd_T31 y213 a1).f2, (rd_T31 y213 a1).f3, (rd_T31 y213 a1).f4, a4, (rd_T31 y213 a1).f6, (rd_T31 y213 a1).f7, (rd_T31 y213 a1).f8⟩ : S31) : List (S31))).bind fun y214 => ((taskmasterref9_Whole.f kj5 a0_0 l0_1 a1).bind fun t215 => (if a4 > a2 then ((block_Of.f kj5 t199 y211 a1 a2).bind fun t216 => (if t216 = (mn a3 t215) then ((block_Of.f kj5 t203 y214 a1 a2).bind fun t217 => (if t217 = 0 then ((taskmasterlaw9_known.f kj5).bind fun t218 => (some t218)) else (some false))) else (some false))) else ((block_Of.f kj5 t199 y211 a1 a2).bind fun t219 => (if t219 = (mn a3 t215) then ((block_Of.f kj5 t203 y214 a1 a2).bind fun t220 => (if t220 = t215 then ((taskmasterlaw9_known.f kj5).bind fun t221 => (some t221)) else (some false))) else (some false)))))))) else (none))))) else (none)) else (none)) = some r := H
    have A41 := Aside0.mk A410
    clear A410
    by_cases c42 : 0 ≤ a1
    ·rw [if_pos c42] at H
     have c42b0 : decide (0 ≤ a1) = true := decide_eq_true c42
     clear c42
     by_cases c43 : a1 < (t200.length : Int)
     ·rw [if_pos c43] at H
      have c43b0 : decide (a1 < (t200.length : Int)) = true := decide_eq_true c43
      clear c43
      obtain ⟨y209, hy209⟩ : ∃ y_ : List (S31), y_ = (t200.set (a1 : Int).toNat (⟨(rd_T31 t200 a1).f0, (rd_T31 t200 a1).f1, (rd_T31 t200 a1).f2, 1, (rd_T31 t200 a1).f4, (rd_T31 t200 a1).f5, (rd_T31 t200 a1).f6, (rd_T31 t200 a1).f7, (rd_T31 t200 a1).f8⟩ : S31)) := ⟨_, rfl⟩
      replace H : ((some (y209.set (a1 : Int).toNat (⟨(rd_T31 y209 a1).f0, (rd_T31 y209 a1).f1, (rd_T31 y209 a1).f2, (rd_T31 y209 a1).f3, a3, (rd_T31 y209 a1).f5, (rd_T31 y209 a1).f6, (rd_T31 y209 a1).f7, (rd_T31 y209 a1).f8⟩ : S31) : List (S31))).bind fun y210 => ((some (y210.set (a1 : Int).toNat (⟨(rd_T31 y210 a1).f0, (rd_T31 y210 a1).f1, (rd_T31 y210 a1).f2, (rd_T31 y210 a1).f3, (rd_T31 y210 a1).f4, 0, (rd_T31 y210 a1).f6, (rd_T31 y210 a1).f7, (rd_T31 y210 a1).f8⟩ : S31) : List (S31))).bind fun y211 => (if a1 < (t204.length : Int) then ((some (t204.set (a1 : Int).toNat (⟨(rd_T31 t204 a1).f0, (rd_T31 t204 a1).f1, (rd_T31 t204 a1).f2, 2, (rd_T31 t204 a1).f4, (rd_T31 t204 a1).f5, (rd_T31 t204 a1).f6, (rd_T31 t204 a1).f7, (rd_T31 t204 a1).f8⟩ : S31) : List (S31))).bind fun y212 => ((some (y212.set (a1 : Int).toNat (⟨(rd_T31 y212 a1).f0, (rd_T31 y212 a1).f1, (rd_T31 y212 a1).f2, (rd_T31 y212 a1).f3, 0, (rd_T31 y212 a1).f5, (rd_T31 y212 a1).f6, (rd_T31 y212 a1).f7, (rd_T31 y212 a1).f8⟩ : S31) : List (S31))).bind fun y213 => ((some (y213.set (a1 : Int).toNat (⟨(rd_T31 y213 a1).f0, (rd_T31 y213 a1).f1, (rd_T31 y213 a1).f2, (rd_T31 y213 a1).f3, (rd_T31 y213 a1).f4, a4, (rd_T31 y213 a1).f6, (rd_T31 y213 a1).f7, (rd_T31 y213 a1).f8⟩ : S31) : List (S31))).bind fun y214 => ((taskmasterref9_Whole.f kj5 a0_0 l0_1 a1).bind fun t215 => (if a4 > a2 then ((block_Of.f kj5 t199 y211 a1 a2).bind fun t216 => (if t216 = (mn a3 t215) then ((block_Of.f kj5 t203 y214 a1 a2).bind fun t217 => (if t217 = 0 then ((taskmasterlaw9_known.f kj5).bind fun t218 => (some t218)) else (some false))) else (some false))) else ((block_Of.f kj5 t199 y211 a1 a2).bind fun t219 => (if t219 = (mn a3 t215) then ((block_Of.f kj5 t203 y214 a1 a2).bind fun t220 => (if t220 = t215 then ((taskmasterlaw9_known.f kj5).bind fun t221 => (some t221)) else (some false))) else (some false)))))))) else (none)))) = some r := by first | (rw [hy209]; with_reducible exact H) | (have H2_ := (Option.bind_some _ _).symm.trans H; rw [hy209]; with_reducible exact H2_) | (have H2_ := (Option.bind_some _ _).symm.trans H; with_reducible exact H2_) | with_reducible exact H | (rw [hy209]; exact H) | exact H
      have Ny209 := Aside0.mk hy209
      clear hy209
      obtain ⟨y210, hy210⟩ : ∃ y_ : List (S31), y_ = (y209.set (a1 : Int).toNat (⟨(rd_T31 y209 a1).f0, (rd_T31 y209 a1).f1, (rd_T31 y209 a1).f2, (rd_T31 y209 a1).f3, a3, (rd_T31 y209 a1).f5, (rd_T31 y209 a1).f6, (rd_T31 y209 a1).f7, (rd_T31 y209 a1).f8⟩ : S31)) := ⟨_, rfl⟩
      replace H : ((some (y210.set (a1 : Int).toNat (⟨(rd_T31 y210 a1).f0, (rd_T31 y210 a1).f1, (rd_T31 y210 a1).f2, (rd_T31 y210 a1).f3, (rd_T31 y210 a1).f4, 0, (rd_T31 y210 a1).f6, (rd_T31 y210 a1).f7, (rd_T31 y210 a1).f8⟩ : S31) : List (S31))).bind fun y211 => (if a1 < (t204.length : Int) then ((some (t204.set (a1 : Int).toNat (⟨(rd_T31 t204 a1).f0, (rd_T31 t204 a1).f1, (rd_T31 t204 a1).f2, 2, (rd_T31 t204 a1).f4, (rd_T31 t204 a1).f5, (rd_T31 t204 a1).f6, (rd_T31 t204 a1).f7, (rd_T31 t204 a1).f8⟩ : S31) : List (S31))).bind fun y212 => ((some (y212.set (a1 : Int).toNat (⟨(rd_T31 y212 a1).f0, (rd_T31 y212 a1).f1, (rd_T31 y212 a1).f2, (rd_T31 y212 a1).f3, 0, (rd_T31 y212 a1).f5, (rd_T31 y212 a1).f6, (rd_T31 y212 a1).f7, (rd_T31 y212 a1).f8⟩ : S31) : List (S31))).bind fun y213 => ((some (y213.set (a1 : Int).toNat (⟨(rd_T31 y213 a1).f0, (rd_T31 y213 a1).f1, (rd_T31 y213 a1).f2, (rd_T31 y213 a1).f3, (rd_T31 y213 a1).f4, a4, (rd_T31 y213 a1).f6, (rd_T31 y213 a1).f7, (rd_T31 y213 a1).f8⟩ : S31) : List (S31))).bind fun y214 => ((taskmasterref9_Whole.f kj5 a0_0 l0_1 a1).bind fun t215 => (if a4 > a2 then ((block_Of.f kj5 t199 y211 a1 a2).bind fun t216 => (if t216 = (mn a3 t215) then ((block_Of.f kj5 t203 y214 a1 a2).bind fun t217 => (if t217 = 0 then ((taskmasterlaw9_known.f kj5).bind fun t218 => (some t218)) else (some false))) else (some false))) else ((block_Of.f kj5 t199 y211 a1 a2).bind fun t219 => (if t219 = (mn a3 t215) then ((block_Of.f kj5 t203 y214 a1 a2).bind fun t220 => (if t220 = t215 then ((taskmasterlaw9_known.f kj5).bind fun t221 => (some t221)) else (some false))) else (some false)))))))) else (none))) = some r := by first | (rw [hy210]; with_reducible exact H) | (have H2_ := (Option.bind_some _ _).symm.trans H; rw [hy210]; with_reducible exact H2_) | (have H2_ := (Option.bind_some _ _).symm.trans H; with_reducible exact H2_) | with_reducible exact H | (rw [hy210]; exact H) | exact H
      have Ny210 := Aside0.mk hy210
      clear hy210
      obtain ⟨y211, hy211⟩ : ∃ y_ : List (S31), y_ = (y210.set (a1 : Int).toNat (⟨(rd_T31 y210 a1).f0, (rd_T31 y210 a1).f1, (rd_T31 y210 a1).f2, (rd_T31 y210 a1).f3, (rd_T31 y210 a1).f4, 0, (rd_T31 y210 a1).f6, (rd_T31 y210 a1).f7, (rd_T31 y210 a1).f8⟩ : S31)) := ⟨_, rfl⟩
      replace H : (if a1 < (t204.length : Int) then ((some (t204.set (a1 : Int).toNat (⟨(rd_T31 t204 a1).f0, (rd_T31 t204 a1).f1, (rd_T31 t204 a1).f2, 2, (rd_T31 t204 a1).f4, (rd_T31 t204 a1).f5, (rd_T31 t204 a1).f6, (rd_T31 t204 a1).f7, (rd_T31 t204 a1).f8⟩ : S31) : List (S31))).bind fun y212 => ((some (y212.set (a1 : Int).toNat (⟨(rd_T31 y212 a1).f0, (rd_T31 y212 a1).f1, (rd_T31 y212 a1).f2, (rd_T31 y212 a1).f3, 0, (rd_T31 y212 a1).f5, (rd_T31 y212 a1).f6, (rd_T31 y212 a1).f7, (rd_T31 y212 a1).f8⟩ : S31) : List (S31))).bind fun y213 => ((some (y213.set (a1 : Int).toNat (⟨(rd_T31 y213 a1).f0, (rd_T31 y213 a1).f1, (rd_T31 y213 a1).f2, (rd_T31 y213 a1).f3, (rd_T31 y213 a1).f4, a4, (rd_T31 y213 a1).f6, (rd_T31 y213 a1).f7, (rd_T31 y213 a1).f8⟩ : S31) : List (S31))).bind fun y214 => ((taskmasterref9_Whole.f kj5 a0_0 l0_1 a1).bind fun t215 => (if a4 > a2 then ((block_Of.f kj5 t199 y211 a1 a2).bind fun t216 => (if t216 = (mn a3 t215) then ((block_Of.f kj5 t203 y214 a1 a2).bind fun t217 => (if t217 = 0 then ((taskmasterlaw9_known.f kj5).bind fun t218 => (some t218)) else (some false))) else (some false))) else ((block_Of.f kj5 t199 y211 a1 a2).bind fun t219 => (if t219 = (mn a3 t215) then ((block_Of.f kj5 t203 y214 a1 a2).bind fun t220 => (if t220 = t215 then ((taskmasterlaw9_known.f kj5).bind fun t221 => (some t221)) else (some false))) else (some false)))))))) else (none)) = some r := by first | (rw [hy211]; with_reducible exact H) | (have H2_ := (Option.bind_some _ _).symm.trans H; rw [hy211]; with_reducible exact H2_) | (have H2_ := (Option.bind_some _ _).symm.trans H; with_reducible exact H2_) | with_reducible exact H | (rw [hy211]; exact H) | exact H
      have Ny211 := Aside0.mk hy211
      clear hy211
      by_cases c47 : a1 < (t204.length : Int)
      ·rw [if_pos c47] at H
       have c47b0 : decide (a1 < (t204.length : Int)) = true := decide_eq_true c47
       clear c47
       obtain ⟨y212, hy212⟩ : ∃ y_ : List (S31), y_ = (t204.set (a1 : Int).toNat (⟨(rd_T31 t204 a1).f0, (rd_T31 t204 a1).f1, (rd_T31 t204 a1).f2, 2, (rd_T31 t204 a1).f4, (rd_T31 t204 a1).f5, (rd_T31 t204 a1).f6, (rd_T31 t204 a1).f7, (rd_T31 t204 a1).f8⟩ : S31)) := ⟨_, rfl⟩
       replace H : ((some (y212.set (a1 : Int).toNat (⟨(rd_T31 y212 a1).f0, (rd_T31 y212 a1).f1, (rd_T31 y212 a1).f2, (rd_T31 y212 a1).f3, 0, (rd_T31 y212 a1).f5, (rd_T31 y212 a1).f6, (rd_T31 y212 a1).f7, (rd_T31 y212 a1).f8⟩ : S31) : List (S31))).bind fun y213 => ((some (y213.set (a1 : Int).toNat (⟨(rd_T31 y213 a1).f0, (rd_T31 y213 a1).f1, (rd_T31 y213 a1).f2, (rd_T31 y213 a1).f3, (rd_T31 y213 a1).f4, a4, (rd_T31 y213 a1).f6, (rd_T31 y213 a1).f7, (rd_T31 y213 a1).f8⟩ : S31) : List (S31))).bind fun y214 => ((taskmasterref9_Whole.f kj5 a0_0 l0_1 a1).bind fun t215 => (if a4 > a2 then ((block_Of.f kj5 t199 y211 a1 a2).bind fun t216 => (if t216 = (mn a3 t215) then ((block_Of.f kj5 t203 y214 a1 a2).bind fun t217 => (if t217 = 0 then ((taskmasterlaw9_known.f kj5).bind fun t218 => (some t218)) else (some false))) else (some false))) else ((block_Of.f kj5 t199 y211 a1 a2).bind fun t219 => (if t219 = (mn a3 t215) then ((block_Of.f kj5 t203 y214 a1 a2).bind fun t220 => (if t220 = t215 then ((taskmasterlaw9_known.f kj5).bind fun t221 => (some t221)) else (some false))) else (some false))))))) = some r := by first | (rw [hy212]; with_reducible exact H) | (have H2_ := (Option.bind_some _ _).symm.trans H; rw [hy212]; with_reducible exact H2_) | (have H2_ := (Option.bind_some _ _).symm.trans H; with_reducible exact H2_) | with_reducible exact H | (rw [hy212]; exact H) | exact H
       have Ny212 := Aside0.mk hy212
       clear hy212
       obtain ⟨y213, hy213⟩ : ∃ y_ : List (S31), y_ = (y212.set (a1 : Int).toNat (⟨(rd_T31 y212 a1).f0, (rd_T31 y212 a1).f1, (rd_T31 y212 a1).f2, (rd_T31 y212 a1).f3, 0, (rd_T31 y212 a1).f5, (rd_T31 y212 a1).f6, (rd_T31 y212 a1).f7, (rd_T31 y212 a1).f8⟩ : S31)) := ⟨_, rfl⟩
       replace H : ((some (y213.set (a1 : Int).toNat (⟨(rd_T31 y213 a1).f0, (rd_T31 y213 a1).f1, (rd_T31 y213 a1).f2, (rd_T31 y213 a1).f3, (rd_T31 y213 a1).f4, a4, (rd_T31 y213 a1).f6, (rd_T31 y213 a1).f7, (rd_T31 y213 a1).f8⟩ : S31) : List (S31))).bind fun y214 => ((taskmasterref9_Whole.f kj5 a0_0 l0_1 a1).bind fun t215 => (if a4 > a2 then ((block_Of.f kj5 t199 y211 a1 a2).bind fun t216 => (if t216 = (mn a3 t215) then ((block_Of.f kj5 t203 y214 a1 a2).bind fun t217 => (if t217 = 0 then ((taskmasterlaw9_known.f kj5).bind fun t218 => (some t218)) else (some false))) else (some false))) else ((block_Of.f kj5 t199 y211 a1 a2).bind fun t219 => (if t219 = (mn a3 t215) then ((block_Of.f kj5 t203 y214 a1 a2).bind fun t220 => (if t220 = t215 then ((taskmasterlaw9_known.f kj5).bind fun t221 => (some t221)) else (some false))) else (some false)))))) = some r := by first | (rw [hy213]; with_reducible exact H) | (have H2_ := (Option.bind_some _ _).symm.trans H; rw [hy213]; with_reducible exact H2_) | (have H2_ := (Option.bind_some _ _).symm.trans H; with_reducible exact H2_) | with_reducible exact H | (rw [hy213]; exact H) | exact H
       have Ny213 := Aside0.mk hy213
       clear hy213
       obtain ⟨y214, hy214⟩ : ∃ y_ : List (S31), y_ = (y213.set (a1 : Int).toNat (⟨(rd_T31 y213 a1).f0, (rd_T31 y213 a1).f1, (rd_T31 y213 a1).f2, (rd_T31 y213 a1).f3, (rd_T31 y213 a1).f4, a4, (rd_T31 y213 a1).f6, (rd_T31 y213 a1).f7, (rd_T31 y213 a1).f8⟩ : S31)) := ⟨_, rfl⟩
       replace H : ((taskmasterref9_Whole.f kj5 a0_0 l0_1 a1).bind fun t215 => (if a4 > a2 then ((block_Of.f kj5 t199 y211 a1 a2).bind fun t216 => (if t216 = (mn a3 t215) then ((block_Of.f kj5 t203 y214 a1 a2).bind fun t217 => (if t217 = 0 then ((taskmasterlaw9_known.f kj5).bind fun t218 => (some t218)) else (some false))) else (some false))) else ((block_Of.f kj5 t199 y211 a1 a2).bind fun t219 => (if t219 = (mn a3 t215) then ((block_Of.f kj5 t203 y214 a1 a2).bind fun t220 => (if t220 = t215 then ((taskmasterlaw9_known.f kj5).bind fun t221 => (some t221)) else (some false))) else (some false))))) = some r := by first | (rw [hy214]; with_reducible exact H) | (have H2_ := (Option.bind_some _ _).symm.trans H; rw [hy214]; with_reducible exact H2_) | (have H2_ := (Option.bind_some _ _).symm.trans H; with_reducible exact H2_) | with_reducible exact H | (rw [hy214]; exact H) | exact H
       have Ny214 := Aside0.mk hy214
       clear hy214
       replace H := Option.bind_eq_some_iff.mp H
       obtain ⟨t215, A510, H⟩ := H
       replace H : (if a4 > a2 then ((block_Of.f kj5 t199 y211 a1 a2).bind fun t216 => (if t216 = (mn a3 t215) then ((block_Of.f kj5 t203 y214 a1 a2).bind fun t217 => (if t217 = 0 then ((taskmasterlaw9_known.f kj5).bind fun t218 => (some t218)) else (some false))) else (some false))) else ((block_Of.f kj5 t199 y211 a1 a2).bind fun t219 => (if t219 = (mn a3 t215) then ((block_Of.f kj5 t203 y214 a1 a2).bind fun t220 => (if t220 = t215 then ((taskmasterlaw9_known.f kj5).bind fun t221 => (some t221)) else (some false))) else (some false)))) = some r := H
       have A51 := Aside0.mk A510
       clear A510
       try go_wp2
       have n0_ := Aside0.mk (blk_drew BK197.out)
       have n1_ := Aside0.mk (below_drew1 HB.out)
       clear BK197; clear HB
       have BK197 := n0_
       have HB := n1_
       clear n0_ n1_
       refine start_ (n := 8) (S := fun w' => w'.cell? ⟨gb197, 0, none⟩ = some (.int .i64 a0_0) ∧ w'.cell? ⟨gb197, 1, none⟩ = some (.slice A0_1 l0_1.length c0_1)) (ds := []) #[false, false, false, false, false, false, false, false] (by kernel_rfl) rfl rfl ⟨(blk_cell BK197.out 0).trans rfl, (blk_cell BK197.out 1).trans rfl⟩ (fun hHeld => ?_); refine with_tabW taskmasterlaw9_BlockModes.tab3 taskmasterlaw9_BlockModes.bits3 (fun HT_ HW_ => ?_)
       generalize wc.drew = w59 at BK197 HB hHeld ⊢
       refine take_ (i := 0) (N := some 57) (v := ?_) (a' := ?_) #[true, false, false, false, false, false, false, false] rfl rfl (take_ofW HT_.out HW_.out (by kernel_rfl)) (fun _ _ _ h => h) (Or.inl ⟨by rfl, ?_⟩) hHeld ?_ ?_
       rotate_left
       ·rintro w' ⟨s0, s1⟩
        go_simp; with_reducible rfl
       rotate_left; · simp only [Act.put, List.setIfInBounds_toArray, List.set_cons_zero, List.set_cons_succ, i64_w, i32_w]; rfl
       refine take_ (i := 2) (N := some 59) (v := ?_) (a' := ?_) #[true, false, true, false, false, false, false, false] rfl rfl (take_ofW HT_.out HW_.out (by kernel_rfl)) (fun _ _ _ h => h) (Or.inl ⟨by rfl, ?_⟩) hHeld ?_ ?_
       rotate_left
       ·rintro w' ⟨s0, s1⟩
        go_simp; with_reducible rfl
       rotate_left; · simp only [Act.put, List.setIfInBounds_toArray, List.set_cons_zero, List.set_cons_succ, i64_w, i32_w]; rfl
       refine join_ (σ := Value × Value × Nat × Nat) 2 #[true, true, true, true, true, true, false, false] (fun s_ => [(58, .agg #[.int .i64 t199, s_.1]), (60, .agg #[.int .i64 t203, s_.2.1]), (11, .pointer (some ⟨s_.2.2.1, 0, none⟩)), (12, .pointer (some ⟨s_.2.2.2, 0, none⟩))]) (fun s_ w' => (w'.cell? ⟨gb197, 0, none⟩ = some (.int .i64 a0_0) ∧ w'.cell? ⟨gb197, 1, none⟩ = some (.slice A0_1 l0_1.length c0_1)) ∧ (Kd.S k31 31 w' w.heap.size (fun k_ => some k_ ≠ (s_.2.1 : Value).ownBlock) s_.1 t200) ∧ (Kd.S k31 31 w' w.heap.size (fun k_ => some k_ ≠ (s_.1 : Value).ownBlock) s_.2.1 t204) ∧ (w'.heap[gb197]? = some (.cells #[.int .i64 a0_0, .slice A0_1 l0_1.length c0_1] 24 (0, 0))) ∧ (w'.heap[s_.2.2.1]? = some (.cells #[.int .i64 0, .slice none 0 0] 24 (0, 0))) ∧ (w'.heap[s_.2.2.2]? = some (.cells #[.int .i64 0, .slice none 0 0] 24 (0, 0))) ∧ (w.heap.size ≤ s_.2.2.1) ∧ (w.heap.size ≤ s_.2.2.1) ∧ (gb197 ≠ s_.2.2.1) ∧ (s_.2.2.1 ≠ gb197) ∧ (s_.2.2.2 ≠ s_.2.2.1) ∧ (s_.2.2.1 ≠ s_.2.2.2) ∧ (w.heap.size ≤ s_.2.2.2) ∧ (w.heap.size ≤ s_.2.2.2) ∧ (gb197 ≠ s_.2.2.2) ∧ (s_.2.2.2 ≠ gb197) ∧ (Below w.heap.size w w')) ?_ ?_
       rotate_left
       ·intro hJ1_3_4_5
        refine join_ (σ := Value × Value × Nat) 3 #[true, true, true, true, true, false, false, false] (fun s_ => [(58, .agg #[.int .i64 t199, s_.1]), (60, .agg #[.int .i64 t203, s_.2.1]), (11, .pointer (some ⟨s_.2.2, 0, none⟩))]) (fun s_ w' => (w'.cell? ⟨gb197, 0, none⟩ = some (.int .i64 a0_0) ∧ w'.cell? ⟨gb197, 1, none⟩ = some (.slice A0_1 l0_1.length c0_1)) ∧ (Kd.S k31 31 w' w.heap.size (fun k_ => some k_ ≠ (s_.2.1 : Value).ownBlock) s_.1 t200) ∧ (Kd.S k31 31 w' w.heap.size (fun k_ => some k_ ≠ (s_.1 : Value).ownBlock) s_.2.1 t204) ∧ (w'.heap[gb197]? = some (.cells #[.int .i64 a0_0, .slice A0_1 l0_1.length c0_1] 24 (0, 0))) ∧ (w'.heap[s_.2.2]? = some (.cells #[.int .i64 0, .slice none 0 0] 24 (0, 0))) ∧ (w.heap.size ≤ s_.2.2) ∧ (w.heap.size ≤ s_.2.2) ∧ (gb197 ≠ s_.2.2) ∧ (s_.2.2 ≠ gb197) ∧ (Below w.heap.size w w')) ?_ ?_
        rotate_left
        ·intro hJ1_3_4
         refine join_ (σ := Value × Value × Nat) 3 #[true, true, true, true, false, true, false, false] (fun s_ => [(58, .agg #[.int .i64 t199, s_.1]), (60, .agg #[.int .i64 t203, s_.2.1]), (12, .pointer (some ⟨s_.2.2, 0, none⟩))]) (fun s_ w' => (w'.cell? ⟨gb197, 0, none⟩ = some (.int .i64 a0_0) ∧ w'.cell? ⟨gb197, 1, none⟩ = some (.slice A0_1 l0_1.length c0_1)) ∧ (Kd.S k31 31 w' w.heap.size (fun k_ => some k_ ≠ (s_.2.1 : Value).ownBlock) s_.1 t200) ∧ (Kd.S k31 31 w' w.heap.size (fun k_ => some k_ ≠ (s_.1 : Value).ownBlock) s_.2.1 t204) ∧ (w'.heap[gb197]? = some (.cells #[.int .i64 a0_0, .slice A0_1 l0_1.length c0_1] 24 (0, 0))) ∧ (w'.heap[s_.2.2]? = some (.cells #[.int .i64 0, .slice none 0 0] 24 (0, 0))) ∧ (w.heap.size ≤ s_.2.2) ∧ (w.heap.size ≤ s_.2.2) ∧ (gb197 ≠ s_.2.2) ∧ (s_.2.2 ≠ gb197) ∧ (Below w.heap.size w w')) ?_ ?_
         rotate_left
         ·intro hJ1_3_5
          refine join_ (σ := Value × Nat × Nat) 3 #[true, true, true, false, true, true, false, false] (fun s_ => [(58, .agg #[.int .i64 t199, s_.1]), (11, .pointer (some ⟨s_.2.1, 0, none⟩)), (12, .pointer (some ⟨s_.2.2, 0, none⟩))]) (fun s_ w' => (w'.cell? ⟨gb197, 0, none⟩ = some (.int .i64 a0_0) ∧ w'.cell? ⟨gb197, 1, none⟩ = some (.slice A0_1 l0_1.length c0_1)) ∧ (Kd.S k31 31 w' w.heap.size (fun _ => True) s_.1 t200) ∧ (w'.heap[gb197]? = some (.cells #[.int .i64 a0_0, .slice A0_1 l0_1.length c0_1] 24 (0, 0))) ∧ (w'.heap[s_.2.1]? = some (.cells #[.int .i64 0, .slice none 0 0] 24 (0, 0))) ∧ (w'.heap[s_.2.2]? = some (.cells #[.int .i64 0, .slice none 0 0] 24 (0, 0))) ∧ (w.heap.size ≤ s_.2.1) ∧ (w.heap.size ≤ s_.2.1) ∧ (gb197 ≠ s_.2.1) ∧ (s_.2.1 ≠ gb197) ∧ (s_.2.2 ≠ s_.2.1) ∧ (s_.2.1 ≠ s_.2.2) ∧ (w.heap.size ≤ s_.2.2) ∧ (w.heap.size ≤ s_.2.2) ∧ (gb197 ≠ s_.2.2) ∧ (s_.2.2 ≠ gb197) ∧ (Below w.heap.size w w')) ?_ ?_
          rotate_left
          ·intro hJ1_4_5
           refine join_ (σ := Value × Value) 4 #[true, true, true, true, false, false, false, false] (fun s_ => [(58, .agg #[.int .i64 t199, s_.1]), (60, .agg #[.int .i64 t203, s_.2])]) (fun s_ w' => (w'.cell? ⟨gb197, 0, none⟩ = some (.int .i64 a0_0) ∧ w'.cell? ⟨gb197, 1, none⟩ = some (.slice A0_1 l0_1.length c0_1)) ∧ (Kd.S k31 31 w' w.heap.size (fun k_ => some k_ ≠ (s_.2 : Value).ownBlock) s_.1 t200) ∧ (Kd.S k31 31 w' w.heap.size (fun k_ => some k_ ≠ (s_.1 : Value).ownBlock) s_.2 t204) ∧ (w'.heap[gb197]? = some (.cells #[.int .i64 a0_0, .slice A0_1 l0_1.length c0_1] 24 (0, 0))) ∧ (Below w.heap.size w w')) ?_ ?_
           rotate_left
           ·intro hJ1_3
            refine join_ (σ := Value × Nat) 4 #[true, true, true, false, true, false, false, false] (fun s_ => [(58, .agg #[.int .i64 t199, s_.1]), (11, .pointer (some ⟨s_.2, 0, none⟩))]) (fun s_ w' => (w'.cell? ⟨gb197, 0, none⟩ = some (.int .i64 a0_0) ∧ w'.cell? ⟨gb197, 1, none⟩ = some (.slice A0_1 l0_1.length c0_1)) ∧ (Kd.S k31 31 w' w.heap.size (fun _ => True) s_.1 t200) ∧ (w'.heap[gb197]? = some (.cells #[.int .i64 a0_0, .slice A0_1 l0_1.length c0_1] 24 (0, 0))) ∧ (w'.heap[s_.2]? = some (.cells #[.int .i64 0, .slice none 0 0] 24 (0, 0))) ∧ (w.heap.size ≤ s_.2) ∧ (w.heap.size ≤ s_.2) ∧ (gb197 ≠ s_.2) ∧ (s_.2 ≠ gb197) ∧ (Below w.heap.size w w')) ?_ ?_
            rotate_left
            ·intro hJ1_4
             refine join_ (σ := Value × Nat) 4 #[true, true, true, false, false, true, false, false] (fun s_ => [(58, .agg #[.int .i64 t199, s_.1]), (12, .pointer (some ⟨s_.2, 0, none⟩))]) (fun s_ w' => (w'.cell? ⟨gb197, 0, none⟩ = some (.int .i64 a0_0) ∧ w'.cell? ⟨gb197, 1, none⟩ = some (.slice A0_1 l0_1.length c0_1)) ∧ (Kd.S k31 31 w' w.heap.size (fun _ => True) s_.1 t200) ∧ (w'.heap[gb197]? = some (.cells #[.int .i64 a0_0, .slice A0_1 l0_1.length c0_1] 24 (0, 0))) ∧ (w'.heap[s_.2]? = some (.cells #[.int .i64 0, .slice none 0 0] 24 (0, 0))) ∧ (w.heap.size ≤ s_.2) ∧ (w.heap.size ≤ s_.2) ∧ (gb197 ≠ s_.2) ∧ (s_.2 ≠ gb197) ∧ (Below w.heap.size w w')) ?_ ?_
             rotate_left
             ·intro hJ1_5
              refine join_ (σ := Nat × Nat) 4 #[true, false, true, false, true, true, false, false] (fun s_ => [(11, .pointer (some ⟨s_.1, 0, none⟩)), (12, .pointer (some ⟨s_.2, 0, none⟩))]) (fun s_ w' => (w'.cell? ⟨gb197, 0, none⟩ = some (.int .i64 a0_0) ∧ w'.cell? ⟨gb197, 1, none⟩ = some (.slice A0_1 l0_1.length c0_1)) ∧ (w'.heap[gb197]? = some (.cells #[.int .i64 a0_0, .slice A0_1 l0_1.length c0_1] 24 (0, 0))) ∧ (w'.heap[s_.1]? = some (.cells #[.int .i64 0, .slice none 0 0] 24 (0, 0))) ∧ (w'.heap[s_.2]? = some (.cells #[.int .i64 0, .slice none 0 0] 24 (0, 0))) ∧ (w.heap.size ≤ s_.1) ∧ (w.heap.size ≤ s_.1) ∧ (gb197 ≠ s_.1) ∧ (s_.1 ≠ gb197) ∧ (s_.2 ≠ s_.1) ∧ (s_.1 ≠ s_.2) ∧ (w.heap.size ≤ s_.2) ∧ (w.heap.size ≤ s_.2) ∧ (gb197 ≠ s_.2) ∧ (s_.2 ≠ gb197) ∧ (Below w.heap.size w w')) ?_ ?_
              rotate_left
              ·intro hJ4_5
               refine join_ (σ := Value) 5 #[true, true, true, false, false, false, false, false] (fun s_ => [(58, .agg #[.int .i64 t199, s_])]) (fun s_ w' => (w'.cell? ⟨gb197, 0, none⟩ = some (.int .i64 a0_0) ∧ w'.cell? ⟨gb197, 1, none⟩ = some (.slice A0_1 l0_1.length c0_1)) ∧ (Kd.S k31 31 w' w.heap.size (fun _ => True) s_ t200) ∧ (w'.heap[gb197]? = some (.cells #[.int .i64 a0_0, .slice A0_1 l0_1.length c0_1] 24 (0, 0))) ∧ (Below w.heap.size w w')) ?_ ?_
               rotate_left
               ·intro hJ1
                refine join_ (σ := Nat) 5 #[true, false, true, false, true, false, false, false] (fun s_ => [(11, .pointer (some ⟨s_, 0, none⟩))]) (fun s_ w' => (w'.cell? ⟨gb197, 0, none⟩ = some (.int .i64 a0_0) ∧ w'.cell? ⟨gb197, 1, none⟩ = some (.slice A0_1 l0_1.length c0_1)) ∧ (w'.heap[gb197]? = some (.cells #[.int .i64 a0_0, .slice A0_1 l0_1.length c0_1] 24 (0, 0))) ∧ (w'.heap[s_]? = some (.cells #[.int .i64 0, .slice none 0 0] 24 (0, 0))) ∧ (w.heap.size ≤ s_) ∧ (w.heap.size ≤ s_) ∧ (gb197 ≠ s_) ∧ (s_ ≠ gb197) ∧ (Below w.heap.size w w')) ?_ ?_
                rotate_left
                ·intro hJ4
                 refine join_ (σ := Nat) 5 #[true, false, true, false, false, true, false, false] (fun s_ => [(12, .pointer (some ⟨s_, 0, none⟩))]) (fun s_ w' => (w'.cell? ⟨gb197, 0, none⟩ = some (.int .i64 a0_0) ∧ w'.cell? ⟨gb197, 1, none⟩ = some (.slice A0_1 l0_1.length c0_1)) ∧ (w'.heap[gb197]? = some (.cells #[.int .i64 a0_0, .slice A0_1 l0_1.length c0_1] 24 (0, 0))) ∧ (w'.heap[s_]? = some (.cells #[.int .i64 0, .slice none 0 0] 24 (0, 0))) ∧ (w.heap.size ≤ s_) ∧ (w.heap.size ≤ s_) ∧ (gb197 ≠ s_) ∧ (s_ ≠ gb197) ∧ (Below w.heap.size w w')) ?_ ?_
                 rotate_left
                 ·intro hJ5
                  refine three_ (i := 1) (j := 4) (k := 5) (Ni := some 58) (Nj := some 11) (Nk := some 12) #[true, true, true, false, false, false, false, false] #[true, false, true, false, true, false, false, false] #[true, false, true, false, false, true, false, false] rfl rfl rfl rfl rfl rfl (three_of HT_.out (by kernel_rfl)) (by decide) (by decide) (by decide) (fun K hK => ?_) (fun K hK => ?_) (fun K hK => ?_)
                  ·skip
                   refine goes_ Try.func14 (by kernel_rfl) rfl #[.agg #[.int .i64 a0_0, .slice A0_1 l0_1.length c0_1]] (by rfl) rfl rfl (by (try simp only [List.map_toArray, List.map_cons, List.map_nil]); first | done | rfl | (simp only [List.length_drop, List.length_take]; rfl)) ?_
                   with_reducible refine (taskmasterref5_Put.calls kj5 a0_0 _ _ l0_1 t199 t200 _ ?side1 ?side2 A40.out).mono ?_
                   (case side1 => repeat (first | exact (Kd.C_below HR0_1.out HB.out) | (with_reducible refine Kd.C_alloc ?_ _) | (with_reducible refine Kd.C_drewN ?_ _) | (with_reducible refine Kd.C_drew ?_)))
                   (case side2 => exact HC0_1.out)
                   rintro e w60 ⟨v201, rfl, ho0, hb⟩
                   refine ⟨_, rfl, ?_⟩
                   have n0_ := Aside0.mk (Kd.S_lower ho0 (below_size (by repeat (first | (with_reducible first | exact HB.out | apply below_alloc | apply pw_below_drewN | apply below_drew1 | refine below_set ?_ GE197.out) | exact HB.out))))
                   have n1_ := Aside0.mk (blk_below (g := gb197) (o := .cells #[.int .i64 a0_0, .slice A0_1 l0_1.length c0_1] 24 (0, 0)) (by (with_reducible repeat (first | refine blk_drewN ?_ _ | refine blk_drew ?_ | refine blk_alloc ?_ _)); exact BK197.out) hb)
                   have n2_ := Aside0.mk (below_step (by repeat (first | (with_reducible first | exact HB.out | apply below_alloc | apply pw_below_drewN | apply below_drew1 | refine below_set ?_ GE197.out) | exact HB.out)) hb)
                   clear BK197; clear HB
                   have HO202 := n0_
                   have BK197 := n1_
                   have HB := n2_
                   clear n0_ n1_ n2_
                   (try clear hb)
                   (try clear hb2)
                   (try clear hk)
                   (try clear hi)
                   (try clear ho0)
                   refine hK.out _ _ ⟨(blk_cell BK197.out 0).trans rfl, (blk_cell BK197.out 1).trans rfl⟩ (fun hHeld => ?_)
                   clear hK K
                   refine norm_ (a' := ?_) ?_ ?_
                   rotate_left
                   ·show Act.put _ (some 58) _ = _
                    simp only [Act.put, List.setIfInBounds_toArray, List.set_cons_zero, List.set_cons_succ, i64_w, i32_w]; rfl
                   exact norm_ (by first | (simp only [putAll, Act.put, List.setIfInBounds_toArray, List.set_cons_zero, List.set_cons_succ]; done) | (simp only [putAll, Act.put, List.setIfInBounds_toArray, List.set_cons_zero, List.set_cons_succ]; rfl)) (hJ1 (v201) _ ⟨hHeld, (by (with_reducible repeat (first | apply Kd.S_alloc | apply Kd.S_drewN | apply Kd.S_drew)); exact HO202.out), (by (with_reducible repeat (first | refine blk_drewN ?_ _ | refine blk_drew ?_ | refine blk_alloc ?_ _)); exact BK197.out), (by repeat (first | (with_reducible first | exact HB.out | apply below_alloc | apply pw_below_drewN | apply below_drew1 | refine below_set ?_ GE197.out) | exact HB.out))⟩)
                  ·skip
                   refine box_step ?hg (N := 11) ?hd (cs := #[.int .i64 0, .slice none 0 0]) (t := 24) ?hr ?_; (case hd => rfl); (case hg => rfl); (case hr => first | (go_simp; done) | (go_simp; rfl))
                   intro gb207 hg w60 hbox hb
                   have n0_ := Aside0.mk (blk_below (g := gb197) (o := .cells #[.int .i64 a0_0, .slice A0_1 l0_1.length c0_1] 24 (0, 0)) (by (with_reducible repeat (first | refine blk_drewN ?_ _ | refine blk_drew ?_ | refine blk_alloc ?_ _)); exact BK197.out) hb)
                   have n1_ := Aside0.mk (below_step (by repeat (first | (with_reducible first | exact HB.out | apply below_alloc | apply pw_below_drewN | apply below_drew1 | refine below_set ?_ GE197.out) | exact HB.out)) hb)
                   have n2_ := Aside0.mk (hbox)
                   have n3_ := Aside0.mk ((by rw [hg]; exact (below_size (by repeat (first | (with_reducible first | exact HB.out | apply below_alloc | apply pw_below_drewN | apply below_drew1 | refine below_set ?_ GE197.out) | exact HB.out))) : w.heap.size ≤ gb207))
                   have n4_ := Aside0.mk ((by rw [hg]; exact (below_size (by repeat (first | (with_reducible first | exact HB.out | apply below_alloc | apply pw_below_drewN | apply below_drew1 | refine below_set ?_ GE197.out) | exact HB.out))) : w.heap.size ≤ gb207))
                   have n5_ := Aside0.mk ((by rw [hg]; exact Nat.ne_of_lt (blk_lt (g := gb197) (o := .cells #[.int .i64 a0_0, .slice A0_1 l0_1.length c0_1] 24 (0, 0)) (by (with_reducible repeat (first | refine blk_drewN ?_ _ | refine blk_drew ?_ | refine blk_alloc ?_ _)); exact BK197.out)) : gb197 ≠ gb207))
                   have n6_ := Aside0.mk ((by rw [hg]; exact Nat.ne_of_gt (blk_lt (g := gb197) (o := .cells #[.int .i64 a0_0, .slice A0_1 l0_1.length c0_1] 24 (0, 0)) (by (with_reducible repeat (first | refine blk_drewN ?_ _ | refine blk_drew ?_ | refine blk_alloc ?_ _)); exact BK197.out)) : gb207 ≠ gb197))
                   clear BK197; clear HB
                   have BK197 := n0_
                   have HB := n1_
                   have BK207 := n2_
                   have GW207 := n3_
                   have GE207 := n4_
                   have NB197_207 := n5_
                   have NB207_197 := n6_
                   clear n0_ n1_ n2_ n3_ n4_ n5_ n6_; clear hb hbox hg
                   refine hK.out _ _ ⟨(blk_cell BK197.out 0).trans rfl, (blk_cell BK197.out 1).trans rfl⟩ (fun hHeld => ?_)
                   clear hK K
                   refine norm_ (a' := ?_) ?_ ?_
                   rotate_left
                   ·show Act.put _ (some 11) _ = _
                    simp only [Act.put, List.setIfInBounds_toArray, List.set_cons_zero, List.set_cons_succ, i64_w, i32_w]; rfl
                   exact norm_ (by first | (simp only [putAll, Act.put, List.setIfInBounds_toArray, List.set_cons_zero, List.set_cons_succ]; done) | (simp only [putAll, Act.put, List.setIfInBounds_toArray, List.set_cons_zero, List.set_cons_succ]; rfl)) (hJ4 (gb207) _ ⟨hHeld, (by (with_reducible repeat (first | refine blk_drewN ?_ _ | refine blk_drew ?_ | refine blk_alloc ?_ _)); exact BK197.out), (by (with_reducible repeat (first | refine blk_drewN ?_ _ | refine blk_drew ?_ | refine blk_alloc ?_ _)); exact BK207.out), GW207.out, GE207.out, NB197_207.out, NB207_197.out, (by repeat (first | (with_reducible first | exact HB.out | apply below_alloc | apply pw_below_drewN | apply below_drew1 | refine below_set ?_ GE197.out | refine below_set ?_ GE207.out) | exact HB.out))⟩)
                  ·skip
                   refine box_step ?hg (N := 12) ?hd (cs := #[.int .i64 0, .slice none 0 0]) (t := 24) ?hr ?_; (case hd => rfl); (case hg => rfl); (case hr => first | (go_simp; done) | (go_simp; rfl))
                   intro gb208 hg w60 hbox hb
                   have n0_ := Aside0.mk (blk_below (g := gb197) (o := .cells #[.int .i64 a0_0, .slice A0_1 l0_1.length c0_1] 24 (0, 0)) (by (with_reducible repeat (first | refine blk_drewN ?_ _ | refine blk_drew ?_ | refine blk_alloc ?_ _)); exact BK197.out) hb)
                   have n1_ := Aside0.mk (below_step (by repeat (first | (with_reducible first | exact HB.out | apply below_alloc | apply pw_below_drewN | apply below_drew1 | refine below_set ?_ GE197.out) | exact HB.out)) hb)
                   have n2_ := Aside0.mk (hbox)
                   have n3_ := Aside0.mk ((by rw [hg]; exact (below_size (by repeat (first | (with_reducible first | exact HB.out | apply below_alloc | apply pw_below_drewN | apply below_drew1 | refine below_set ?_ GE197.out) | exact HB.out))) : w.heap.size ≤ gb208))
                   have n4_ := Aside0.mk ((by rw [hg]; exact (below_size (by repeat (first | (with_reducible first | exact HB.out | apply below_alloc | apply pw_below_drewN | apply below_drew1 | refine below_set ?_ GE197.out) | exact HB.out))) : w.heap.size ≤ gb208))
                   have n5_ := Aside0.mk ((by rw [hg]; exact Nat.ne_of_lt (blk_lt (g := gb197) (o := .cells #[.int .i64 a0_0, .slice A0_1 l0_1.length c0_1] 24 (0, 0)) (by (with_reducible repeat (first | refine blk_drewN ?_ _ | refine blk_drew ?_ | refine blk_alloc ?_ _)); exact BK197.out)) : gb197 ≠ gb208))
                   have n6_ := Aside0.mk ((by rw [hg]; exact Nat.ne_of_gt (blk_lt (g := gb197) (o := .cells #[.int .i64 a0_0, .slice A0_1 l0_1.length c0_1] 24 (0, 0)) (by (with_reducible repeat (first | refine blk_drewN ?_ _ | refine blk_drew ?_ | refine blk_alloc ?_ _)); exact BK197.out)) : gb208 ≠ gb197))
                   clear BK197; clear HB
                   have BK197 := n0_
                   have HB := n1_
                   have BK208 := n2_
                   have GW208 := n3_
                   have GE208 := n4_
                   have NB197_208 := n5_
                   have NB208_197 := n6_
                   clear n0_ n1_ n2_ n3_ n4_ n5_ n6_; clear hb hbox hg
                   refine hK.out _ _ ⟨(blk_cell BK197.out 0).trans rfl, (blk_cell BK197.out 1).trans rfl⟩ (fun hHeld => ?_)
                   clear hK K
                   refine norm_ (a' := ?_) ?_ ?_
                   rotate_left
                   ·show Act.put _ (some 12) _ = _
                    simp only [Act.put, List.setIfInBounds_toArray, List.set_cons_zero, List.set_cons_succ, i64_w, i32_w]; rfl
                   exact norm_ (by first | (simp only [putAll, Act.put, List.setIfInBounds_toArray, List.set_cons_zero, List.set_cons_succ]; done) | (simp only [putAll, Act.put, List.setIfInBounds_toArray, List.set_cons_zero, List.set_cons_succ]; rfl)) (hJ5 (gb208) _ ⟨hHeld, (by (with_reducible repeat (first | refine blk_drewN ?_ _ | refine blk_drew ?_ | refine blk_alloc ?_ _)); exact BK197.out), (by (with_reducible repeat (first | refine blk_drewN ?_ _ | refine blk_drew ?_ | refine blk_alloc ?_ _)); exact BK208.out), GW208.out, GE208.out, NB197_208.out, NB208_197.out, (by repeat (first | (with_reducible first | exact HB.out | apply below_alloc | apply pw_below_drewN | apply below_drew1 | refine below_set ?_ GE197.out | refine below_set ?_ GE208.out) | exact HB.out))⟩)
                 ·skip
                  rintro gb208 w61 ⟨hS_, h0_, h1_, h2_, h3_, h4_, h5_, h6_⟩
                  have n0_ : Aside0 (w61.heap[gb197]? = some (.cells #[.int .i64 a0_0, .slice A0_1 l0_1.length c0_1] 24 (0, 0))) := ⟨h0_⟩
                  have n1_ : Aside0 (w61.heap[gb208]? = some (.cells #[.int .i64 0, .slice none 0 0] 24 (0, 0))) := ⟨h1_⟩
                  have n2_ : Aside0 (w.heap.size ≤ gb208) := ⟨h2_⟩
                  have n3_ : Aside0 (w.heap.size ≤ gb208) := ⟨h3_⟩
                  have n4_ : Aside0 (gb197 ≠ gb208) := ⟨h4_⟩
                  have n5_ : Aside0 (gb208 ≠ gb197) := ⟨h5_⟩
                  have n6_ : Aside0 (Below w.heap.size w w61) := ⟨h6_⟩
                  clear BK197; clear HB; clear h0_ h1_ h2_ h3_ h4_ h5_ h6_
                  have BK197 := n0_
                  have BK208 := n1_
                  have GW208 := n2_
                  have GE208 := n3_
                  have NB197_208 := n4_
                  have NB208_197 := n5_
                  have HB := n6_
                  clear n0_ n1_ n2_ n3_ n4_ n5_ n6_
                  have hHeld : w61.cell? ⟨gb197, 0, none⟩ = some (.int .i64 a0_0) ∧ w61.cell? ⟨gb197, 1, none⟩ = some (.slice A0_1 l0_1.length c0_1) := hS_
                  refine norm_ (a' := ?_) ?_ ?_
                  rotate_left; · simp only [putAll, Act.put, List.setIfInBounds_toArray, List.set_cons_zero, List.set_cons_succ]; rfl
                  refine two_ (i := 1) (j := 4) (Ni := some 58) (Nj := some 11) #[true, true, true, false, false, true, false, false] #[true, false, true, false, true, true, false, false] rfl rfl rfl rfl (two_of HT_.out (by kernel_rfl)) (by decide) (by decide) (fun K hK => ?_) (fun K hK => ?_)
                  ·skip
                   refine goes_ Try.func14 (by kernel_rfl) rfl #[.agg #[.int .i64 a0_0, .slice A0_1 l0_1.length c0_1]] (by rfl) rfl rfl (by (try simp only [List.map_toArray, List.map_cons, List.map_nil]); first | done | rfl | (simp only [List.length_drop, List.length_take]; rfl)) ?_
                   with_reducible refine (taskmasterref5_Put.calls kj5 a0_0 _ _ l0_1 t199 t200 _ ?side1 ?side2 A40.out).mono ?_
                   (case side1 => repeat (first | exact (Kd.C_below HR0_1.out HB.out) | (with_reducible refine Kd.C_alloc ?_ _) | (with_reducible refine Kd.C_drewN ?_ _) | (with_reducible refine Kd.C_drew ?_)))
                   (case side2 => exact HC0_1.out)
                   rintro e w62 ⟨v201, rfl, ho0, hb⟩
                   refine ⟨_, rfl, ?_⟩
                   have n0_ := Aside0.mk (Kd.S_lower ho0 (below_size (by repeat (first | (with_reducible first | exact HB.out | apply below_alloc | apply pw_below_drewN | apply below_drew1 | refine below_set ?_ GE197.out | refine below_set ?_ GE208.out) | exact HB.out))))
                   have n1_ := Aside0.mk (blk_below (g := gb197) (o := .cells #[.int .i64 a0_0, .slice A0_1 l0_1.length c0_1] 24 (0, 0)) (by (with_reducible repeat (first | refine blk_drewN ?_ _ | refine blk_drew ?_ | refine blk_alloc ?_ _)); exact BK197.out) hb)
                   have n2_ := Aside0.mk (blk_below (g := gb208) (o := .cells #[.int .i64 0, .slice none 0 0] 24 (0, 0)) (by (with_reducible repeat (first | refine blk_drewN ?_ _ | refine blk_drew ?_ | refine blk_alloc ?_ _)); exact BK208.out) hb)
                   have n3_ := Aside0.mk (below_step (by repeat (first | (with_reducible first | exact HB.out | apply below_alloc | apply pw_below_drewN | apply below_drew1 | refine below_set ?_ GE197.out | refine below_set ?_ GE208.out) | exact HB.out)) hb)
                   clear BK197; clear BK208; clear HB
                   have HO202 := n0_
                   have BK197 := n1_
                   have BK208 := n2_
                   have HB := n3_
                   clear n0_ n1_ n2_ n3_
                   (try clear hb)
                   (try clear hb2)
                   (try clear hk)
                   (try clear hi)
                   (try clear ho0)
                   refine hK.out _ _ ⟨(blk_cell BK197.out 0).trans rfl, (blk_cell BK197.out 1).trans rfl⟩ (fun hHeld => ?_)
                   clear hK K
                   refine norm_ (a' := ?_) ?_ ?_
                   rotate_left
                   ·show Act.put _ (some 58) _ = _
                    simp only [Act.put, List.setIfInBounds_toArray, List.set_cons_zero, List.set_cons_succ, i64_w, i32_w]; rfl
                   exact norm_ (by first | (simp only [putAll, Act.put, List.setIfInBounds_toArray, List.set_cons_zero, List.set_cons_succ]; done) | (simp only [putAll, Act.put, List.setIfInBounds_toArray, List.set_cons_zero, List.set_cons_succ]; rfl)) (hJ1_5 (v201, gb208) _ ⟨hHeld, (by (with_reducible repeat (first | apply Kd.S_alloc | apply Kd.S_drewN | apply Kd.S_drew)); exact HO202.out), (by (with_reducible repeat (first | refine blk_drewN ?_ _ | refine blk_drew ?_ | refine blk_alloc ?_ _)); exact BK197.out), (by (with_reducible repeat (first | refine blk_drewN ?_ _ | refine blk_drew ?_ | refine blk_alloc ?_ _)); exact BK208.out), GW208.out, GE208.out, NB197_208.out, NB208_197.out, (by repeat (first | (with_reducible first | exact HB.out | apply below_alloc | apply pw_below_drewN | apply below_drew1 | refine below_set ?_ GE197.out | refine below_set ?_ GE208.out) | exact HB.out))⟩)
                  ·skip
                   refine box_step ?hg (N := 11) ?hd (cs := #[.int .i64 0, .slice none 0 0]) (t := 24) ?hr ?_; (case hd => rfl); (case hg => rfl); (case hr => first | (go_simp; done) | (go_simp; rfl))
                   intro gb207 hg w62 hbox hb
                   have n0_ := Aside0.mk (blk_below (g := gb197) (o := .cells #[.int .i64 a0_0, .slice A0_1 l0_1.length c0_1] 24 (0, 0)) (by (with_reducible repeat (first | refine blk_drewN ?_ _ | refine blk_drew ?_ | refine blk_alloc ?_ _)); exact BK197.out) hb)
                   have n1_ := Aside0.mk (blk_below (g := gb208) (o := .cells #[.int .i64 0, .slice none 0 0] 24 (0, 0)) (by (with_reducible repeat (first | refine blk_drewN ?_ _ | refine blk_drew ?_ | refine blk_alloc ?_ _)); exact BK208.out) hb)
                   have n2_ := Aside0.mk (below_step (by repeat (first | (with_reducible first | exact HB.out | apply below_alloc | apply pw_below_drewN | apply below_drew1 | refine below_set ?_ GE197.out | refine below_set ?_ GE208.out) | exact HB.out)) hb)
                   have n3_ := Aside0.mk (hbox)
                   have n4_ := Aside0.mk ((by rw [hg]; exact (below_size (by repeat (first | (with_reducible first | exact HB.out | apply below_alloc | apply pw_below_drewN | apply below_drew1 | refine below_set ?_ GE197.out | refine below_set ?_ GE208.out) | exact HB.out))) : w.heap.size ≤ gb207))
                   have n5_ := Aside0.mk ((by rw [hg]; exact (below_size (by repeat (first | (with_reducible first | exact HB.out | apply below_alloc | apply pw_below_drewN | apply below_drew1 | refine below_set ?_ GE197.out | refine below_set ?_ GE208.out) | exact HB.out))) : w.heap.size ≤ gb207))
                   have n6_ := Aside0.mk ((by rw [hg]; exact Nat.ne_of_lt (blk_lt (g := gb197) (o := .cells #[.int .i64 a0_0, .slice A0_1 l0_1.length c0_1] 24 (0, 0)) (by (with_reducible repeat (first | refine blk_drewN ?_ _ | refine blk_drew ?_ | refine blk_alloc ?_ _)); exact BK197.out)) : gb197 ≠ gb207))
                   have n7_ := Aside0.mk ((by rw [hg]; exact Nat.ne_of_gt (blk_lt (g := gb197) (o := .cells #[.int .i64 a0_0, .slice A0_1 l0_1.length c0_1] 24 (0, 0)) (by (with_reducible repeat (first | refine blk_drewN ?_ _ | refine blk_drew ?_ | refine blk_alloc ?_ _)); exact BK197.out)) : gb207 ≠ gb197))
                   have n8_ := Aside0.mk ((by rw [hg]; exact Nat.ne_of_lt (blk_lt (g := gb208) (o := .cells #[.int .i64 0, .slice none 0 0] 24 (0, 0)) (by (with_reducible repeat (first | refine blk_drewN ?_ _ | refine blk_drew ?_ | refine blk_alloc ?_ _)); exact BK208.out)) : gb208 ≠ gb207))
                   have n9_ := Aside0.mk ((by rw [hg]; exact Nat.ne_of_gt (blk_lt (g := gb208) (o := .cells #[.int .i64 0, .slice none 0 0] 24 (0, 0)) (by (with_reducible repeat (first | refine blk_drewN ?_ _ | refine blk_drew ?_ | refine blk_alloc ?_ _)); exact BK208.out)) : gb207 ≠ gb208))
                   clear BK197; clear BK208; clear HB
                   have BK197 := n0_
                   have BK208 := n1_
                   have HB := n2_
                   have BK207 := n3_
                   have GW207 := n4_
                   have GE207 := n5_
                   have NB197_207 := n6_
                   have NB207_197 := n7_
                   have NB208_207 := n8_
                   have NB207_208 := n9_
                   clear n0_ n1_ n2_ n3_ n4_ n5_ n6_ n7_ n8_ n9_; clear hb hbox hg
                   refine hK.out _ _ ⟨(blk_cell BK197.out 0).trans rfl, (blk_cell BK197.out 1).trans rfl⟩ (fun hHeld => ?_)
                   clear hK K
                   refine norm_ (a' := ?_) ?_ ?_
                   rotate_left
                   ·show Act.put _ (some 11) _ = _
                    simp only [Act.put, List.setIfInBounds_toArray, List.set_cons_zero, List.set_cons_succ, i64_w, i32_w]; rfl
                   exact norm_ (by first | (simp only [putAll, Act.put, List.setIfInBounds_toArray, List.set_cons_zero, List.set_cons_succ]; done) | (simp only [putAll, Act.put, List.setIfInBounds_toArray, List.set_cons_zero, List.set_cons_succ]; rfl)) (hJ4_5 (gb207, gb208) _ ⟨hHeld, (by (with_reducible repeat (first | refine blk_drewN ?_ _ | refine blk_drew ?_ | refine blk_alloc ?_ _)); exact BK197.out), (by (with_reducible repeat (first | refine blk_drewN ?_ _ | refine blk_drew ?_ | refine blk_alloc ?_ _)); exact BK207.out), (by (with_reducible repeat (first | refine blk_drewN ?_ _ | refine blk_drew ?_ | refine blk_alloc ?_ _)); exact BK208.out), GW207.out, GE207.out, NB197_207.out, NB207_197.out, NB208_207.out, NB207_208.out, GW208.out, GE208.out, NB197_208.out, NB208_197.out, (by repeat (first | (with_reducible first | exact HB.out | apply below_alloc | apply pw_below_drewN | apply below_drew1 | refine below_set ?_ GE197.out | refine below_set ?_ GE208.out | refine below_set ?_ GE207.out) | exact HB.out))⟩)
                ·skip
                 rintro gb207 w61 ⟨hS_, h0_, h1_, h2_, h3_, h4_, h5_, h6_⟩
                 have n0_ : Aside0 (w61.heap[gb197]? = some (.cells #[.int .i64 a0_0, .slice A0_1 l0_1.length c0_1] 24 (0, 0))) := ⟨h0_⟩
                 have n1_ : Aside0 (w61.heap[gb207]? = some (.cells #[.int .i64 0, .slice none 0 0] 24 (0, 0))) := ⟨h1_⟩
                 have n2_ : Aside0 (w.heap.size ≤ gb207) := ⟨h2_⟩
                 have n3_ : Aside0 (w.heap.size ≤ gb207) := ⟨h3_⟩
                 have n4_ : Aside0 (gb197 ≠ gb207) := ⟨h4_⟩
                 have n5_ : Aside0 (gb207 ≠ gb197) := ⟨h5_⟩
                 have n6_ : Aside0 (Below w.heap.size w w61) := ⟨h6_⟩
                 clear BK197; clear HB; clear h0_ h1_ h2_ h3_ h4_ h5_ h6_
                 have BK197 := n0_
                 have BK207 := n1_
                 have GW207 := n2_
                 have GE207 := n3_
                 have NB197_207 := n4_
                 have NB207_197 := n5_
                 have HB := n6_
                 clear n0_ n1_ n2_ n3_ n4_ n5_ n6_
                 have hHeld : w61.cell? ⟨gb197, 0, none⟩ = some (.int .i64 a0_0) ∧ w61.cell? ⟨gb197, 1, none⟩ = some (.slice A0_1 l0_1.length c0_1) := hS_
                 refine norm_ (a' := ?_) ?_ ?_
                 rotate_left; · simp only [putAll, Act.put, List.setIfInBounds_toArray, List.set_cons_zero, List.set_cons_succ]; rfl
                 refine two_ (i := 1) (j := 5) (Ni := some 58) (Nj := some 12) #[true, true, true, false, true, false, false, false] #[true, false, true, false, true, true, false, false] rfl rfl rfl rfl (two_of HT_.out (by kernel_rfl)) (by decide) (by decide) (fun K hK => ?_) (fun K hK => ?_)
                 ·skip
                  refine goes_ Try.func14 (by kernel_rfl) rfl #[.agg #[.int .i64 a0_0, .slice A0_1 l0_1.length c0_1]] (by rfl) rfl rfl (by (try simp only [List.map_toArray, List.map_cons, List.map_nil]); first | done | rfl | (simp only [List.length_drop, List.length_take]; rfl)) ?_
                  with_reducible refine (taskmasterref5_Put.calls kj5 a0_0 _ _ l0_1 t199 t200 _ ?side1 ?side2 A40.out).mono ?_
                  (case side1 => repeat (first | exact (Kd.C_below HR0_1.out HB.out) | (with_reducible refine Kd.C_alloc ?_ _) | (with_reducible refine Kd.C_drewN ?_ _) | (with_reducible refine Kd.C_drew ?_)))
                  (case side2 => exact HC0_1.out)
                  rintro e w62 ⟨v201, rfl, ho0, hb⟩
                  refine ⟨_, rfl, ?_⟩
                  have n0_ := Aside0.mk (Kd.S_lower ho0 (below_size (by repeat (first | (with_reducible first | exact HB.out | apply below_alloc | apply pw_below_drewN | apply below_drew1 | refine below_set ?_ GE197.out | refine below_set ?_ GE207.out) | exact HB.out))))
                  have n1_ := Aside0.mk (blk_below (g := gb197) (o := .cells #[.int .i64 a0_0, .slice A0_1 l0_1.length c0_1] 24 (0, 0)) (by (with_reducible repeat (first | refine blk_drewN ?_ _ | refine blk_drew ?_ | refine blk_alloc ?_ _)); exact BK197.out) hb)
                  have n2_ := Aside0.mk (blk_below (g := gb207) (o := .cells #[.int .i64 0, .slice none 0 0] 24 (0, 0)) (by (with_reducible repeat (first | refine blk_drewN ?_ _ | refine blk_drew ?_ | refine blk_alloc ?_ _)); exact BK207.out) hb)
                  have n3_ := Aside0.mk (below_step (by repeat (first | (with_reducible first | exact HB.out | apply below_alloc | apply pw_below_drewN | apply below_drew1 | refine below_set ?_ GE197.out | refine below_set ?_ GE207.out) | exact HB.out)) hb)
                  clear BK197; clear BK207; clear HB
                  have HO202 := n0_
                  have BK197 := n1_
                  have BK207 := n2_
                  have HB := n3_
                  clear n0_ n1_ n2_ n3_
                  (try clear hb)
                  (try clear hb2)
                  (try clear hk)
                  (try clear hi)
                  (try clear ho0)
                  refine hK.out _ _ ⟨(blk_cell BK197.out 0).trans rfl, (blk_cell BK197.out 1).trans rfl⟩ (fun hHeld => ?_)
                  clear hK K
                  refine norm_ (a' := ?_) ?_ ?_
                  rotate_left
                  ·show Act.put _ (some 58) _ = _
                   simp only [Act.put, List.setIfInBounds_toArray, List.set_cons_zero, List.set_cons_succ, i64_w, i32_w]; rfl
                  exact norm_ (by first | (simp only [putAll, Act.put, List.setIfInBounds_toArray, List.set_cons_zero, List.set_cons_succ]; done) | (simp only [putAll, Act.put, List.setIfInBounds_toArray, List.set_cons_zero, List.set_cons_succ]; rfl)) (hJ1_4 (v201, gb207) _ ⟨hHeld, (by (with_reducible repeat (first | apply Kd.S_alloc | apply Kd.S_drewN | apply Kd.S_drew)); exact HO202.out), (by (with_reducible repeat (first | refine blk_drewN ?_ _ | refine blk_drew ?_ | refine blk_alloc ?_ _)); exact BK197.out), (by (with_reducible repeat (first | refine blk_drewN ?_ _ | refine blk_drew ?_ | refine blk_alloc ?_ _)); exact BK207.out), GW207.out, GE207.out, NB197_207.out, NB207_197.out, (by repeat (first | (with_reducible first | exact HB.out | apply below_alloc | apply pw_below_drewN | apply below_drew1 | refine below_set ?_ GE197.out | refine below_set ?_ GE207.out) | exact HB.out))⟩)
                 ·skip
                  refine box_step ?hg (N := 12) ?hd (cs := #[.int .i64 0, .slice none 0 0]) (t := 24) ?hr ?_; (case hd => rfl); (case hg => rfl); (case hr => first | (go_simp; done) | (go_simp; rfl))
                  intro gb208 hg w62 hbox hb
                  have n0_ := Aside0.mk (blk_below (g := gb197) (o := .cells #[.int .i64 a0_0, .slice A0_1 l0_1.length c0_1] 24 (0, 0)) (by (with_reducible repeat (first | refine blk_drewN ?_ _ | refine blk_drew ?_ | refine blk_alloc ?_ _)); exact BK197.out) hb)
                  have n1_ := Aside0.mk (blk_below (g := gb207) (o := .cells #[.int .i64 0, .slice none 0 0] 24 (0, 0)) (by (with_reducible repeat (first | refine blk_drewN ?_ _ | refine blk_drew ?_ | refine blk_alloc ?_ _)); exact BK207.out) hb)
                  have n2_ := Aside0.mk (below_step (by repeat (first | (with_reducible first | exact HB.out | apply below_alloc | apply pw_below_drewN | apply below_drew1 | refine below_set ?_ GE197.out | refine below_set ?_ GE207.out) | exact HB.out)) hb)
                  have n3_ := Aside0.mk (hbox)
                  have n4_ := Aside0.mk ((by rw [hg]; exact (below_size (by repeat (first | (with_reducible first | exact HB.out | apply below_alloc | apply pw_below_drewN | apply below_drew1 | refine below_set ?_ GE197.out | refine below_set ?_ GE207.out) | exact HB.out))) : w.heap.size ≤ gb208))
                  have n5_ := Aside0.mk ((by rw [hg]; exact (below_size (by repeat (first | (with_reducible first | exact HB.out | apply below_alloc | apply pw_below_drewN | apply below_drew1 | refine below_set ?_ GE197.out | refine below_set ?_ GE207.out) | exact HB.out))) : w.heap.size ≤ gb208))
                  have n6_ := Aside0.mk ((by rw [hg]; exact Nat.ne_of_lt (blk_lt (g := gb197) (o := .cells #[.int .i64 a0_0, .slice A0_1 l0_1.length c0_1] 24 (0, 0)) (by (with_reducible repeat (first | refine blk_drewN ?_ _ | refine blk_drew ?_ | refine blk_alloc ?_ _)); exact BK197.out)) : gb197 ≠ gb208))
                  have n7_ := Aside0.mk ((by rw [hg]; exact Nat.ne_of_gt (blk_lt (g := gb197) (o := .cells #[.int .i64 a0_0, .slice A0_1 l0_1.length c0_1] 24 (0, 0)) (by (with_reducible repeat (first | refine blk_drewN ?_ _ | refine blk_drew ?_ | refine blk_alloc ?_ _)); exact BK197.out)) : gb208 ≠ gb197))
                  have n8_ := Aside0.mk ((by rw [hg]; exact Nat.ne_of_lt (blk_lt (g := gb207) (o := .cells #[.int .i64 0, .slice none 0 0] 24 (0, 0)) (by (with_reducible repeat (first | refine blk_drewN ?_ _ | refine blk_drew ?_ | refine blk_alloc ?_ _)); exact BK207.out)) : gb207 ≠ gb208))
                  have n9_ := Aside0.mk ((by rw [hg]; exact Nat.ne_of_gt (blk_lt (g := gb207) (o := .cells #[.int .i64 0, .slice none 0 0] 24 (0, 0)) (by (with_reducible repeat (first | refine blk_drewN ?_ _ | refine blk_drew ?_ | refine blk_alloc ?_ _)); exact BK207.out)) : gb208 ≠ gb207))
                  clear BK197; clear BK207; clear HB
                  have BK197 := n0_
                  have BK207 := n1_
                  have HB := n2_
                  have BK208 := n3_
                  have GW208 := n4_
                  have GE208 := n5_
                  have NB197_208 := n6_
                  have NB208_197 := n7_
                  have NB207_208 := n8_
                  have NB208_207 := n9_
                  clear n0_ n1_ n2_ n3_ n4_ n5_ n6_ n7_ n8_ n9_; clear hb hbox hg
                  refine hK.out _ _ ⟨(blk_cell BK197.out 0).trans rfl, (blk_cell BK197.out 1).trans rfl⟩ (fun hHeld => ?_)
                  clear hK K
                  refine norm_ (a' := ?_) ?_ ?_
                  rotate_left
                  ·show Act.put _ (some 12) _ = _
                   simp only [Act.put, List.setIfInBounds_toArray, List.set_cons_zero, List.set_cons_succ, i64_w, i32_w]; rfl
                  exact norm_ (by first | (simp only [putAll, Act.put, List.setIfInBounds_toArray, List.set_cons_zero, List.set_cons_succ]; done) | (simp only [putAll, Act.put, List.setIfInBounds_toArray, List.set_cons_zero, List.set_cons_succ]; rfl)) (hJ4_5 (gb207, gb208) _ ⟨hHeld, (by (with_reducible repeat (first | refine blk_drewN ?_ _ | refine blk_drew ?_ | refine blk_alloc ?_ _)); exact BK197.out), (by (with_reducible repeat (first | refine blk_drewN ?_ _ | refine blk_drew ?_ | refine blk_alloc ?_ _)); exact BK207.out), (by (with_reducible repeat (first | refine blk_drewN ?_ _ | refine blk_drew ?_ | refine blk_alloc ?_ _)); exact BK208.out), GW207.out, GE207.out, NB197_207.out, NB207_197.out, NB208_207.out, NB207_208.out, GW208.out, GE208.out, NB197_208.out, NB208_197.out, (by repeat (first | (with_reducible first | exact HB.out | apply below_alloc | apply pw_below_drewN | apply below_drew1 | refine below_set ?_ GE197.out | refine below_set ?_ GE207.out | refine below_set ?_ GE208.out) | exact HB.out))⟩)
               ·skip
                rintro v201 w61 ⟨hS_, h0_, h1_, h2_⟩
                have n0_ : Aside0 (Kd.S k31 31 w61 w.heap.size (fun _ => True) v201 t200) := ⟨h0_⟩
                have n1_ : Aside0 (w61.heap[gb197]? = some (.cells #[.int .i64 a0_0, .slice A0_1 l0_1.length c0_1] 24 (0, 0))) := ⟨h1_⟩
                have n2_ : Aside0 (Below w.heap.size w w61) := ⟨h2_⟩
                clear BK197; clear HB; clear h0_ h1_ h2_
                have HO202 := n0_
                have BK197 := n1_
                have HB := n2_
                clear n0_ n1_ n2_
                have hHeld : w61.cell? ⟨gb197, 0, none⟩ = some (.int .i64 a0_0) ∧ w61.cell? ⟨gb197, 1, none⟩ = some (.slice A0_1 l0_1.length c0_1) := hS_
                refine norm_ (a' := ?_) ?_ ?_
                rotate_left; · simp only [putAll, Act.put, List.setIfInBounds_toArray, List.set_cons_zero, List.set_cons_succ]; rfl
                refine three_ (i := 3) (j := 4) (k := 5) (Ni := some 60) (Nj := some 11) (Nk := some 12) #[true, true, true, true, false, false, false, false] #[true, true, true, false, true, false, false, false] #[true, true, true, false, false, true, false, false] rfl rfl rfl rfl rfl rfl (three_of HT_.out (by kernel_rfl)) (by decide) (by decide) (by decide) (fun K hK => ?_) (fun K hK => ?_) (fun K hK => ?_)
                ·skip
                 refine goes_ Try.func14 (by kernel_rfl) rfl #[.agg #[.int .i64 a0_0, .slice A0_1 l0_1.length c0_1]] (by rfl) rfl rfl (by (try simp only [List.map_toArray, List.map_cons, List.map_nil]); first | done | rfl | (simp only [List.length_drop, List.length_take]; rfl)) ?_
                 with_reducible refine (taskmasterref5_Put.calls kj5 a0_0 _ _ l0_1 t203 t204 _ ?side1 ?side2 A41.out).mono ?_
                 (case side1 => repeat (first | exact (Kd.C_below HR0_1.out HB.out) | (with_reducible refine Kd.C_alloc ?_ _) | (with_reducible refine Kd.C_drewN ?_ _) | (with_reducible refine Kd.C_drew ?_)))
                 (case side2 => exact HC0_1.out)
                 rintro e w62 ⟨v205, rfl, ho0, hb⟩
                 refine ⟨_, rfl, ?_⟩
                 have n0_ := Aside0.mk (Kd.S_elder' (by (with_reducible repeat (first | apply Kd.S_alloc | apply Kd.S_drewN | apply Kd.S_drew)); exact HO202.out) (Kd.S_base ho0) hb)
                 have n1_ := Aside0.mk (Kd.S_lower (Kd.S_new' ho0 (Kd.S_lt (by (with_reducible repeat (first | apply Kd.S_alloc | apply Kd.S_drewN | apply Kd.S_drew)); exact HO202.out))) (below_size (by repeat (first | (with_reducible first | exact HB.out | apply below_alloc | apply pw_below_drewN | apply below_drew1 | refine below_set ?_ GE197.out) | exact HB.out))))
                 have n2_ := Aside0.mk (blk_below (g := gb197) (o := .cells #[.int .i64 a0_0, .slice A0_1 l0_1.length c0_1] 24 (0, 0)) (by (with_reducible repeat (first | refine blk_drewN ?_ _ | refine blk_drew ?_ | refine blk_alloc ?_ _)); exact BK197.out) hb)
                 have n3_ := Aside0.mk (below_step (by repeat (first | (with_reducible first | exact HB.out | apply below_alloc | apply pw_below_drewN | apply below_drew1 | refine below_set ?_ GE197.out) | exact HB.out)) hb)
                 clear HO202; clear BK197; clear HB
                 have HO202 := n0_
                 have HO206 := n1_
                 have BK197 := n2_
                 have HB := n3_
                 clear n0_ n1_ n2_ n3_
                 (try clear hb)
                 (try clear hb2)
                 (try clear hk)
                 (try clear hi)
                 (try clear ho0)
                 refine hK.out _ _ ⟨(blk_cell BK197.out 0).trans rfl, (blk_cell BK197.out 1).trans rfl⟩ (fun hHeld => ?_)
                 clear hK K
                 refine norm_ (a' := ?_) ?_ ?_
                 rotate_left
                 ·show Act.put _ (some 60) _ = _
                  simp only [Act.put, List.setIfInBounds_toArray, List.set_cons_zero, List.set_cons_succ, i64_w, i32_w]; rfl
                 exact norm_ (by first | (simp only [putAll, Act.put, List.setIfInBounds_toArray, List.set_cons_zero, List.set_cons_succ]; done) | (simp only [putAll, Act.put, List.setIfInBounds_toArray, List.set_cons_zero, List.set_cons_succ]; rfl)) (hJ1_3 (v201, v205) _ ⟨hHeld, (by (with_reducible repeat (first | apply Kd.S_alloc | apply Kd.S_drewN | apply Kd.S_drew)); exact Kd.S_mono HO202.out (fun _ hk => hk.2)), (by (with_reducible repeat (first | apply Kd.S_alloc | apply Kd.S_drewN | apply Kd.S_drew)); exact Kd.S_mono HO206.out (fun _ hk => hk.2)), (by (with_reducible repeat (first | refine blk_drewN ?_ _ | refine blk_drew ?_ | refine blk_alloc ?_ _)); exact BK197.out), (by repeat (first | (with_reducible first | exact HB.out | apply below_alloc | apply pw_below_drewN | apply below_drew1 | refine below_set ?_ GE197.out) | exact HB.out))⟩)
                ·skip
                 refine box_step ?hg (N := 11) ?hd (cs := #[.int .i64 0, .slice none 0 0]) (t := 24) ?hr ?_; (case hd => rfl); (case hg => rfl); (case hr => first | (go_simp; done) | (go_simp; rfl))
                 intro gb207 hg w62 hbox hb
                 have n0_ := Aside0.mk (Kd.S_below (by (with_reducible repeat (first | apply Kd.S_alloc | apply Kd.S_drewN | apply Kd.S_drew)); exact HO202.out) hb)
                 have n1_ := Aside0.mk (blk_below (g := gb197) (o := .cells #[.int .i64 a0_0, .slice A0_1 l0_1.length c0_1] 24 (0, 0)) (by (with_reducible repeat (first | refine blk_drewN ?_ _ | refine blk_drew ?_ | refine blk_alloc ?_ _)); exact BK197.out) hb)
                 have n2_ := Aside0.mk (below_step (by repeat (first | (with_reducible first | exact HB.out | apply below_alloc | apply pw_below_drewN | apply below_drew1 | refine below_set ?_ GE197.out) | exact HB.out)) hb)
                 have n3_ := Aside0.mk (hbox)
                 have n4_ := Aside0.mk ((by rw [hg]; exact (below_size (by repeat (first | (with_reducible first | exact HB.out | apply below_alloc | apply pw_below_drewN | apply below_drew1 | refine below_set ?_ GE197.out) | exact HB.out))) : w.heap.size ≤ gb207))
                 have n5_ := Aside0.mk ((by rw [hg]; exact (below_size (by repeat (first | (with_reducible first | exact HB.out | apply below_alloc | apply pw_below_drewN | apply below_drew1 | refine below_set ?_ GE197.out) | exact HB.out))) : w.heap.size ≤ gb207))
                 have n6_ := Aside0.mk ((by rw [hg]; exact Nat.ne_of_lt (blk_lt (g := gb197) (o := .cells #[.int .i64 a0_0, .slice A0_1 l0_1.length c0_1] 24 (0, 0)) (by (with_reducible repeat (first | refine blk_drewN ?_ _ | refine blk_drew ?_ | refine blk_alloc ?_ _)); exact BK197.out)) : gb197 ≠ gb207))
                 have n7_ := Aside0.mk ((by rw [hg]; exact Nat.ne_of_gt (blk_lt (g := gb197) (o := .cells #[.int .i64 a0_0, .slice A0_1 l0_1.length c0_1] 24 (0, 0)) (by (with_reducible repeat (first | refine blk_drewN ?_ _ | refine blk_drew ?_ | refine blk_alloc ?_ _)); exact BK197.out)) : gb207 ≠ gb197))
                 clear HO202; clear BK197; clear HB
                 have HO202 := n0_
                 have BK197 := n1_
                 have HB := n2_
                 have BK207 := n3_
                 have GW207 := n4_
                 have GE207 := n5_
                 have NB197_207 := n6_
                 have NB207_197 := n7_
                 clear n0_ n1_ n2_ n3_ n4_ n5_ n6_ n7_; clear hb hbox hg
                 refine hK.out _ _ ⟨(blk_cell BK197.out 0).trans rfl, (blk_cell BK197.out 1).trans rfl⟩ (fun hHeld => ?_)
                 clear hK K
                 refine norm_ (a' := ?_) ?_ ?_
                 rotate_left
                 ·show Act.put _ (some 11) _ = _
                  simp only [Act.put, List.setIfInBounds_toArray, List.set_cons_zero, List.set_cons_succ, i64_w, i32_w]; rfl
                 exact norm_ (by first | (simp only [putAll, Act.put, List.setIfInBounds_toArray, List.set_cons_zero, List.set_cons_succ]; done) | (simp only [putAll, Act.put, List.setIfInBounds_toArray, List.set_cons_zero, List.set_cons_succ]; rfl)) (hJ1_4 (v201, gb207) _ ⟨hHeld, (by (with_reducible repeat (first | apply Kd.S_alloc | apply Kd.S_drewN | apply Kd.S_drew)); exact HO202.out), (by (with_reducible repeat (first | refine blk_drewN ?_ _ | refine blk_drew ?_ | refine blk_alloc ?_ _)); exact BK197.out), (by (with_reducible repeat (first | refine blk_drewN ?_ _ | refine blk_drew ?_ | refine blk_alloc ?_ _)); exact BK207.out), GW207.out, GE207.out, NB197_207.out, NB207_197.out, (by repeat (first | (with_reducible first | exact HB.out | apply below_alloc | apply pw_below_drewN | apply below_drew1 | refine below_set ?_ GE197.out | refine below_set ?_ GE207.out) | exact HB.out))⟩)
                ·skip
                 refine box_step ?hg (N := 12) ?hd (cs := #[.int .i64 0, .slice none 0 0]) (t := 24) ?hr ?_; (case hd => rfl); (case hg => rfl); (case hr => first | (go_simp; done) | (go_simp; rfl))
                 intro gb208 hg w62 hbox hb
                 have n0_ := Aside0.mk (Kd.S_below (by (with_reducible repeat (first | apply Kd.S_alloc | apply Kd.S_drewN | apply Kd.S_drew)); exact HO202.out) hb)
                 have n1_ := Aside0.mk (blk_below (g := gb197) (o := .cells #[.int .i64 a0_0, .slice A0_1 l0_1.length c0_1] 24 (0, 0)) (by (with_reducible repeat (first | refine blk_drewN ?_ _ | refine blk_drew ?_ | refine blk_alloc ?_ _)); exact BK197.out) hb)
                 have n2_ := Aside0.mk (below_step (by repeat (first | (with_reducible first | exact HB.out | apply below_alloc | apply pw_below_drewN | apply below_drew1 | refine below_set ?_ GE197.out) | exact HB.out)) hb)
                 have n3_ := Aside0.mk (hbox)
                 have n4_ := Aside0.mk ((by rw [hg]; exact (below_size (by repeat (first | (with_reducible first | exact HB.out | apply below_alloc | apply pw_below_drewN | apply below_drew1 | refine below_set ?_ GE197.out) | exact HB.out))) : w.heap.size ≤ gb208))
                 have n5_ := Aside0.mk ((by rw [hg]; exact (below_size (by repeat (first | (with_reducible first | exact HB.out | apply below_alloc | apply pw_below_drewN | apply below_drew1 | refine below_set ?_ GE197.out) | exact HB.out))) : w.heap.size ≤ gb208))
                 have n6_ := Aside0.mk ((by rw [hg]; exact Nat.ne_of_lt (blk_lt (g := gb197) (o := .cells #[.int .i64 a0_0, .slice A0_1 l0_1.length c0_1] 24 (0, 0)) (by (with_reducible repeat (first | refine blk_drewN ?_ _ | refine blk_drew ?_ | refine blk_alloc ?_ _)); exact BK197.out)) : gb197 ≠ gb208))
                 have n7_ := Aside0.mk ((by rw [hg]; exact Nat.ne_of_gt (blk_lt (g := gb197) (o := .cells #[.int .i64 a0_0, .slice A0_1 l0_1.length c0_1] 24 (0, 0)) (by (with_reducible repeat (first | refine blk_drewN ?_ _ | refine blk_drew ?_ | refine blk_alloc ?_ _)); exact BK197.out)) : gb208 ≠ gb197))
                 clear HO202; clear BK197; clear HB
                 have HO202 := n0_
                 have BK197 := n1_
                 have HB := n2_
                 have BK208 := n3_
                 have GW208 := n4_
                 have GE208 := n5_
                 have NB197_208 := n6_
                 have NB208_197 := n7_
                 clear n0_ n1_ n2_ n3_ n4_ n5_ n6_ n7_; clear hb hbox hg
                 refine hK.out _ _ ⟨(blk_cell BK197.out 0).trans rfl, (blk_cell BK197.out 1).trans rfl⟩ (fun hHeld => ?_)
                 clear hK K
                 refine norm_ (a' := ?_) ?_ ?_
                 rotate_left
                 ·show Act.put _ (some 12) _ = _
                  simp only [Act.put, List.setIfInBounds_toArray, List.set_cons_zero, List.set_cons_succ, i64_w, i32_w]; rfl
                 exact norm_ (by first | (simp only [putAll, Act.put, List.setIfInBounds_toArray, List.set_cons_zero, List.set_cons_succ]; done) | (simp only [putAll, Act.put, List.setIfInBounds_toArray, List.set_cons_zero, List.set_cons_succ]; rfl)) (hJ1_5 (v201, gb208) _ ⟨hHeld, (by (with_reducible repeat (first | apply Kd.S_alloc | apply Kd.S_drewN | apply Kd.S_drew)); exact HO202.out), (by (with_reducible repeat (first | refine blk_drewN ?_ _ | refine blk_drew ?_ | refine blk_alloc ?_ _)); exact BK197.out), (by (with_reducible repeat (first | refine blk_drewN ?_ _ | refine blk_drew ?_ | refine blk_alloc ?_ _)); exact BK208.out), GW208.out, GE208.out, NB197_208.out, NB208_197.out, (by repeat (first | (with_reducible first | exact HB.out | apply below_alloc | apply pw_below_drewN | apply below_drew1 | refine below_set ?_ GE197.out | refine below_set ?_ GE208.out) | exact HB.out))⟩)
              ·skip
               rintro ⟨gb207, gb208⟩ w62 ⟨hS_, h0_, h1_, h2_, h3_, h4_, h5_, h6_, h7_, h8_, h9_, h10_, h11_, h12_, h13_⟩
               have n0_ : Aside0 (w62.heap[gb197]? = some (.cells #[.int .i64 a0_0, .slice A0_1 l0_1.length c0_1] 24 (0, 0))) := ⟨h0_⟩
               have n1_ : Aside0 (w62.heap[gb207]? = some (.cells #[.int .i64 0, .slice none 0 0] 24 (0, 0))) := ⟨h1_⟩
               have n2_ : Aside0 (w62.heap[gb208]? = some (.cells #[.int .i64 0, .slice none 0 0] 24 (0, 0))) := ⟨h2_⟩
               have n3_ : Aside0 (w.heap.size ≤ gb207) := ⟨h3_⟩
               have n4_ : Aside0 (w.heap.size ≤ gb207) := ⟨h4_⟩
               have n5_ : Aside0 (gb197 ≠ gb207) := ⟨h5_⟩
               have n6_ : Aside0 (gb207 ≠ gb197) := ⟨h6_⟩
               have n7_ : Aside0 (gb208 ≠ gb207) := ⟨h7_⟩
               have n8_ : Aside0 (gb207 ≠ gb208) := ⟨h8_⟩
               have n9_ : Aside0 (w.heap.size ≤ gb208) := ⟨h9_⟩
               have n10_ : Aside0 (w.heap.size ≤ gb208) := ⟨h10_⟩
               have n11_ : Aside0 (gb197 ≠ gb208) := ⟨h11_⟩
               have n12_ : Aside0 (gb208 ≠ gb197) := ⟨h12_⟩
               have n13_ : Aside0 (Below w.heap.size w w62) := ⟨h13_⟩
               clear BK197; clear HB; clear h0_ h1_ h2_ h3_ h4_ h5_ h6_ h7_ h8_ h9_ h10_ h11_ h12_ h13_
               have BK197 := n0_
               have BK207 := n1_
               have BK208 := n2_
               have GW207 := n3_
               have GE207 := n4_
               have NB197_207 := n5_
               have NB207_197 := n6_
               have NB208_207 := n7_
               have NB207_208 := n8_
               have GW208 := n9_
               have GE208 := n10_
               have NB197_208 := n11_
               have NB208_197 := n12_
               have HB := n13_
               clear n0_ n1_ n2_ n3_ n4_ n5_ n6_ n7_ n8_ n9_ n10_ n11_ n12_ n13_
               have hHeld : w62.cell? ⟨gb197, 0, none⟩ = some (.int .i64 a0_0) ∧ w62.cell? ⟨gb197, 1, none⟩ = some (.slice A0_1 l0_1.length c0_1) := hS_
               refine norm_ (a' := ?_) ?_ ?_
               rotate_left; · simp only [putAll, Act.put, List.setIfInBounds_toArray, List.set_cons_zero, List.set_cons_succ]; rfl
               refine one_ (i := 1) (N := some 58) #[true, true, true, false, true, true, false, false] rfl rfl (one_of HT_.out (by kernel_rfl)) (by decide) (fun K hK => ?_)
               refine goes_ Try.func14 (by kernel_rfl) rfl #[.agg #[.int .i64 a0_0, .slice A0_1 l0_1.length c0_1]] (by rfl) rfl rfl (by (try simp only [List.map_toArray, List.map_cons, List.map_nil]); first | done | rfl | (simp only [List.length_drop, List.length_take]; rfl)) ?_
               with_reducible refine (taskmasterref5_Put.calls kj5 a0_0 _ _ l0_1 t199 t200 _ ?side1 ?side2 A40.out).mono ?_
               (case side1 => repeat (first | exact (Kd.C_below HR0_1.out HB.out) | (with_reducible refine Kd.C_alloc ?_ _) | (with_reducible refine Kd.C_drewN ?_ _) | (with_reducible refine Kd.C_drew ?_)))
               (case side2 => exact HC0_1.out)
               rintro e w63 ⟨v201, rfl, ho0, hb⟩
               refine ⟨_, rfl, ?_⟩
               have n0_ := Aside0.mk (Kd.S_lower ho0 (below_size (by repeat (first | (with_reducible first | exact HB.out | apply below_alloc | apply pw_below_drewN | apply below_drew1 | refine below_set ?_ GE197.out | refine below_set ?_ GE207.out | refine below_set ?_ GE208.out) | exact HB.out))))
               have n1_ := Aside0.mk (blk_below (g := gb197) (o := .cells #[.int .i64 a0_0, .slice A0_1 l0_1.length c0_1] 24 (0, 0)) (by (with_reducible repeat (first | refine blk_drewN ?_ _ | refine blk_drew ?_ | refine blk_alloc ?_ _)); exact BK197.out) hb)
               have n2_ := Aside0.mk (blk_below (g := gb207) (o := .cells #[.int .i64 0, .slice none 0 0] 24 (0, 0)) (by (with_reducible repeat (first | refine blk_drewN ?_ _ | refine blk_drew ?_ | refine blk_alloc ?_ _)); exact BK207.out) hb)
               have n3_ := Aside0.mk (blk_below (g := gb208) (o := .cells #[.int .i64 0, .slice none 0 0] 24 (0, 0)) (by (with_reducible repeat (first | refine blk_drewN ?_ _ | refine blk_drew ?_ | refine blk_alloc ?_ _)); exact BK208.out) hb)
               have n4_ := Aside0.mk (below_step (by repeat (first | (with_reducible first | exact HB.out | apply below_alloc | apply pw_below_drewN | apply below_drew1 | refine below_set ?_ GE197.out | refine below_set ?_ GE207.out | refine below_set ?_ GE208.out) | exact HB.out)) hb)
               clear BK197; clear BK207; clear BK208; clear HB
               have HO202 := n0_
               have BK197 := n1_
               have BK207 := n2_
               have BK208 := n3_
               have HB := n4_
               clear n0_ n1_ n2_ n3_ n4_
               (try clear hb)
               (try clear hb2)
               (try clear hk)
               (try clear hi)
               (try clear ho0)
               refine hK.out _ _ ⟨(blk_cell BK197.out 0).trans rfl, (blk_cell BK197.out 1).trans rfl⟩ (fun hHeld => ?_)
               clear hK K
               refine norm_ (a' := ?_) ?_ ?_
               rotate_left
               ·show Act.put _ (some 58) _ = _
                simp only [Act.put, List.setIfInBounds_toArray, List.set_cons_zero, List.set_cons_succ, i64_w, i32_w]; rfl
               exact norm_ (by first | (simp only [putAll, Act.put, List.setIfInBounds_toArray, List.set_cons_zero, List.set_cons_succ]; done) | (simp only [putAll, Act.put, List.setIfInBounds_toArray, List.set_cons_zero, List.set_cons_succ]; rfl)) (hJ1_4_5 (v201, gb207, gb208) _ ⟨hHeld, (by (with_reducible repeat (first | apply Kd.S_alloc | apply Kd.S_drewN | apply Kd.S_drew)); exact HO202.out), (by (with_reducible repeat (first | refine blk_drewN ?_ _ | refine blk_drew ?_ | refine blk_alloc ?_ _)); exact BK197.out), (by (with_reducible repeat (first | refine blk_drewN ?_ _ | refine blk_drew ?_ | refine blk_alloc ?_ _)); exact BK207.out), (by (with_reducible repeat (first | refine blk_drewN ?_ _ | refine blk_drew ?_ | refine blk_alloc ?_ _)); exact BK208.out), GW207.out, GE207.out, NB197_207.out, NB207_197.out, NB208_207.out, NB207_208.out, GW208.out, GE208.out, NB197_208.out, NB208_197.out, (by repeat (first | (with_reducible first | exact HB.out | apply below_alloc | apply pw_below_drewN | apply below_drew1 | refine below_set ?_ GE197.out | refine below_set ?_ GE207.out | refine below_set ?_ GE208.out) | exact HB.out))⟩)
             ·skip
              rintro ⟨v201, gb208⟩ w62 ⟨hS_, h0_, h1_, h2_, h3_, h4_, h5_, h6_, h7_⟩
              have n0_ : Aside0 (Kd.S k31 31 w62 w.heap.size (fun _ => True) v201 t200) := ⟨h0_⟩
              have n1_ : Aside0 (w62.heap[gb197]? = some (.cells #[.int .i64 a0_0, .slice A0_1 l0_1.length c0_1] 24 (0, 0))) := ⟨h1_⟩
              have n2_ : Aside0 (w62.heap[gb208]? = some (.cells #[.int .i64 0, .slice none 0 0] 24 (0, 0))) := ⟨h2_⟩
              have n3_ : Aside0 (w.heap.size ≤ gb208) := ⟨h3_⟩
              have n4_ : Aside0 (w.heap.size ≤ gb208) := ⟨h4_⟩
              have n5_ : Aside0 (gb197 ≠ gb208) := ⟨h5_⟩
              have n6_ : Aside0 (gb208 ≠ gb197) := ⟨h6_⟩
              have n7_ : Aside0 (Below w.heap.size w w62) := ⟨h7_⟩
              clear BK197; clear HB; clear h0_ h1_ h2_ h3_ h4_ h5_ h6_ h7_
              have HO202 := n0_
              have BK197 := n1_
              have BK208 := n2_
              have GW208 := n3_
              have GE208 := n4_
              have NB197_208 := n5_
              have NB208_197 := n6_
              have HB := n7_
              clear n0_ n1_ n2_ n3_ n4_ n5_ n6_ n7_
              have hHeld : w62.cell? ⟨gb197, 0, none⟩ = some (.int .i64 a0_0) ∧ w62.cell? ⟨gb197, 1, none⟩ = some (.slice A0_1 l0_1.length c0_1) := hS_
              refine norm_ (a' := ?_) ?_ ?_
              rotate_left; · simp only [putAll, Act.put, List.setIfInBounds_toArray, List.set_cons_zero, List.set_cons_succ]; rfl
              refine two_ (i := 3) (j := 4) (Ni := some 60) (Nj := some 11) #[true, true, true, true, false, true, false, false] #[true, true, true, false, true, true, false, false] rfl rfl rfl rfl (two_of HT_.out (by kernel_rfl)) (by decide) (by decide) (fun K hK => ?_) (fun K hK => ?_)
              ·skip
               refine goes_ Try.func14 (by kernel_rfl) rfl #[.agg #[.int .i64 a0_0, .slice A0_1 l0_1.length c0_1]] (by rfl) rfl rfl (by (try simp only [List.map_toArray, List.map_cons, List.map_nil]); first | done | rfl | (simp only [List.length_drop, List.length_take]; rfl)) ?_
               with_reducible refine (taskmasterref5_Put.calls kj5 a0_0 _ _ l0_1 t203 t204 _ ?side1 ?side2 A41.out).mono ?_
               (case side1 => repeat (first | exact (Kd.C_below HR0_1.out HB.out) | (with_reducible refine Kd.C_alloc ?_ _) | (with_reducible refine Kd.C_drewN ?_ _) | (with_reducible refine Kd.C_drew ?_)))
               (case side2 => exact HC0_1.out)
               rintro e w63 ⟨v205, rfl, ho0, hb⟩
               refine ⟨_, rfl, ?_⟩
               have n0_ := Aside0.mk (Kd.S_elder' (by (with_reducible repeat (first | apply Kd.S_alloc | apply Kd.S_drewN | apply Kd.S_drew)); exact HO202.out) (Kd.S_base ho0) hb)
               have n1_ := Aside0.mk (Kd.S_lower (Kd.S_new' ho0 (Kd.S_lt (by (with_reducible repeat (first | apply Kd.S_alloc | apply Kd.S_drewN | apply Kd.S_drew)); exact HO202.out))) (below_size (by repeat (first | (with_reducible first | exact HB.out | apply below_alloc | apply pw_below_drewN | apply below_drew1 | refine below_set ?_ GE197.out | refine below_set ?_ GE208.out) | exact HB.out))))
               have n2_ := Aside0.mk (blk_below (g := gb197) (o := .cells #[.int .i64 a0_0, .slice A0_1 l0_1.length c0_1] 24 (0, 0)) (by (with_reducible repeat (first | refine blk_drewN ?_ _ | refine blk_drew ?_ | refine blk_alloc ?_ _)); exact BK197.out) hb)
               have n3_ := Aside0.mk (blk_below (g := gb208) (o := .cells #[.int .i64 0, .slice none 0 0] 24 (0, 0)) (by (with_reducible repeat (first | refine blk_drewN ?_ _ | refine blk_drew ?_ | refine blk_alloc ?_ _)); exact BK208.out) hb)
               have n4_ := Aside0.mk (below_step (by repeat (first | (with_reducible first | exact HB.out | apply below_alloc | apply pw_below_drewN | apply below_drew1 | refine below_set ?_ GE197.out | refine below_set ?_ GE208.out) | exact HB.out)) hb)
               clear HO202; clear BK197; clear BK208; clear HB
               have HO202 := n0_
               have HO206 := n1_
               have BK197 := n2_
               have BK208 := n3_
               have HB := n4_
               clear n0_ n1_ n2_ n3_ n4_
               (try clear hb)
               (try clear hb2)
               (try clear hk)
               (try clear hi)
               (try clear ho0)
               refine hK.out _ _ ⟨(blk_cell BK197.out 0).trans rfl, (blk_cell BK197.out 1).trans rfl⟩ (fun hHeld => ?_)
               clear hK K
               refine norm_ (a' := ?_) ?_ ?_
               rotate_left
               ·show Act.put _ (some 60) _ = _
                simp only [Act.put, List.setIfInBounds_toArray, List.set_cons_zero, List.set_cons_succ, i64_w, i32_w]; rfl
               exact norm_ (by first | (simp only [putAll, Act.put, List.setIfInBounds_toArray, List.set_cons_zero, List.set_cons_succ]; done) | (simp only [putAll, Act.put, List.setIfInBounds_toArray, List.set_cons_zero, List.set_cons_succ]; rfl)) (hJ1_3_5 (v201, v205, gb208) _ ⟨hHeld, (by (with_reducible repeat (first | apply Kd.S_alloc | apply Kd.S_drewN | apply Kd.S_drew)); exact Kd.S_mono HO202.out (fun _ hk => hk.2)), (by (with_reducible repeat (first | apply Kd.S_alloc | apply Kd.S_drewN | apply Kd.S_drew)); exact Kd.S_mono HO206.out (fun _ hk => hk.2)), (by (with_reducible repeat (first | refine blk_drewN ?_ _ | refine blk_drew ?_ | refine blk_alloc ?_ _)); exact BK197.out), (by (with_reducible repeat (first | refine blk_drewN ?_ _ | refine blk_drew ?_ | refine blk_alloc ?_ _)); exact BK208.out), GW208.out, GE208.out, NB197_208.out, NB208_197.out, (by repeat (first | (with_reducible first | exact HB.out | apply below_alloc | apply pw_below_drewN | apply below_drew1 | refine below_set ?_ GE197.out | refine below_set ?_ GE208.out) | exact HB.out))⟩)
              ·skip
               refine box_step ?hg (N := 11) ?hd (cs := #[.int .i64 0, .slice none 0 0]) (t := 24) ?hr ?_; (case hd => rfl); (case hg => rfl); (case hr => first | (go_simp; done) | (go_simp; rfl))
               intro gb207 hg w63 hbox hb
               have n0_ := Aside0.mk (Kd.S_below (by (with_reducible repeat (first | apply Kd.S_alloc | apply Kd.S_drewN | apply Kd.S_drew)); exact HO202.out) hb)
               have n1_ := Aside0.mk (blk_below (g := gb197) (o := .cells #[.int .i64 a0_0, .slice A0_1 l0_1.length c0_1] 24 (0, 0)) (by (with_reducible repeat (first | refine blk_drewN ?_ _ | refine blk_drew ?_ | refine blk_alloc ?_ _)); exact BK197.out) hb)
               have n2_ := Aside0.mk (blk_below (g := gb208) (o := .cells #[.int .i64 0, .slice none 0 0] 24 (0, 0)) (by (with_reducible repeat (first | refine blk_drewN ?_ _ | refine blk_drew ?_ | refine blk_alloc ?_ _)); exact BK208.out) hb)
               have n3_ := Aside0.mk (below_step (by repeat (first | (with_reducible first | exact HB.out | apply below_alloc | apply pw_below_drewN | apply below_drew1 | refine below_set ?_ GE197.out | refine below_set ?_ GE208.out) | exact HB.out)) hb)
               have n4_ := Aside0.mk (hbox)
               have n5_ := Aside0.mk ((by rw [hg]; exact (below_size (by repeat (first | (with_reducible first | exact HB.out | apply below_alloc | apply pw_below_drewN | apply below_drew1 | refine below_set ?_ GE197.out | refine below_set ?_ GE208.out) | exact HB.out))) : w.heap.size ≤ gb207))
               have n6_ := Aside0.mk ((by rw [hg]; exact (below_size (by repeat (first | (with_reducible first | exact HB.out | apply below_alloc | apply pw_below_drewN | apply below_drew1 | refine below_set ?_ GE197.out | refine below_set ?_ GE208.out) | exact HB.out))) : w.heap.size ≤ gb207))
               have n7_ := Aside0.mk ((by rw [hg]; exact Nat.ne_of_lt (blk_lt (g := gb197) (o := .cells #[.int .i64 a0_0, .slice A0_1 l0_1.length c0_1] 24 (0, 0)) (by (with_reducible repeat (first | refine blk_drewN ?_ _ | refine blk_drew ?_ | refine blk_alloc ?_ _)); exact BK197.out)) : gb197 ≠ gb207))
               have n8_ := Aside0.mk ((by rw [hg]; exact Nat.ne_of_gt (blk_lt (g := gb197) (o := .cells #[.int .i64 a0_0, .slice A0_1 l0_1.length c0_1] 24 (0, 0)) (by (with_reducible repeat (first | refine blk_drewN ?_ _ | refine blk_drew ?_ | refine blk_alloc ?_ _)); exact BK197.out)) : gb207 ≠ gb197))
               have n9_ := Aside0.mk ((by rw [hg]; exact Nat.ne_of_lt (blk_lt (g := gb208) (o := .cells #[.int .i64 0, .slice none 0 0] 24 (0, 0)) (by (with_reducible repeat (first | refine blk_drewN ?_ _ | refine blk_drew ?_ | refine blk_alloc ?_ _)); exact BK208.out)) : gb208 ≠ gb207))
               have n10_ := Aside0.mk ((by rw [hg]; exact Nat.ne_of_gt (blk_lt (g := gb208) (o := .cells #[.int .i64 0, .slice none 0 0] 24 (0, 0)) (by (with_reducible repeat (first | refine blk_drewN ?_ _ | refine blk_drew ?_ | refine blk_alloc ?_ _)); exact BK208.out)) : gb207 ≠ gb208))
               clear HO202; clear BK197; clear BK208; clear HB
               have HO202 := n0_
               have BK197 := n1_
               have BK208 := n2_
               have HB := n3_
               have BK207 := n4_
               have GW207 := n5_
               have GE207 := n6_
               have NB197_207 := n7_
               have NB207_197 := n8_
               have NB208_207 := n9_
               have NB207_208 := n10_
               clear n0_ n1_ n2_ n3_ n4_ n5_ n6_ n7_ n8_ n9_ n10_; clear hb hbox hg
               refine hK.out _ _ ⟨(blk_cell BK197.out 0).trans rfl, (blk_cell BK197.out 1).trans rfl⟩ (fun hHeld => ?_)
               clear hK K
               refine norm_ (a' := ?_) ?_ ?_
               rotate_left
               ·show Act.put _ (some 11) _ = _
                simp only [Act.put, List.setIfInBounds_toArray, List.set_cons_zero, List.set_cons_succ, i64_w, i32_w]; rfl
               exact norm_ (by first | (simp only [putAll, Act.put, List.setIfInBounds_toArray, List.set_cons_zero, List.set_cons_succ]; done) | (simp only [putAll, Act.put, List.setIfInBounds_toArray, List.set_cons_zero, List.set_cons_succ]; rfl)) (hJ1_4_5 (v201, gb207, gb208) _ ⟨hHeld, (by (with_reducible repeat (first | apply Kd.S_alloc | apply Kd.S_drewN | apply Kd.S_drew)); exact HO202.out), (by (with_reducible repeat (first | refine blk_drewN ?_ _ | refine blk_drew ?_ | refine blk_alloc ?_ _)); exact BK197.out), (by (with_reducible repeat (first | refine blk_drewN ?_ _ | refine blk_drew ?_ | refine blk_alloc ?_ _)); exact BK207.out), (by (with_reducible repeat (first | refine blk_drewN ?_ _ | refine blk_drew ?_ | refine blk_alloc ?_ _)); exact BK208.out), GW207.out, GE207.out, NB197_207.out, NB207_197.out, NB208_207.out, NB207_208.out, GW208.out, GE208.out, NB197_208.out, NB208_197.out, (by repeat (first | (with_reducible first | exact HB.out | apply below_alloc | apply pw_below_drewN | apply below_drew1 | refine below_set ?_ GE197.out | refine below_set ?_ GE208.out | refine below_set ?_ GE207.out) | exact HB.out))⟩)
            ·skip
             rintro ⟨v201, gb207⟩ w62 ⟨hS_, h0_, h1_, h2_, h3_, h4_, h5_, h6_, h7_⟩
             have n0_ : Aside0 (Kd.S k31 31 w62 w.heap.size (fun _ => True) v201 t200) := ⟨h0_⟩
             have n1_ : Aside0 (w62.heap[gb197]? = some (.cells #[.int .i64 a0_0, .slice A0_1 l0_1.length c0_1] 24 (0, 0))) := ⟨h1_⟩
             have n2_ : Aside0 (w62.heap[gb207]? = some (.cells #[.int .i64 0, .slice none 0 0] 24 (0, 0))) := ⟨h2_⟩
             have n3_ : Aside0 (w.heap.size ≤ gb207) := ⟨h3_⟩
             have n4_ : Aside0 (w.heap.size ≤ gb207) := ⟨h4_⟩
             have n5_ : Aside0 (gb197 ≠ gb207) := ⟨h5_⟩
             have n6_ : Aside0 (gb207 ≠ gb197) := ⟨h6_⟩
             have n7_ : Aside0 (Below w.heap.size w w62) := ⟨h7_⟩
             clear BK197; clear HB; clear h0_ h1_ h2_ h3_ h4_ h5_ h6_ h7_
             have HO202 := n0_
             have BK197 := n1_
             have BK207 := n2_
             have GW207 := n3_
             have GE207 := n4_
             have NB197_207 := n5_
             have NB207_197 := n6_
             have HB := n7_
             clear n0_ n1_ n2_ n3_ n4_ n5_ n6_ n7_
             have hHeld : w62.cell? ⟨gb197, 0, none⟩ = some (.int .i64 a0_0) ∧ w62.cell? ⟨gb197, 1, none⟩ = some (.slice A0_1 l0_1.length c0_1) := hS_
             refine norm_ (a' := ?_) ?_ ?_
             rotate_left; · simp only [putAll, Act.put, List.setIfInBounds_toArray, List.set_cons_zero, List.set_cons_succ]; rfl
             refine two_ (i := 3) (j := 5) (Ni := some 60) (Nj := some 12) #[true, true, true, true, true, false, false, false] #[true, true, true, false, true, true, false, false] rfl rfl rfl rfl (two_of HT_.out (by kernel_rfl)) (by decide) (by decide) (fun K hK => ?_) (fun K hK => ?_)
             ·skip
              refine goes_ Try.func14 (by kernel_rfl) rfl #[.agg #[.int .i64 a0_0, .slice A0_1 l0_1.length c0_1]] (by rfl) rfl rfl (by (try simp only [List.map_toArray, List.map_cons, List.map_nil]); first | done | rfl | (simp only [List.length_drop, List.length_take]; rfl)) ?_
              with_reducible refine (taskmasterref5_Put.calls kj5 a0_0 _ _ l0_1 t203 t204 _ ?side1 ?side2 A41.out).mono ?_
              (case side1 => repeat (first | exact (Kd.C_below HR0_1.out HB.out) | (with_reducible refine Kd.C_alloc ?_ _) | (with_reducible refine Kd.C_drewN ?_ _) | (with_reducible refine Kd.C_drew ?_)))
              (case side2 => exact HC0_1.out)
              rintro e w63 ⟨v205, rfl, ho0, hb⟩
              refine ⟨_, rfl, ?_⟩
              have n0_ := Aside0.mk (Kd.S_elder' (by (with_reducible repeat (first | apply Kd.S_alloc | apply Kd.S_drewN | apply Kd.S_drew)); exact HO202.out) (Kd.S_base ho0) hb)
              have n1_ := Aside0.mk (Kd.S_lower (Kd.S_new' ho0 (Kd.S_lt (by (with_reducible repeat (first | apply Kd.S_alloc | apply Kd.S_drewN | apply Kd.S_drew)); exact HO202.out))) (below_size (by repeat (first | (with_reducible first | exact HB.out | apply below_alloc | apply pw_below_drewN | apply below_drew1 | refine below_set ?_ GE197.out | refine below_set ?_ GE207.out) | exact HB.out))))
              have n2_ := Aside0.mk (blk_below (g := gb197) (o := .cells #[.int .i64 a0_0, .slice A0_1 l0_1.length c0_1] 24 (0, 0)) (by (with_reducible repeat (first | refine blk_drewN ?_ _ | refine blk_drew ?_ | refine blk_alloc ?_ _)); exact BK197.out) hb)
              have n3_ := Aside0.mk (blk_below (g := gb207) (o := .cells #[.int .i64 0, .slice none 0 0] 24 (0, 0)) (by (with_reducible repeat (first | refine blk_drewN ?_ _ | refine blk_drew ?_ | refine blk_alloc ?_ _)); exact BK207.out) hb)
              have n4_ := Aside0.mk (below_step (by repeat (first | (with_reducible first | exact HB.out | apply below_alloc | apply pw_below_drewN | apply below_drew1 | refine below_set ?_ GE197.out | refine below_set ?_ GE207.out) | exact HB.out)) hb)
              clear HO202; clear BK197; clear BK207; clear HB
              have HO202 := n0_
              have HO206 := n1_
              have BK197 := n2_
              have BK207 := n3_
              have HB := n4_
              clear n0_ n1_ n2_ n3_ n4_
              (try clear hb)
              (try clear hb2)
              (try clear hk)
              (try clear hi)
              (try clear ho0)
              refine hK.out _ _ ⟨(blk_cell BK197.out 0).trans rfl, (blk_cell BK197.out 1).trans rfl⟩ (fun hHeld => ?_)
              clear hK K
              refine norm_ (a' := ?_) ?_ ?_
              rotate_left
              ·show Act.put _ (some 60) _ = _
               simp only [Act.put, List.setIfInBounds_toArray, List.set_cons_zero, List.set_cons_succ, i64_w, i32_w]; rfl
              exact norm_ (by first | (simp only [putAll, Act.put, List.setIfInBounds_toArray, List.set_cons_zero, List.set_cons_succ]; done) | (simp only [putAll, Act.put, List.setIfInBounds_toArray, List.set_cons_zero, List.set_cons_succ]; rfl)) (hJ1_3_4 (v201, v205, gb207) _ ⟨hHeld, (by (with_reducible repeat (first | apply Kd.S_alloc | apply Kd.S_drewN | apply Kd.S_drew)); exact Kd.S_mono HO202.out (fun _ hk => hk.2)), (by (with_reducible repeat (first | apply Kd.S_alloc | apply Kd.S_drewN | apply Kd.S_drew)); exact Kd.S_mono HO206.out (fun _ hk => hk.2)), (by (with_reducible repeat (first | refine blk_drewN ?_ _ | refine blk_drew ?_ | refine blk_alloc ?_ _)); exact BK197.out), (by (with_reducible repeat (first | refine blk_drewN ?_ _ | refine blk_drew ?_ | refine blk_alloc ?_ _)); exact BK207.out), GW207.out, GE207.out, NB197_207.out, NB207_197.out, (by repeat (first | (with_reducible first | exact HB.out | apply below_alloc | apply pw_below_drewN | apply below_drew1 | refine below_set ?_ GE197.out | refine below_set ?_ GE207.out) | exact HB.out))⟩)
             ·skip
              refine box_step ?hg (N := 12) ?hd (cs := #[.int .i64 0, .slice none 0 0]) (t := 24) ?hr ?_; (case hd => rfl); (case hg => rfl); (case hr => first | (go_simp; done) | (go_simp; rfl))
              intro gb208 hg w63 hbox hb
              have n0_ := Aside0.mk (Kd.S_below (by (with_reducible repeat (first | apply Kd.S_alloc | apply Kd.S_drewN | apply Kd.S_drew)); exact HO202.out) hb)
              have n1_ := Aside0.mk (blk_below (g := gb197) (o := .cells #[.int .i64 a0_0, .slice A0_1 l0_1.length c0_1] 24 (0, 0)) (by (with_reducible repeat (first | refine blk_drewN ?_ _ | refine blk_drew ?_ | refine blk_alloc ?_ _)); exact BK197.out) hb)
              have n2_ := Aside0.mk (blk_below (g := gb207) (o := .cells #[.int .i64 0, .slice none 0 0] 24 (0, 0)) (by (with_reducible repeat (first | refine blk_drewN ?_ _ | refine blk_drew ?_ | refine blk_alloc ?_ _)); exact BK207.out) hb)
              have n3_ := Aside0.mk (below_step (by repeat (first | (with_reducible first | exact HB.out | apply below_alloc | apply pw_below_drewN | apply below_drew1 | refine below_set ?_ GE197.out | refine below_set ?_ GE207.out) | exact HB.out)) hb)
              have n4_ := Aside0.mk (hbox)
              have n5_ := Aside0.mk ((by rw [hg]; exact (below_size (by repeat (first | (with_reducible first | exact HB.out | apply below_alloc | apply pw_below_drewN | apply below_drew1 | refine below_set ?_ GE197.out | refine below_set ?_ GE207.out) | exact HB.out))) : w.heap.size ≤ gb208))
              have n6_ := Aside0.mk ((by rw [hg]; exact (below_size (by repeat (first | (with_reducible first | exact HB.out | apply below_alloc | apply pw_below_drewN | apply below_drew1 | refine below_set ?_ GE197.out | refine below_set ?_ GE207.out) | exact HB.out))) : w.heap.size ≤ gb208))
              have n7_ := Aside0.mk ((by rw [hg]; exact Nat.ne_of_lt (blk_lt (g := gb197) (o := .cells #[.int .i64 a0_0, .slice A0_1 l0_1.length c0_1] 24 (0, 0)) (by (with_reducible repeat (first | refine blk_drewN ?_ _ | refine blk_drew ?_ | refine blk_alloc ?_ _)); exact BK197.out)) : gb197 ≠ gb208))
              have n8_ := Aside0.mk ((by rw [hg]; exact Nat.ne_of_gt (blk_lt (g := gb197) (o := .cells #[.int .i64 a0_0, .slice A0_1 l0_1.length c0_1] 24 (0, 0)) (by (with_reducible repeat (first | refine blk_drewN ?_ _ | refine blk_drew ?_ | refine blk_alloc ?_ _)); exact BK197.out)) : gb208 ≠ gb197))
              have n9_ := Aside0.mk ((by rw [hg]; exact Nat.ne_of_lt (blk_lt (g := gb207) (o := .cells #[.int .i64 0, .slice none 0 0] 24 (0, 0)) (by (with_reducible repeat (first | refine blk_drewN ?_ _ | refine blk_drew ?_ | refine blk_alloc ?_ _)); exact BK207.out)) : gb207 ≠ gb208))
              have n10_ := Aside0.mk ((by rw [hg]; exact Nat.ne_of_gt (blk_lt (g := gb207) (o := .cells #[.int .i64 0, .slice none 0 0] 24 (0, 0)) (by (with_reducible repeat (first | refine blk_drewN ?_ _ | refine blk_drew ?_ | refine blk_alloc ?_ _)); exact BK207.out)) : gb208 ≠ gb207))
              clear HO202; clear BK197; clear BK207; clear HB
              have HO202 := n0_
              have BK197 := n1_
              have BK207 := n2_
              have HB := n3_
              have BK208 := n4_
              have GW208 := n5_
              have GE208 := n6_
              have NB197_208 := n7_
              have NB208_197 := n8_
              have NB207_208 := n9_
              have NB208_207 := n10_
              clear n0_ n1_ n2_ n3_ n4_ n5_ n6_ n7_ n8_ n9_ n10_; clear hb hbox hg
              refine hK.out _ _ ⟨(blk_cell BK197.out 0).trans rfl, (blk_cell BK197.out 1).trans rfl⟩ (fun hHeld => ?_)
              clear hK K
              refine norm_ (a' := ?_) ?_ ?_
              rotate_left
              ·show Act.put _ (some 12) _ = _
               simp only [Act.put, List.setIfInBounds_toArray, List.set_cons_zero, List.set_cons_succ, i64_w, i32_w]; rfl
              exact norm_ (by first | (simp only [putAll, Act.put, List.setIfInBounds_toArray, List.set_cons_zero, List.set_cons_succ]; done) | (simp only [putAll, Act.put, List.setIfInBounds_toArray, List.set_cons_zero, List.set_cons_succ]; rfl)) (hJ1_4_5 (v201, gb207, gb208) _ ⟨hHeld, (by (with_reducible repeat (first | apply Kd.S_alloc | apply Kd.S_drewN | apply Kd.S_drew)); exact HO202.out), (by (with_reducible repeat (first | refine blk_drewN ?_ _ | refine blk_drew ?_ | refine blk_alloc ?_ _)); exact BK197.out), (by (with_reducible repeat (first | refine blk_drewN ?_ _ | refine blk_drew ?_ | refine blk_alloc ?_ _)); exact BK207.out), (by (with_reducible repeat (first | refine blk_drewN ?_ _ | refine blk_drew ?_ | refine blk_alloc ?_ _)); exact BK208.out), GW207.out, GE207.out, NB197_207.out, NB207_197.out, NB208_207.out, NB207_208.out, GW208.out, GE208.out, NB197_208.out, NB208_197.out, (by repeat (first | (with_reducible first | exact HB.out | apply below_alloc | apply pw_below_drewN | apply below_drew1 | refine below_set ?_ GE197.out | refine below_set ?_ GE207.out | refine below_set ?_ GE208.out) | exact HB.out))⟩)
           ·skip
            rintro ⟨v201, v205⟩ w62 ⟨hS_, h0_, h1_, h2_, h3_⟩
            have n0_ : Aside0 (Kd.S k31 31 w62 w.heap.size (fun k_ => some k_ ≠ (v205 : Value).ownBlock) v201 t200) := ⟨h0_⟩
            have n1_ : Aside0 (Kd.S k31 31 w62 w.heap.size (fun k_ => some k_ ≠ (v201 : Value).ownBlock) v205 t204) := ⟨h1_⟩
            have n2_ : Aside0 (w62.heap[gb197]? = some (.cells #[.int .i64 a0_0, .slice A0_1 l0_1.length c0_1] 24 (0, 0))) := ⟨h2_⟩
            have n3_ : Aside0 (Below w.heap.size w w62) := ⟨h3_⟩
            clear BK197; clear HB; clear h0_ h1_ h2_ h3_
            have HO202 := n0_
            have HO206 := n1_
            have BK197 := n2_
            have HB := n3_
            clear n0_ n1_ n2_ n3_
            have hHeld : w62.cell? ⟨gb197, 0, none⟩ = some (.int .i64 a0_0) ∧ w62.cell? ⟨gb197, 1, none⟩ = some (.slice A0_1 l0_1.length c0_1) := hS_
            refine norm_ (a' := ?_) ?_ ?_
            rotate_left; · simp only [putAll, Act.put, List.setIfInBounds_toArray, List.set_cons_zero, List.set_cons_succ]; rfl
            refine two_ (i := 4) (j := 5) (Ni := some 11) (Nj := some 12) #[true, true, true, true, true, false, false, false] #[true, true, true, true, false, true, false, false] rfl rfl rfl rfl (two_of HT_.out (by kernel_rfl)) (by decide) (by decide) (fun K hK => ?_) (fun K hK => ?_)
            ·skip
             refine box_step ?hg (N := 11) ?hd (cs := #[.int .i64 0, .slice none 0 0]) (t := 24) ?hr ?_; (case hd => rfl); (case hg => rfl); (case hr => first | (go_simp; done) | (go_simp; rfl))
             intro gb207 hg w63 hbox hb
             have n0_ := Aside0.mk (Kd.S_below (by (with_reducible repeat (first | apply Kd.S_alloc | apply Kd.S_drewN | apply Kd.S_drew)); exact HO202.out) hb)
             have n1_ := Aside0.mk (Kd.S_below (by (with_reducible repeat (first | apply Kd.S_alloc | apply Kd.S_drewN | apply Kd.S_drew)); exact HO206.out) hb)
             have n2_ := Aside0.mk (blk_below (g := gb197) (o := .cells #[.int .i64 a0_0, .slice A0_1 l0_1.length c0_1] 24 (0, 0)) (by (with_reducible repeat (first | refine blk_drewN ?_ _ | refine blk_drew ?_ | refine blk_alloc ?_ _)); exact BK197.out) hb)
             have n3_ := Aside0.mk (below_step (by repeat (first | (with_reducible first | exact HB.out | apply below_alloc | apply pw_below_drewN | apply below_drew1 | refine below_set ?_ GE197.out) | exact HB.out)) hb)
             have n4_ := Aside0.mk (hbox)
             have n5_ := Aside0.mk ((by rw [hg]; exact (below_size (by repeat (first | (with_reducible first | exact HB.out | apply below_alloc | apply pw_below_drewN | apply below_drew1 | refine below_set ?_ GE197.out) | exact HB.out))) : w.heap.size ≤ gb207))
             have n6_ := Aside0.mk ((by rw [hg]; exact (below_size (by repeat (first | (with_reducible first | exact HB.out | apply below_alloc | apply pw_below_drewN | apply below_drew1 | refine below_set ?_ GE197.out) | exact HB.out))) : w.heap.size ≤ gb207))
             have n7_ := Aside0.mk ((by rw [hg]; exact Nat.ne_of_lt (blk_lt (g := gb197) (o := .cells #[.int .i64 a0_0, .slice A0_1 l0_1.length c0_1] 24 (0, 0)) (by (with_reducible repeat (first | refine blk_drewN ?_ _ | refine blk_drew ?_ | refine blk_alloc ?_ _)); exact BK197.out)) : gb197 ≠ gb207))
             have n8_ := Aside0.mk ((by rw [hg]; exact Nat.ne_of_gt (blk_lt (g := gb197) (o := .cells #[.int .i64 a0_0, .slice A0_1 l0_1.length c0_1] 24 (0, 0)) (by (with_reducible repeat (first | refine blk_drewN ?_ _ | refine blk_drew ?_ | refine blk_alloc ?_ _)); exact BK197.out)) : gb207 ≠ gb197))
             clear HO202; clear HO206; clear BK197; clear HB
             have HO202 := n0_
             have HO206 := n1_
             have BK197 := n2_
             have HB := n3_
             have BK207 := n4_
             have GW207 := n5_
             have GE207 := n6_
             have NB197_207 := n7_
             have NB207_197 := n8_
             clear n0_ n1_ n2_ n3_ n4_ n5_ n6_ n7_ n8_; clear hb hbox hg
             refine hK.out _ _ ⟨(blk_cell BK197.out 0).trans rfl, (blk_cell BK197.out 1).trans rfl⟩ (fun hHeld => ?_)
             clear hK K
             refine norm_ (a' := ?_) ?_ ?_
             rotate_left
             ·show Act.put _ (some 11) _ = _
              simp only [Act.put, List.setIfInBounds_toArray, List.set_cons_zero, List.set_cons_succ, i64_w, i32_w]; rfl
             exact norm_ (by first | (simp only [putAll, Act.put, List.setIfInBounds_toArray, List.set_cons_zero, List.set_cons_succ]; done) | (simp only [putAll, Act.put, List.setIfInBounds_toArray, List.set_cons_zero, List.set_cons_succ]; rfl)) (hJ1_3_4 (v201, v205, gb207) _ ⟨hHeld, (by (with_reducible repeat (first | apply Kd.S_alloc | apply Kd.S_drewN | apply Kd.S_drew)); exact HO202.out), (by (with_reducible repeat (first | apply Kd.S_alloc | apply Kd.S_drewN | apply Kd.S_drew)); exact HO206.out), (by (with_reducible repeat (first | refine blk_drewN ?_ _ | refine blk_drew ?_ | refine blk_alloc ?_ _)); exact BK197.out), (by (with_reducible repeat (first | refine blk_drewN ?_ _ | refine blk_drew ?_ | refine blk_alloc ?_ _)); exact BK207.out), GW207.out, GE207.out, NB197_207.out, NB207_197.out, (by repeat (first | (with_reducible first | exact HB.out | apply below_alloc | apply pw_below_drewN | apply below_drew1 | refine below_set ?_ GE197.out | refine below_set ?_ GE207.out) | exact HB.out))⟩)
            ·skip
             refine box_step ?hg (N := 12) ?hd (cs := #[.int .i64 0, .slice none 0 0]) (t := 24) ?hr ?_; (case hd => rfl); (case hg => rfl); (case hr => first | (go_simp; done) | (go_simp; rfl))
             intro gb208 hg w63 hbox hb
             have n0_ := Aside0.mk (Kd.S_below (by (with_reducible repeat (first | apply Kd.S_alloc | apply Kd.S_drewN | apply Kd.S_drew)); exact HO202.out) hb)
             have n1_ := Aside0.mk (Kd.S_below (by (with_reducible repeat (first | apply Kd.S_alloc | apply Kd.S_drewN | apply Kd.S_drew)); exact HO206.out) hb)
             have n2_ := Aside0.mk (blk_below (g := gb197) (o := .cells #[.int .i64 a0_0, .slice A0_1 l0_1.length c0_1] 24 (0, 0)) (by (with_reducible repeat (first | refine blk_drewN ?_ _ | refine blk_drew ?_ | refine blk_alloc ?_ _)); exact BK197.out) hb)
             have n3_ := Aside0.mk (below_step (by repeat (first | (with_reducible first | exact HB.out | apply below_alloc | apply pw_below_drewN | apply below_drew1 | refine below_set ?_ GE197.out) | exact HB.out)) hb)
             have n4_ := Aside0.mk (hbox)
             have n5_ := Aside0.mk ((by rw [hg]; exact (below_size (by repeat (first | (with_reducible first | exact HB.out | apply below_alloc | apply pw_below_drewN | apply below_drew1 | refine below_set ?_ GE197.out) | exact HB.out))) : w.heap.size ≤ gb208))
             have n6_ := Aside0.mk ((by rw [hg]; exact (below_size (by repeat (first | (with_reducible first | exact HB.out | apply below_alloc | apply pw_below_drewN | apply below_drew1 | refine below_set ?_ GE197.out) | exact HB.out))) : w.heap.size ≤ gb208))
             have n7_ := Aside0.mk ((by rw [hg]; exact Nat.ne_of_lt (blk_lt (g := gb197) (o := .cells #[.int .i64 a0_0, .slice A0_1 l0_1.length c0_1] 24 (0, 0)) (by (with_reducible repeat (first | refine blk_drewN ?_ _ | refine blk_drew ?_ | refine blk_alloc ?_ _)); exact BK197.out)) : gb197 ≠ gb208))
             have n8_ := Aside0.mk ((by rw [hg]; exact Nat.ne_of_gt (blk_lt (g := gb197) (o := .cells #[.int .i64 a0_0, .slice A0_1 l0_1.length c0_1] 24 (0, 0)) (by (with_reducible repeat (first | refine blk_drewN ?_ _ | refine blk_drew ?_ | refine blk_alloc ?_ _)); exact BK197.out)) : gb208 ≠ gb197))
             clear HO202; clear HO206; clear BK197; clear HB
             have HO202 := n0_
             have HO206 := n1_
             have BK197 := n2_
             have HB := n3_
             have BK208 := n4_
             have GW208 := n5_
             have GE208 := n6_
             have NB197_208 := n7_
             have NB208_197 := n8_
             clear n0_ n1_ n2_ n3_ n4_ n5_ n6_ n7_ n8_; clear hb hbox hg
             refine hK.out _ _ ⟨(blk_cell BK197.out 0).trans rfl, (blk_cell BK197.out 1).trans rfl⟩ (fun hHeld => ?_)
             clear hK K
             refine norm_ (a' := ?_) ?_ ?_
             rotate_left
             ·show Act.put _ (some 12) _ = _
              simp only [Act.put, List.setIfInBounds_toArray, List.set_cons_zero, List.set_cons_succ, i64_w, i32_w]; rfl
             exact norm_ (by first | (simp only [putAll, Act.put, List.setIfInBounds_toArray, List.set_cons_zero, List.set_cons_succ]; done) | (simp only [putAll, Act.put, List.setIfInBounds_toArray, List.set_cons_zero, List.set_cons_succ]; rfl)) (hJ1_3_5 (v201, v205, gb208) _ ⟨hHeld, (by (with_reducible repeat (first | apply Kd.S_alloc | apply Kd.S_drewN | apply Kd.S_drew)); exact HO202.out), (by (with_reducible repeat (first | apply Kd.S_alloc | apply Kd.S_drewN | apply Kd.S_drew)); exact HO206.out), (by (with_reducible repeat (first | refine blk_drewN ?_ _ | refine blk_drew ?_ | refine blk_alloc ?_ _)); exact BK197.out), (by (with_reducible repeat (first | refine blk_drewN ?_ _ | refine blk_drew ?_ | refine blk_alloc ?_ _)); exact BK208.out), GW208.out, GE208.out, NB197_208.out, NB208_197.out, (by repeat (first | (with_reducible first | exact HB.out | apply below_alloc | apply pw_below_drewN | apply below_drew1 | refine below_set ?_ GE197.out | refine below_set ?_ GE208.out) | exact HB.out))⟩)
          ·skip
           rintro ⟨v201, gb207, gb208⟩ w63 ⟨hS_, h0_, h1_, h2_, h3_, h4_, h5_, h6_, h7_, h8_, h9_, h10_, h11_, h12_, h13_, h14_⟩
           have n0_ : Aside0 (Kd.S k31 31 w63 w.heap.size (fun _ => True) v201 t200) := ⟨h0_⟩
           have n1_ : Aside0 (w63.heap[gb197]? = some (.cells #[.int .i64 a0_0, .slice A0_1 l0_1.length c0_1] 24 (0, 0))) := ⟨h1_⟩
           have n2_ : Aside0 (w63.heap[gb207]? = some (.cells #[.int .i64 0, .slice none 0 0] 24 (0, 0))) := ⟨h2_⟩
           have n3_ : Aside0 (w63.heap[gb208]? = some (.cells #[.int .i64 0, .slice none 0 0] 24 (0, 0))) := ⟨h3_⟩
           have n4_ : Aside0 (w.heap.size ≤ gb207) := ⟨h4_⟩
           have n5_ : Aside0 (w.heap.size ≤ gb207) := ⟨h5_⟩
           have n6_ : Aside0 (gb197 ≠ gb207) := ⟨h6_⟩
           have n7_ : Aside0 (gb207 ≠ gb197) := ⟨h7_⟩
           have n8_ : Aside0 (gb208 ≠ gb207) := ⟨h8_⟩
           have n9_ : Aside0 (gb207 ≠ gb208) := ⟨h9_⟩
           have n10_ : Aside0 (w.heap.size ≤ gb208) := ⟨h10_⟩
           have n11_ : Aside0 (w.heap.size ≤ gb208) := ⟨h11_⟩
           have n12_ : Aside0 (gb197 ≠ gb208) := ⟨h12_⟩
           have n13_ : Aside0 (gb208 ≠ gb197) := ⟨h13_⟩
           have n14_ : Aside0 (Below w.heap.size w w63) := ⟨h14_⟩
           clear BK197; clear HB; clear h0_ h1_ h2_ h3_ h4_ h5_ h6_ h7_ h8_ h9_ h10_ h11_ h12_ h13_ h14_
           have HO202 := n0_
           have BK197 := n1_
           have BK207 := n2_
           have BK208 := n3_
           have GW207 := n4_
           have GE207 := n5_
           have NB197_207 := n6_
           have NB207_197 := n7_
           have NB208_207 := n8_
           have NB207_208 := n9_
           have GW208 := n10_
           have GE208 := n11_
           have NB197_208 := n12_
           have NB208_197 := n13_
           have HB := n14_
           clear n0_ n1_ n2_ n3_ n4_ n5_ n6_ n7_ n8_ n9_ n10_ n11_ n12_ n13_ n14_
           have hHeld : w63.cell? ⟨gb197, 0, none⟩ = some (.int .i64 a0_0) ∧ w63.cell? ⟨gb197, 1, none⟩ = some (.slice A0_1 l0_1.length c0_1) := hS_
           refine norm_ (a' := ?_) ?_ ?_
           rotate_left; · simp only [putAll, Act.put, List.setIfInBounds_toArray, List.set_cons_zero, List.set_cons_succ]; rfl
           refine one_ (i := 3) (N := some 60) #[true, true, true, true, true, true, false, false] rfl rfl (one_of HT_.out (by kernel_rfl)) (by decide) (fun K hK => ?_)
           refine goes_ Try.func14 (by kernel_rfl) rfl #[.agg #[.int .i64 a0_0, .slice A0_1 l0_1.length c0_1]] (by rfl) rfl rfl (by (try simp only [List.map_toArray, List.map_cons, List.map_nil]); first | done | rfl | (simp only [List.length_drop, List.length_take]; rfl)) ?_
           with_reducible refine (taskmasterref5_Put.calls kj5 a0_0 _ _ l0_1 t203 t204 _ ?side1 ?side2 A41.out).mono ?_
           (case side1 => repeat (first | exact (Kd.C_below HR0_1.out HB.out) | (with_reducible refine Kd.C_alloc ?_ _) | (with_reducible refine Kd.C_drewN ?_ _) | (with_reducible refine Kd.C_drew ?_)))
           (case side2 => exact HC0_1.out)
           rintro e w64 ⟨v205, rfl, ho0, hb⟩
           refine ⟨_, rfl, ?_⟩
           have n0_ := Aside0.mk (Kd.S_elder' (by (with_reducible repeat (first | apply Kd.S_alloc | apply Kd.S_drewN | apply Kd.S_drew)); exact HO202.out) (Kd.S_base ho0) hb)
           have n1_ := Aside0.mk (Kd.S_lower (Kd.S_new' ho0 (Kd.S_lt (by (with_reducible repeat (first | apply Kd.S_alloc | apply Kd.S_drewN | apply Kd.S_drew)); exact HO202.out))) (below_size (by repeat (first | (with_reducible first | exact HB.out | apply below_alloc | apply pw_below_drewN | apply below_drew1 | refine below_set ?_ GE197.out | refine below_set ?_ GE207.out | refine below_set ?_ GE208.out) | exact HB.out))))
           have n2_ := Aside0.mk (blk_below (g := gb197) (o := .cells #[.int .i64 a0_0, .slice A0_1 l0_1.length c0_1] 24 (0, 0)) (by (with_reducible repeat (first | refine blk_drewN ?_ _ | refine blk_drew ?_ | refine blk_alloc ?_ _)); exact BK197.out) hb)
           have n3_ := Aside0.mk (blk_below (g := gb207) (o := .cells #[.int .i64 0, .slice none 0 0] 24 (0, 0)) (by (with_reducible repeat (first | refine blk_drewN ?_ _ | refine blk_drew ?_ | refine blk_alloc ?_ _)); exact BK207.out) hb)
           have n4_ := Aside0.mk (blk_below (g := gb208) (o := .cells #[.int .i64 0, .slice none 0 0] 24 (0, 0)) (by (with_reducible repeat (first | refine blk_drewN ?_ _ | refine blk_drew ?_ | refine blk_alloc ?_ _)); exact BK208.out) hb)
           have n5_ := Aside0.mk (below_step (by repeat (first | (with_reducible first | exact HB.out | apply below_alloc | apply pw_below_drewN | apply below_drew1 | refine below_set ?_ GE197.out | refine below_set ?_ GE207.out | refine below_set ?_ GE208.out) | exact HB.out)) hb)
           clear HO202; clear BK197; clear BK207; clear BK208; clear HB
           have HO202 := n0_
           have HO206 := n1_
           have BK197 := n2_
           have BK207 := n3_
           have BK208 := n4_
           have HB := n5_
           clear n0_ n1_ n2_ n3_ n4_ n5_
           (try clear hb)
           (try clear hb2)
           (try clear hk)
           (try clear hi)
           (try clear ho0)
           refine hK.out _ _ ⟨(blk_cell BK197.out 0).trans rfl, (blk_cell BK197.out 1).trans rfl⟩ (fun hHeld => ?_)
           clear hK K
           refine norm_ (a' := ?_) ?_ ?_
           rotate_left
           ·show Act.put _ (some 60) _ = _
            simp only [Act.put, List.setIfInBounds_toArray, List.set_cons_zero, List.set_cons_succ, i64_w, i32_w]; rfl
           exact norm_ (by first | (simp only [putAll, Act.put, List.setIfInBounds_toArray, List.set_cons_zero, List.set_cons_succ]; done) | (simp only [putAll, Act.put, List.setIfInBounds_toArray, List.set_cons_zero, List.set_cons_succ]; rfl)) (hJ1_3_4_5 (v201, v205, gb207, gb208) _ ⟨hHeld, (by (with_reducible repeat (first | apply Kd.S_alloc | apply Kd.S_drewN | apply Kd.S_drew)); exact Kd.S_mono HO202.out (fun _ hk => hk.2)), (by (with_reducible repeat (first | apply Kd.S_alloc | apply Kd.S_drewN | apply Kd.S_drew)); exact Kd.S_mono HO206.out (fun _ hk => hk.2)), (by (with_reducible repeat (first | refine blk_drewN ?_ _ | refine blk_drew ?_ | refine blk_alloc ?_ _)); exact BK197.out), (by (with_reducible repeat (first | refine blk_drewN ?_ _ | refine blk_drew ?_ | refine blk_alloc ?_ _)); exact BK207.out), (by (with_reducible repeat (first | refine blk_drewN ?_ _ | refine blk_drew ?_ | refine blk_alloc ?_ _)); exact BK208.out), GW207.out, GE207.out, NB197_207.out, NB207_197.out, NB208_207.out, NB207_208.out, GW208.out, GE208.out, NB197_208.out, NB208_197.out, (by repeat (first | (with_reducible first | exact HB.out | apply below_alloc | apply pw_below_drewN | apply below_drew1 | refine below_set ?_ GE197.out | refine below_set ?_ GE207.out | refine below_set ?_ GE208.out) | exact HB.out))⟩)
         ·skip
          rintro ⟨v201, v205, gb208⟩ w63 ⟨hS_, h0_, h1_, h2_, h3_, h4_, h5_, h6_, h7_, h8_⟩
          have n0_ : Aside0 (Kd.S k31 31 w63 w.heap.size (fun k_ => some k_ ≠ (v205 : Value).ownBlock) v201 t200) := ⟨h0_⟩
          have n1_ : Aside0 (Kd.S k31 31 w63 w.heap.size (fun k_ => some k_ ≠ (v201 : Value).ownBlock) v205 t204) := ⟨h1_⟩
          have n2_ : Aside0 (w63.heap[gb197]? = some (.cells #[.int .i64 a0_0, .slice A0_1 l0_1.length c0_1] 24 (0, 0))) := ⟨h2_⟩
          have n3_ : Aside0 (w63.heap[gb208]? = some (.cells #[.int .i64 0, .slice none 0 0] 24 (0, 0))) := ⟨h3_⟩
          have n4_ : Aside0 (w.heap.size ≤ gb208) := ⟨h4_⟩
          have n5_ : Aside0 (w.heap.size ≤ gb208) := ⟨h5_⟩
          have n6_ : Aside0 (gb197 ≠ gb208) := ⟨h6_⟩
          have n7_ : Aside0 (gb208 ≠ gb197) := ⟨h7_⟩
          have n8_ : Aside0 (Below w.heap.size w w63) := ⟨h8_⟩
          clear BK197; clear HB; clear h0_ h1_ h2_ h3_ h4_ h5_ h6_ h7_ h8_
          have HO202 := n0_
          have HO206 := n1_
          have BK197 := n2_
          have BK208 := n3_
          have GW208 := n4_
          have GE208 := n5_
          have NB197_208 := n6_
          have NB208_197 := n7_
          have HB := n8_
          clear n0_ n1_ n2_ n3_ n4_ n5_ n6_ n7_ n8_
          have hHeld : w63.cell? ⟨gb197, 0, none⟩ = some (.int .i64 a0_0) ∧ w63.cell? ⟨gb197, 1, none⟩ = some (.slice A0_1 l0_1.length c0_1) := hS_
          refine norm_ (a' := ?_) ?_ ?_
          rotate_left; · simp only [putAll, Act.put, List.setIfInBounds_toArray, List.set_cons_zero, List.set_cons_succ]; rfl
          refine one_ (i := 4) (N := some 11) #[true, true, true, true, true, true, false, false] rfl rfl (one_of HT_.out (by kernel_rfl)) (by decide) (fun K hK => ?_)
          refine box_step ?hg (N := 11) ?hd (cs := #[.int .i64 0, .slice none 0 0]) (t := 24) ?hr ?_; (case hd => rfl); (case hg => rfl); (case hr => first | (go_simp; done) | (go_simp; rfl))
          intro gb207 hg w64 hbox hb
          have n0_ := Aside0.mk (Kd.S_below (by (with_reducible repeat (first | apply Kd.S_alloc | apply Kd.S_drewN | apply Kd.S_drew)); exact HO202.out) hb)
          have n1_ := Aside0.mk (Kd.S_below (by (with_reducible repeat (first | apply Kd.S_alloc | apply Kd.S_drewN | apply Kd.S_drew)); exact HO206.out) hb)
          have n2_ := Aside0.mk (blk_below (g := gb197) (o := .cells #[.int .i64 a0_0, .slice A0_1 l0_1.length c0_1] 24 (0, 0)) (by (with_reducible repeat (first | refine blk_drewN ?_ _ | refine blk_drew ?_ | refine blk_alloc ?_ _)); exact BK197.out) hb)
          have n3_ := Aside0.mk (blk_below (g := gb208) (o := .cells #[.int .i64 0, .slice none 0 0] 24 (0, 0)) (by (with_reducible repeat (first | refine blk_drewN ?_ _ | refine blk_drew ?_ | refine blk_alloc ?_ _)); exact BK208.out) hb)
          have n4_ := Aside0.mk (below_step (by repeat (first | (with_reducible first | exact HB.out | apply below_alloc | apply pw_below_drewN | apply below_drew1 | refine below_set ?_ GE197.out | refine below_set ?_ GE208.out) | exact HB.out)) hb)
          have n5_ := Aside0.mk (hbox)
          have n6_ := Aside0.mk ((by rw [hg]; exact (below_size (by repeat (first | (with_reducible first | exact HB.out | apply below_alloc | apply pw_below_drewN | apply below_drew1 | refine below_set ?_ GE197.out | refine below_set ?_ GE208.out) | exact HB.out))) : w.heap.size ≤ gb207))
          have n7_ := Aside0.mk ((by rw [hg]; exact (below_size (by repeat (first | (with_reducible first | exact HB.out | apply below_alloc | apply pw_below_drewN | apply below_drew1 | refine below_set ?_ GE197.out | refine below_set ?_ GE208.out) | exact HB.out))) : w.heap.size ≤ gb207))
          have n8_ := Aside0.mk ((by rw [hg]; exact Nat.ne_of_lt (blk_lt (g := gb197) (o := .cells #[.int .i64 a0_0, .slice A0_1 l0_1.length c0_1] 24 (0, 0)) (by (with_reducible repeat (first | refine blk_drewN ?_ _ | refine blk_drew ?_ | refine blk_alloc ?_ _)); exact BK197.out)) : gb197 ≠ gb207))
          have n9_ := Aside0.mk ((by rw [hg]; exact Nat.ne_of_gt (blk_lt (g := gb197) (o := .cells #[.int .i64 a0_0, .slice A0_1 l0_1.length c0_1] 24 (0, 0)) (by (with_reducible repeat (first | refine blk_drewN ?_ _ | refine blk_drew ?_ | refine blk_alloc ?_ _)); exact BK197.out)) : gb207 ≠ gb197))
          have n10_ := Aside0.mk ((by rw [hg]; exact Nat.ne_of_lt (blk_lt (g := gb208) (o := .cells #[.int .i64 0, .slice none 0 0] 24 (0, 0)) (by (with_reducible repeat (first | refine blk_drewN ?_ _ | refine blk_drew ?_ | refine blk_alloc ?_ _)); exact BK208.out)) : gb208 ≠ gb207))
          have n11_ := Aside0.mk ((by rw [hg]; exact Nat.ne_of_gt (blk_lt (g := gb208) (o := .cells #[.int .i64 0, .slice none 0 0] 24 (0, 0)) (by (with_reducible repeat (first | refine blk_drewN ?_ _ | refine blk_drew ?_ | refine blk_alloc ?_ _)); exact BK208.out)) : gb207 ≠ gb208))
          clear HO202; clear HO206; clear BK197; clear BK208; clear HB
          have HO202 := n0_
          have HO206 := n1_
          have BK197 := n2_
          have BK208 := n3_
          have HB := n4_
          have BK207 := n5_
          have GW207 := n6_
          have GE207 := n7_
          have NB197_207 := n8_
          have NB207_197 := n9_
          have NB208_207 := n10_
          have NB207_208 := n11_
          clear n0_ n1_ n2_ n3_ n4_ n5_ n6_ n7_ n8_ n9_ n10_ n11_; clear hb hbox hg
          refine hK.out _ _ ⟨(blk_cell BK197.out 0).trans rfl, (blk_cell BK197.out 1).trans rfl⟩ (fun hHeld => ?_)
          clear hK K
          refine norm_ (a' := ?_) ?_ ?_
          rotate_left
          ·show Act.put _ (some 11) _ = _
           simp only [Act.put, List.setIfInBounds_toArray, List.set_cons_zero, List.set_cons_succ, i64_w, i32_w]; rfl
          exact norm_ (by first | (simp only [putAll, Act.put, List.setIfInBounds_toArray, List.set_cons_zero, List.set_cons_succ]; done) | (simp only [putAll, Act.put, List.setIfInBounds_toArray, List.set_cons_zero, List.set_cons_succ]; rfl)) (hJ1_3_4_5 (v201, v205, gb207, gb208) _ ⟨hHeld, (by (with_reducible repeat (first | apply Kd.S_alloc | apply Kd.S_drewN | apply Kd.S_drew)); exact HO202.out), (by (with_reducible repeat (first | apply Kd.S_alloc | apply Kd.S_drewN | apply Kd.S_drew)); exact HO206.out), (by (with_reducible repeat (first | refine blk_drewN ?_ _ | refine blk_drew ?_ | refine blk_alloc ?_ _)); exact BK197.out), (by (with_reducible repeat (first | refine blk_drewN ?_ _ | refine blk_drew ?_ | refine blk_alloc ?_ _)); exact BK207.out), (by (with_reducible repeat (first | refine blk_drewN ?_ _ | refine blk_drew ?_ | refine blk_alloc ?_ _)); exact BK208.out), GW207.out, GE207.out, NB197_207.out, NB207_197.out, NB208_207.out, NB207_208.out, GW208.out, GE208.out, NB197_208.out, NB208_197.out, (by repeat (first | (with_reducible first | exact HB.out | apply below_alloc | apply pw_below_drewN | apply below_drew1 | refine below_set ?_ GE197.out | refine below_set ?_ GE208.out | refine below_set ?_ GE207.out) | exact HB.out))⟩)
        ·skip
         rintro ⟨v201, v205, gb207⟩ w63 ⟨hS_, h0_, h1_, h2_, h3_, h4_, h5_, h6_, h7_, h8_⟩
         have n0_ : Aside0 (Kd.S k31 31 w63 w.heap.size (fun k_ => some k_ ≠ (v205 : Value).ownBlock) v201 t200) := ⟨h0_⟩
         have n1_ : Aside0 (Kd.S k31 31 w63 w.heap.size (fun k_ => some k_ ≠ (v201 : Value).ownBlock) v205 t204) := ⟨h1_⟩
         have n2_ : Aside0 (w63.heap[gb197]? = some (.cells #[.int .i64 a0_0, .slice A0_1 l0_1.length c0_1] 24 (0, 0))) := ⟨h2_⟩
         have n3_ : Aside0 (w63.heap[gb207]? = some (.cells #[.int .i64 0, .slice none 0 0] 24 (0, 0))) := ⟨h3_⟩
         have n4_ : Aside0 (w.heap.size ≤ gb207) := ⟨h4_⟩
         have n5_ : Aside0 (w.heap.size ≤ gb207) := ⟨h5_⟩
         have n6_ : Aside0 (gb197 ≠ gb207) := ⟨h6_⟩
         have n7_ : Aside0 (gb207 ≠ gb197) := ⟨h7_⟩
         have n8_ : Aside0 (Below w.heap.size w w63) := ⟨h8_⟩
         clear BK197; clear HB; clear h0_ h1_ h2_ h3_ h4_ h5_ h6_ h7_ h8_
         have HO202 := n0_
         have HO206 := n1_
         have BK197 := n2_
         have BK207 := n3_
         have GW207 := n4_
         have GE207 := n5_
         have NB197_207 := n6_
         have NB207_197 := n7_
         have HB := n8_
         clear n0_ n1_ n2_ n3_ n4_ n5_ n6_ n7_ n8_
         have hHeld : w63.cell? ⟨gb197, 0, none⟩ = some (.int .i64 a0_0) ∧ w63.cell? ⟨gb197, 1, none⟩ = some (.slice A0_1 l0_1.length c0_1) := hS_
         refine norm_ (a' := ?_) ?_ ?_
         rotate_left; · simp only [putAll, Act.put, List.setIfInBounds_toArray, List.set_cons_zero, List.set_cons_succ]; rfl
         refine one_ (i := 5) (N := some 12) #[true, true, true, true, true, true, false, false] rfl rfl (one_of HT_.out (by kernel_rfl)) (by decide) (fun K hK => ?_)
         refine box_step ?hg (N := 12) ?hd (cs := #[.int .i64 0, .slice none 0 0]) (t := 24) ?hr ?_; (case hd => rfl); (case hg => rfl); (case hr => first | (go_simp; done) | (go_simp; rfl))
         intro gb208 hg w64 hbox hb
         have n0_ := Aside0.mk (Kd.S_below (by (with_reducible repeat (first | apply Kd.S_alloc | apply Kd.S_drewN | apply Kd.S_drew)); exact HO202.out) hb)
         have n1_ := Aside0.mk (Kd.S_below (by (with_reducible repeat (first | apply Kd.S_alloc | apply Kd.S_drewN | apply Kd.S_drew)); exact HO206.out) hb)
         have n2_ := Aside0.mk (blk_below (g := gb197) (o := .cells #[.int .i64 a0_0, .slice A0_1 l0_1.length c0_1] 24 (0, 0)) (by (with_reducible repeat (first | refine blk_drewN ?_ _ | refine blk_drew ?_ | refine blk_alloc ?_ _)); exact BK197.out) hb)
         have n3_ := Aside0.mk (blk_below (g := gb207) (o := .cells #[.int .i64 0, .slice none 0 0] 24 (0, 0)) (by (with_reducible repeat (first | refine blk_drewN ?_ _ | refine blk_drew ?_ | refine blk_alloc ?_ _)); exact BK207.out) hb)
         have n4_ := Aside0.mk (below_step (by repeat (first | (with_reducible first | exact HB.out | apply below_alloc | apply pw_below_drewN | apply below_drew1 | refine below_set ?_ GE197.out | refine below_set ?_ GE207.out) | exact HB.out)) hb)
         have n5_ := Aside0.mk (hbox)
         have n6_ := Aside0.mk ((by rw [hg]; exact (below_size (by repeat (first | (with_reducible first | exact HB.out | apply below_alloc | apply pw_below_drewN | apply below_drew1 | refine below_set ?_ GE197.out | refine below_set ?_ GE207.out) | exact HB.out))) : w.heap.size ≤ gb208))
         have n7_ := Aside0.mk ((by rw [hg]; exact (below_size (by repeat (first | (with_reducible first | exact HB.out | apply below_alloc | apply pw_below_drewN | apply below_drew1 | refine below_set ?_ GE197.out | refine below_set ?_ GE207.out) | exact HB.out))) : w.heap.size ≤ gb208))
         have n8_ := Aside0.mk ((by rw [hg]; exact Nat.ne_of_lt (blk_lt (g := gb197) (o := .cells #[.int .i64 a0_0, .slice A0_1 l0_1.length c0_1] 24 (0, 0)) (by (with_reducible repeat (first | refine blk_drewN ?_ _ | refine blk_drew ?_ | refine blk_alloc ?_ _)); exact BK197.out)) : gb197 ≠ gb208))
         have n9_ := Aside0.mk ((by rw [hg]; exact Nat.ne_of_gt (blk_lt (g := gb197) (o := .cells #[.int .i64 a0_0, .slice A0_1 l0_1.length c0_1] 24 (0, 0)) (by (with_reducible repeat (first | refine blk_drewN ?_ _ | refine blk_drew ?_ | refine blk_alloc ?_ _)); exact BK197.out)) : gb208 ≠ gb197))
         have n10_ := Aside0.mk ((by rw [hg]; exact Nat.ne_of_lt (blk_lt (g := gb207) (o := .cells #[.int .i64 0, .slice none 0 0] 24 (0, 0)) (by (with_reducible repeat (first | refine blk_drewN ?_ _ | refine blk_drew ?_ | refine blk_alloc ?_ _)); exact BK207.out)) : gb207 ≠ gb208))
         have n11_ := Aside0.mk ((by rw [hg]; exact Nat.ne_of_gt (blk_lt (g := gb207) (o := .cells #[.int .i64 0, .slice none 0 0] 24 (0, 0)) (by (with_reducible repeat (first | refine blk_drewN ?_ _ | refine blk_drew ?_ | refine blk_alloc ?_ _)); exact BK207.out)) : gb208 ≠ gb207))
         clear HO202; clear HO206; clear BK197; clear BK207; clear HB
         have HO202 := n0_
         have HO206 := n1_
         have BK197 := n2_
         have BK207 := n3_
         have HB := n4_
         have BK208 := n5_
         have GW208 := n6_
         have GE208 := n7_
         have NB197_208 := n8_
         have NB208_197 := n9_
         have NB207_208 := n10_
         have NB208_207 := n11_
         clear n0_ n1_ n2_ n3_ n4_ n5_ n6_ n7_ n8_ n9_ n10_ n11_; clear hb hbox hg
         refine hK.out _ _ ⟨(blk_cell BK197.out 0).trans rfl, (blk_cell BK197.out 1).trans rfl⟩ (fun hHeld => ?_)
         clear hK K
         refine norm_ (a' := ?_) ?_ ?_
         rotate_left
         ·show Act.put _ (some 12) _ = _
          simp only [Act.put, List.setIfInBounds_toArray, List.set_cons_zero, List.set_cons_succ, i64_w, i32_w]; rfl
         exact norm_ (by first | (simp only [putAll, Act.put, List.setIfInBounds_toArray, List.set_cons_zero, List.set_cons_succ]; done) | (simp only [putAll, Act.put, List.setIfInBounds_toArray, List.set_cons_zero, List.set_cons_succ]; rfl)) (hJ1_3_4_5 (v201, v205, gb207, gb208) _ ⟨hHeld, (by (with_reducible repeat (first | apply Kd.S_alloc | apply Kd.S_drewN | apply Kd.S_drew)); exact HO202.out), (by (with_reducible repeat (first | apply Kd.S_alloc | apply Kd.S_drewN | apply Kd.S_drew)); exact HO206.out), (by (with_reducible repeat (first | refine blk_drewN ?_ _ | refine blk_drew ?_ | refine blk_alloc ?_ _)); exact BK197.out), (by (with_reducible repeat (first | refine blk_drewN ?_ _ | refine blk_drew ?_ | refine blk_alloc ?_ _)); exact BK207.out), (by (with_reducible repeat (first | refine blk_drewN ?_ _ | refine blk_drew ?_ | refine blk_alloc ?_ _)); exact BK208.out), GW207.out, GE207.out, NB197_207.out, NB207_197.out, NB208_207.out, NB207_208.out, GW208.out, GE208.out, NB197_208.out, NB208_197.out, (by repeat (first | (with_reducible first | exact HB.out | apply below_alloc | apply pw_below_drewN | apply below_drew1 | refine below_set ?_ GE197.out | refine below_set ?_ GE207.out | refine below_set ?_ GE208.out) | exact HB.out))⟩)
       rintro ⟨v201, v205, gb207, gb208⟩ w64 ⟨hS_, h0_, h1_, h2_, h3_, h4_, h5_, h6_, h7_, h8_, h9_, h10_, h11_, h12_, h13_, h14_, h15_⟩
       have n0_ : Aside0 (Kd.S k31 31 w64 w.heap.size (fun k_ => some k_ ≠ (v205 : Value).ownBlock) v201 t200) := ⟨h0_⟩
       have n1_ : Aside0 (Kd.S k31 31 w64 w.heap.size (fun k_ => some k_ ≠ (v201 : Value).ownBlock) v205 t204) := ⟨h1_⟩
       have n2_ : Aside0 (w64.heap[gb197]? = some (.cells #[.int .i64 a0_0, .slice A0_1 l0_1.length c0_1] 24 (0, 0))) := ⟨h2_⟩
       have n3_ : Aside0 (w64.heap[gb207]? = some (.cells #[.int .i64 0, .slice none 0 0] 24 (0, 0))) := ⟨h3_⟩
       have n4_ : Aside0 (w64.heap[gb208]? = some (.cells #[.int .i64 0, .slice none 0 0] 24 (0, 0))) := ⟨h4_⟩
       have n5_ : Aside0 (w.heap.size ≤ gb207) := ⟨h5_⟩
       have n6_ : Aside0 (w.heap.size ≤ gb207) := ⟨h6_⟩
       have n7_ : Aside0 (gb197 ≠ gb207) := ⟨h7_⟩
       have n8_ : Aside0 (gb207 ≠ gb197) := ⟨h8_⟩
       have n9_ : Aside0 (gb208 ≠ gb207) := ⟨h9_⟩
       have n10_ : Aside0 (gb207 ≠ gb208) := ⟨h10_⟩
       have n11_ : Aside0 (w.heap.size ≤ gb208) := ⟨h11_⟩
       have n12_ : Aside0 (w.heap.size ≤ gb208) := ⟨h12_⟩
       have n13_ : Aside0 (gb197 ≠ gb208) := ⟨h13_⟩
       have n14_ : Aside0 (gb208 ≠ gb197) := ⟨h14_⟩
       have n15_ : Aside0 (Below w.heap.size w w64) := ⟨h15_⟩
       clear BK197; clear HB; clear h0_ h1_ h2_ h3_ h4_ h5_ h6_ h7_ h8_ h9_ h10_ h11_ h12_ h13_ h14_ h15_
       have HO202 := n0_
       have HO206 := n1_
       have BK197 := n2_
       have BK207 := n3_
       have BK208 := n4_
       have GW207 := n5_
       have GE207 := n6_
       have NB197_207 := n7_
       have NB207_197 := n8_
       have NB208_207 := n9_
       have NB207_208 := n10_
       have GW208 := n11_
       have GE208 := n12_
       have NB197_208 := n13_
       have NB208_197 := n14_
       have HB := n15_
       clear n0_ n1_ n2_ n3_ n4_ n5_ n6_ n7_ n8_ n9_ n10_ n11_ n12_ n13_ n14_ n15_
       have hHeld : w64.cell? ⟨gb197, 0, none⟩ = some (.int .i64 a0_0) ∧ w64.cell? ⟨gb197, 1, none⟩ = some (.slice A0_1 l0_1.length c0_1) := hS_
       obtain ⟨Ao66, co66, eo66⟩ := Kd.S_slice HO202.out
       (first | subst eo66 | (injection eo66 with f1_ f2_ f3_; have f4_ := f1_.symm; have f5_ := f3_.symm; clear f1_ f2_ f3_; subst f4_; subst f5_))
       obtain ⟨Ao69, co69, eo69⟩ := Kd.S_slice HO206.out
       (first | subst eo69 | (injection eo69 with f1_ f2_ f3_; have f4_ := f1_.symm; have f5_ := f3_.symm; clear f1_ f2_ f3_; subst f4_; subst f5_))
       refine norm_ (a' := ?_) ?_ ?_
       rotate_left; · simp only [putAll, Act.put, List.setIfInBounds_toArray, List.set_cons_zero, List.set_cons_succ]; rfl
       refine one_ (i := 6) (N := none) #[true, true, true, true, true, true, true, false] rfl rfl (one_of HT_.out (by kernel_rfl)) (by decide) (fun K hK => ?_)
       have hs65 : w64.cell? ⟨gb207, 0, none⟩ = some (.int .i64 0) := (blk_cell BK207.out 0).trans rfl
       have hfs65 := blk_frozen BK207.out 0
       have hns65_0 := NB197_207.out
       have hns65_2 := NB208_207.out
       have hms65_0 := NB207_197.out
       have hms65_2 := NB207_208.out
       have hs67 : w64.cell? ⟨gb207, 1, none⟩ = some (.slice none 0 0) := (blk_cell BK207.out 1).trans rfl
       have hfs67 := blk_frozen BK207.out 1
       have hns67_0 := NB197_207.out
       have hns67_2 := NB208_207.out
       have hms67_0 := NB207_197.out
       have hms67_2 := NB207_208.out
       refine skip_ (w1 := ?_) (by rfl) rfl ?_ ?_
       rotate_left; · go_simp; rfl
       refine hK.out _ _ ⟨((cell_far (p := ⟨gb207, _, none⟩) NB197_207.out _).trans (((cell_far (p := ⟨gb207, _, none⟩) NB197_207.out _).trans (hHeld.1)))), ((cell_far (p := ⟨gb207, _, none⟩) NB197_207.out _).trans (((cell_far (p := ⟨gb207, _, none⟩) NB197_207.out _).trans (hHeld.2))))⟩ (fun hHeld => ?_)
       clear hK K
       refine one_ (i := 7) (N := none) #[true, true, true, true, true, true, true, true] rfl rfl (one_of HT_.out (by kernel_rfl)) (by decide) (fun K hK => ?_)
       have hs68 : w64.cell? ⟨gb208, 0, none⟩ = some (.int .i64 0) := (blk_cell BK208.out 0).trans rfl
       have hfs68 := blk_frozen BK208.out 0
       have hns68_0 := NB197_208.out
       have hns68_1 := NB207_208.out
       have hms68_0 := NB208_197.out
       have hms68_1 := NB208_207.out
       have hs70 : w64.cell? ⟨gb208, 1, none⟩ = some (.slice none 0 0) := (blk_cell BK208.out 1).trans rfl
       have hfs70 := blk_frozen BK208.out 1
       have hns70_0 := NB197_208.out
       have hns70_1 := NB207_208.out
       have hms70_0 := NB208_197.out
       have hms70_1 := NB208_207.out
       refine skip_ (w1 := ?_) (by rfl) rfl ?_ ?_
       rotate_left; · go_simp; rfl
       refine hK.out _ _ ⟨((cell_far (p := ⟨gb208, _, none⟩) NB197_208.out _).trans (((cell_far (p := ⟨gb208, _, none⟩) NB197_208.out _).trans (hHeld.1)))), ((cell_far (p := ⟨gb208, _, none⟩) NB197_208.out _).trans (((cell_far (p := ⟨gb208, _, none⟩) NB197_208.out _).trans (hHeld.2))))⟩ (fun hHeld => ?_)
       clear hK K
       refine done_ (done_of HT_.out (by kernel_rfl)) ?_
       have n0_ : Aside0 (Kd.S k31 31 ((((w64.setCell ⟨gb207, 0, none⟩ (.int .i64 t199)).setCell ⟨gb207, 1, none⟩ (.slice Ao66 t200.length co66)).setCell ⟨gb208, 0, none⟩ (.int .i64 t203)).setCell ⟨gb208, 1, none⟩ (.slice Ao69 t204.length co69)) w.heap.size (fun k_ => some k_ ≠ (.slice Ao69 t204.length co69 : Value).ownBlock) (.slice Ao66 t200.length co66) t200) := ⟨by (with_reducible repeat (first | apply Kd.S_alloc | apply Kd.S_drewN | apply Kd.S_drew)); exact Kd.S_mono (Kd.S_far (p := ⟨gb208, 1, none⟩) (Kd.S_far (p := ⟨gb208, 0, none⟩) (Kd.S_far (p := ⟨gb207, 1, none⟩) (Kd.S_far (p := ⟨gb207, 0, none⟩) (Kd.S_types (Kd.S_types HO202.out BK207.out (by decide)) BK208.out (by decide)) (fun _ hk => hk.1.2) (.int .i64 t199)) (fun _ hk => hk.1.2) (.slice Ao66 t200.length co66)) (fun _ hk => hk.2) (.int .i64 t203)) (fun _ hk => hk.2) (.slice Ao69 t204.length co69)) (fun _ hk => hk.1.1)⟩
       have n1_ : Aside0 (Kd.S k31 31 ((((w64.setCell ⟨gb207, 0, none⟩ (.int .i64 t199)).setCell ⟨gb207, 1, none⟩ (.slice Ao66 t200.length co66)).setCell ⟨gb208, 0, none⟩ (.int .i64 t203)).setCell ⟨gb208, 1, none⟩ (.slice Ao69 t204.length co69)) w.heap.size (fun k_ => some k_ ≠ (.slice Ao66 t200.length co66 : Value).ownBlock) (.slice Ao69 t204.length co69) t204) := ⟨by (with_reducible repeat (first | apply Kd.S_alloc | apply Kd.S_drewN | apply Kd.S_drew)); exact Kd.S_mono (Kd.S_far (p := ⟨gb208, 1, none⟩) (Kd.S_far (p := ⟨gb208, 0, none⟩) (Kd.S_far (p := ⟨gb207, 1, none⟩) (Kd.S_far (p := ⟨gb207, 0, none⟩) (Kd.S_types (Kd.S_types HO206.out BK207.out (by decide)) BK208.out (by decide)) (fun _ hk => hk.1.2) (.int .i64 t199)) (fun _ hk => hk.1.2) (.slice Ao66 t200.length co66)) (fun _ hk => hk.2) (.int .i64 t203)) (fun _ hk => hk.2) (.slice Ao69 t204.length co69)) (fun _ hk => hk.1.1)⟩
       have n2_ : Aside0 (((((w64.setCell ⟨gb207, 0, none⟩ (.int .i64 t199)).setCell ⟨gb207, 1, none⟩ (.slice Ao66 t200.length co66)).setCell ⟨gb208, 0, none⟩ (.int .i64 t203)).setCell ⟨gb208, 1, none⟩ (.slice Ao69 t204.length co69)).heap[gb197]? = some (.cells #[.int .i64 a0_0, .slice A0_1 l0_1.length c0_1] 24 (0, 0))) := ⟨by (with_reducible repeat (first | refine blk_drewN ?_ _ | refine blk_drew ?_ | refine blk_alloc ?_ _)); refine blk_far ?_ NB197_208.out _; (with_reducible repeat (first | refine blk_drewN ?_ _ | refine blk_drew ?_ | refine blk_alloc ?_ _)); refine blk_far ?_ NB197_208.out _; (with_reducible repeat (first | refine blk_drewN ?_ _ | refine blk_drew ?_ | refine blk_alloc ?_ _)); refine blk_far ?_ NB197_207.out _; (with_reducible repeat (first | refine blk_drewN ?_ _ | refine blk_drew ?_ | refine blk_alloc ?_ _)); refine blk_far ?_ NB197_207.out _; (with_reducible repeat (first | refine blk_drewN ?_ _ | refine blk_drew ?_ | refine blk_alloc ?_ _)); exact BK197.out⟩
       have n3_ : Aside0 (((((w64.setCell ⟨gb207, 0, none⟩ (.int .i64 t199)).setCell ⟨gb207, 1, none⟩ (.slice Ao66 t200.length co66)).setCell ⟨gb208, 0, none⟩ (.int .i64 t203)).setCell ⟨gb208, 1, none⟩ (.slice Ao69 t204.length co69)).heap[gb207]? = some (.cells #[.int .i64 t199, .slice Ao66 t200.length co66] 24 (0, 0))) := ⟨by (with_reducible repeat (first | refine blk_drewN ?_ _ | refine blk_drew ?_ | refine blk_alloc ?_ _)); refine blk_far ?_ NB207_208.out _; (with_reducible repeat (first | refine blk_drewN ?_ _ | refine blk_drew ?_ | refine blk_alloc ?_ _)); refine blk_far ?_ NB207_208.out _; (with_reducible repeat (first | refine blk_drewN ?_ _ | refine blk_drew ?_ | refine blk_alloc ?_ _)); refine blk_put (cs := #[.int .i64 t199, .slice none 0 0]) ?_ 1 _ rfl; (with_reducible repeat (first | refine blk_drewN ?_ _ | refine blk_drew ?_ | refine blk_alloc ?_ _)); refine blk_put (cs := #[.int .i64 0, .slice none 0 0]) ?_ 0 _ rfl; (with_reducible repeat (first | refine blk_drewN ?_ _ | refine blk_drew ?_ | refine blk_alloc ?_ _)); exact BK207.out⟩
       have n4_ : Aside0 (((((w64.setCell ⟨gb207, 0, none⟩ (.int .i64 t199)).setCell ⟨gb207, 1, none⟩ (.slice Ao66 t200.length co66)).setCell ⟨gb208, 0, none⟩ (.int .i64 t203)).setCell ⟨gb208, 1, none⟩ (.slice Ao69 t204.length co69)).heap[gb208]? = some (.cells #[.int .i64 t203, .slice Ao69 t204.length co69] 24 (0, 0))) := ⟨by (with_reducible repeat (first | refine blk_drewN ?_ _ | refine blk_drew ?_ | refine blk_alloc ?_ _)); refine blk_put (cs := #[.int .i64 t203, .slice none 0 0]) ?_ 1 _ rfl; (with_reducible repeat (first | refine blk_drewN ?_ _ | refine blk_drew ?_ | refine blk_alloc ?_ _)); refine blk_put (cs := #[.int .i64 0, .slice none 0 0]) ?_ 0 _ rfl; (with_reducible repeat (first | refine blk_drewN ?_ _ | refine blk_drew ?_ | refine blk_alloc ?_ _)); refine blk_far ?_ NB208_207.out _; (with_reducible repeat (first | refine blk_drewN ?_ _ | refine blk_drew ?_ | refine blk_alloc ?_ _)); refine blk_far ?_ NB208_207.out _; (with_reducible repeat (first | refine blk_drewN ?_ _ | refine blk_drew ?_ | refine blk_alloc ?_ _)); exact BK208.out⟩
       have n5_ : Aside0 (Below w.heap.size w ((((w64.setCell ⟨gb207, 0, none⟩ (.int .i64 t199)).setCell ⟨gb207, 1, none⟩ (.slice Ao66 t200.length co66)).setCell ⟨gb208, 0, none⟩ (.int .i64 t203)).setCell ⟨gb208, 1, none⟩ (.slice Ao69 t204.length co69))) := ⟨by repeat (first | (with_reducible first | exact HB.out | apply below_alloc | apply pw_below_drewN | apply below_drew1 | refine below_set ?_ GE197.out | refine below_set ?_ GE207.out | refine below_set ?_ GE208.out) | exact HB.out)⟩
       (try clear HO202)
       (try clear HO206)
       (try clear BK197)
       (try clear BK207)
       (try clear BK208)
       (try clear HB)
       generalize ((((w64.setCell ⟨gb207, 0, none⟩ (.int .i64 t199)).setCell ⟨gb207, 1, none⟩ (.slice Ao66 t200.length co66)).setCell ⟨gb208, 0, none⟩ (.int .i64 t203)).setCell ⟨gb208, 1, none⟩ (.slice Ao69 t204.length co69)) = w71 at n0_ n1_ n2_ n3_ n4_ n5_ ⊢
       have HO202 := n0_
       have HO206 := n1_
       have BK197 := n2_
       have BK207 := n3_
       have BK208 := n4_
       have HB := n5_
       clear n0_ n1_ n2_ n3_ n4_ n5_
       try go_wp2
       have n0_ := Aside0.mk (blk_drew BK197.out)
       have n1_ := Aside0.mk (below_drew1 HB.out)
       have n2_ := Aside0.mk (Kd.S_drew HO202.out)
       have n3_ := Aside0.mk (Kd.S_drew HO206.out)
       have n4_ := Aside0.mk (blk_drew BK207.out)
       have n5_ := Aside0.mk (blk_drew BK208.out)
       clear BK197; clear HB; clear HO202; clear HO206; clear BK207; clear BK208
       have BK197 := n0_
       have HB := n1_
       have HO202 := n2_
       have HO206 := n3_
       have BK207 := n4_
       have BK208 := n5_
       clear n0_ n1_ n2_ n3_ n4_ n5_
       refine start_ (n := 19) (S := fun w' => w'.cell? ⟨gb207, 1, none⟩ = some (.slice Ao66 t200.length co66)) (ds := []) #[false, false, false, false, false, false, false, false, false, false, false, false, false, false, false, false, false, false, false] (by kernel_rfl) rfl rfl ((blk_cell BK207.out 1).trans rfl) (fun hHeld => ?_)
       generalize w71.drew = w72 at HO202 HO206 BK197 BK207 BK208 HB hHeld ⊢
       have hnb72 := NB207_197.out
       have hnc72 := NB197_207.out
       have hnb73 := NB207_208.out
       have hnc73 := NB208_207.out
       have hcz74_0 : w72.cell? ⟨gb207, 0, none⟩ = some (.int .i64 t199) := (blk_cell BK207.out 0).trans rfl
       have hcz74_1 : w72.cell? ⟨gb207, 1, none⟩ = some (.slice Ao66 t200.length co66) := (blk_cell BK207.out 1).trans rfl
       have hfz74_0 := blk_frozen BK207.out 0
       have hfz74_1 := blk_frozen BK207.out 1
       have p44 : 0 ≤ (a1 : Int) := of_decide_eq_true (by first | (with_reducible assumption) | assumption)
       have q44 : (a1 : Int) < ((t200.length : Int) : Int) := of_decide_eq_true (by first | (with_reducible assumption) | assumption)
       obtain ⟨go44, co44, eo44, gb44, gl44, cl44, HG44⟩ := Kd.S_form HO202.out (by omega)
       (first | cases eo44 | (injection eo44 with ea_ en_ ec_; (first | subst ea_ | (injection ea_ with ea_; subst ea_)); subst ec_; clear en_))
       have GB44 := Aside0.mk gb44
       have GG44 := Aside0.mk HG44
       clear gb44 gl44 HG44
       obtain ⟨_, ce44, hcl44, hM44, hcc44, hfr44, _, _⟩ := Kd.S_elem HO202.out z31 (a1 : Int) p44 q44
       have hsz44 : k31.sz = 9 := rfl
       simp only [hsz44] at hcc44 hfr44
       clear hsz44
       obtain ⟨ve44_6, rfl, ge44_6⟩ := k31_openM hM44
       have hx44_0 : w72.cell? ⟨go44, (a1 : Int).toNat * 9, none⟩ = some (.string ((rd_T31 t200 a1).f0)) := hcc44 0 _ rfl
       have hx44_1 : w72.cell? ⟨go44, (a1 : Int).toNat * 9 + 1, none⟩ = some (.int .i64 ((rd_T31 t200 a1).f1)) := hcc44 1 _ rfl
       have hx44_2 : w72.cell? ⟨go44, (a1 : Int).toNat * 9 + 2, none⟩ = some (.int .i64 ((rd_T31 t200 a1).f2)) := hcc44 2 _ rfl
       have hx44_3 : w72.cell? ⟨go44, (a1 : Int).toNat * 9 + 3, none⟩ = some (.int .i64 ((rd_T31 t200 a1).f3)) := hcc44 3 _ rfl
       have hx44_4 : w72.cell? ⟨go44, (a1 : Int).toNat * 9 + 4, none⟩ = some (.int .i64 ((rd_T31 t200 a1).f4)) := hcc44 4 _ rfl
       have hx44_5 : w72.cell? ⟨go44, (a1 : Int).toNat * 9 + 5, none⟩ = some (.int .i64 ((rd_T31 t200 a1).f5)) := hcc44 5 _ rfl
       have hx44_6 : w72.cell? ⟨go44, (a1 : Int).toNat * 9 + 6, none⟩ = some (ve44_6) := hcc44 6 _ rfl
       have hx44_7 : w72.cell? ⟨go44, (a1 : Int).toNat * 9 + 7, none⟩ = some (.int .u64 ((rd_T31 t200 a1).f7)) := hcc44 7 _ rfl
       have hx44_8 : w72.cell? ⟨go44, (a1 : Int).toNat * 9 + 8, none⟩ = some (.int .u64 ((rd_T31 t200 a1).f8)) := hcc44 8 _ rfl
       have hf44_0 : w72.frozen? ⟨go44, (a1 : Int).toNat * 9, none⟩ = false := hfr44 0
       have hf44_1 : w72.frozen? ⟨go44, (a1 : Int).toNat * 9 + 1, none⟩ = false := hfr44 1
       have hf44_2 : w72.frozen? ⟨go44, (a1 : Int).toNat * 9 + 2, none⟩ = false := hfr44 2
       have hf44_3 : w72.frozen? ⟨go44, (a1 : Int).toNat * 9 + 3, none⟩ = false := hfr44 3
       have hf44_4 : w72.frozen? ⟨go44, (a1 : Int).toNat * 9 + 4, none⟩ = false := hfr44 4
       have hf44_5 : w72.frozen? ⟨go44, (a1 : Int).toNat * 9 + 5, none⟩ = false := hfr44 5
       have hf44_6 : w72.frozen? ⟨go44, (a1 : Int).toNat * 9 + 6, none⟩ = false := hfr44 6
       have hf44_7 : w72.frozen? ⟨go44, (a1 : Int).toNat * 9 + 7, none⟩ = false := hfr44 7
       have hf44_8 : w72.frozen? ⟨go44, (a1 : Int).toNat * 9 + 8, none⟩ = false := hfr44 8
       clear hcl44 hcc44 hfr44 hM44
       replace p44 := eq_true p44
       replace q44 := eq_true q44
       have HX75 := Aside0.mk (show Kd.S k31 31 w72 w.heap.size (fun k_ => ((fun k_ => some k_ ≠ (.slice Ao69 t204.length co69 : Value).ownBlock)) k_ ∧ ¬ ((fun _ => False)) k_) (.slice (some ⟨go44, 0, none⟩) t200.length co66) t200 from (by (with_reducible repeat (first | apply Kd.S_alloc | apply Kd.S_drewN | apply Kd.S_drew)); exact Kd.S_mono HO202.out (fun k_ hk => ⟨hk, fun e_ => e_⟩)))
       obtain ⟨oki75, ce75, hcl75, hM75, hcc75, hfr75, hoki75, hH75⟩ := Kd.S_elem HX75.out z31 (a1 : Int) (of_decide_eq_true (by first | (with_reducible assumption) | assumption)) (by have h_ : (a1 : Int) < ((t200.length : Int) : Int) := of_decide_eq_true (by first | (with_reducible assumption) | assumption); first | exact h_ | (have e_ := (Kd.S_reads' HO202.out).1; omega) | simpa using h_)
       have hsz75 : k31.sz = 9 := rfl
       simp only [hsz75] at hcc75 hfr75
       clear hsz75
       obtain ⟨ve75_6, rfl, ge75_6⟩ := k31_openM hM75
       have HP75 := Kd.S_seg hH75 (of_decide_eq_true (by first | (with_reducible assumption) | assumption)) (by have h_ : (a1 : Int) < ((t200.length : Int) : Int) := of_decide_eq_true (by first | (with_reducible assumption) | assumption); first | exact h_ | (have e_ := (Kd.S_reads' HO202.out).1; omega) | simpa using h_) (seg := [.int .i64 1]) (j := 3) (show 4 ≤ 9 from by decide) (x' := (⟨(rd_T31 t200 a1).f0, (rd_T31 t200 a1).f1, (rd_T31 t200 a1).f2, 1, (rd_T31 t200 a1).f4, (rd_T31 t200 a1).f5, (rd_T31 t200 a1).f6, (rd_T31 t200 a1).f7, (rd_T31 t200 a1).f8⟩ : S31)) (k31_mkM _ _ _ (⟨(rd_T31 t200 a1).f0, (rd_T31 t200 a1).f1, (rd_T31 t200 a1).f2, 1, (rd_T31 t200 a1).f4, (rd_T31 t200 a1).f5, (rd_T31 t200 a1).f6, (rd_T31 t200 a1).f7, (rd_T31 t200 a1).f8⟩ : S31) (Kd.R_mono ge75_6 (fun _ h_ => Or.inl h_))) (fun _ hk => hk) (fun k_ hk_ => hk_.elim)
       have hx75_3 := hcc75 3 _ rfl
       (try simp only [show (k31).sz = 9 from rfl, Nat.mul_one, Nat.add_zero] at hx75_3)
       have hf75_3 := hfr75 3
       (try simp only [show (k31).sz = 9 from rfl, Nat.mul_one, Nat.add_zero] at hf75_3)
       clear hcl75 hcc75 hfr75 hM75 hoki75 hH75
       refine pure_ (i := 0) (N := some 61) (v := ?_) (a' := ?_) #[true, false, false, false, false, false, false, false, false, false, false, false, false, false, false, false, false, false, false] rfl rfl (by kernel_rfl) (fun _ _ _ h => h) (Or.inl ⟨by rfl, ?_⟩) ?_ ?_
       rotate_left
       ·intro w'
        go_simp
        with_reducible rfl
       rotate_left
       ·simp only [Act.put, List.setIfInBounds_toArray, List.set_cons_zero, List.set_cons_succ, i64_w, i32_w]
        rfl
       refine pure_ (i := 2) (N := some 63) (v := ?_) (a' := ?_) #[true, false, true, false, false, false, false, false, false, false, false, false, false, false, false, false, false, false, false] rfl rfl (by kernel_rfl) (fun _ _ _ h => h) (Or.inl ⟨by rfl, ?_⟩) ?_ ?_
       rotate_left
       ·intro w'
        go_simp
        with_reducible rfl
       rotate_left
       ·simp only [Act.put, List.setIfInBounds_toArray, List.set_cons_zero, List.set_cons_succ, i64_w, i32_w]
        rfl
       refine pure_ (i := 3) (N := some 64) (v := ?_) (a' := ?_) #[true, false, true, true, false, false, false, false, false, false, false, false, false, false, false, false, false, false, false] rfl rfl (by kernel_rfl) (fun _ _ _ h => h) (Or.inl ⟨by rfl, ?_⟩) ?_ ?_
       rotate_left
       ·intro w'
        go_simp
        with_reducible rfl
       rotate_left
       ·simp only [Act.put, List.setIfInBounds_toArray, List.set_cons_zero, List.set_cons_succ, i64_w, i32_w]
        rfl
       refine pure_ (i := 5) (N := some 66) (v := ?_) (a' := ?_) #[true, false, true, true, false, true, false, false, false, false, false, false, false, false, false, false, false, false, false] rfl rfl (by kernel_rfl) (fun _ _ _ h => h) (Or.inl ⟨by rfl, ?_⟩) ?_ ?_
       rotate_left
       ·intro w'
        go_simp
        with_reducible rfl
       rotate_left
       ·simp only [Act.put, List.setIfInBounds_toArray, List.set_cons_zero, List.set_cons_succ, i64_w, i32_w]
        rfl
       refine pure_ (i := 6) (N := some 67) (v := ?_) (a' := ?_) #[true, false, true, true, false, true, true, false, false, false, false, false, false, false, false, false, false, false, false] rfl rfl (by kernel_rfl) (fun _ _ _ h => h) (Or.inl ⟨by rfl, ?_⟩) ?_ ?_
       rotate_left
       ·intro w'
        go_simp
        with_reducible rfl
       rotate_left
       ·simp only [Act.put, List.setIfInBounds_toArray, List.set_cons_zero, List.set_cons_succ, i64_w, i32_w]
        rfl
       refine pure_ (i := 8) (N := some 69) (v := ?_) (a' := ?_) #[true, false, true, true, false, true, true, false, true, false, false, false, false, false, false, false, false, false, false] rfl rfl (by kernel_rfl) (fun _ _ _ h => h) (Or.inl ⟨by rfl, ?_⟩) ?_ ?_
       rotate_left
       ·intro w'
        go_simp
        with_reducible rfl
       rotate_left
       ·simp only [Act.put, List.setIfInBounds_toArray, List.set_cons_zero, List.set_cons_succ, i64_w, i32_w]
        rfl
       refine pure_ (i := 9) (N := some 70) (v := ?_) (a' := ?_) #[true, false, true, true, false, true, true, false, true, true, false, false, false, false, false, false, false, false, false] rfl rfl (by kernel_rfl) (fun _ _ _ h => h) (Or.inl ⟨by rfl, ?_⟩) ?_ ?_
       rotate_left
       ·intro w'
        go_simp
        with_reducible rfl
       rotate_left
       ·simp only [Act.put, List.setIfInBounds_toArray, List.set_cons_zero, List.set_cons_succ, i64_w, i32_w]
        rfl
       refine take_ (i := 1) (N := some 62) (v := ?_) (a' := ?_) #[true, true, true, true, false, true, true, false, true, true, false, false, false, false, false, false, false, false, false] rfl rfl (by kernel_rfl) (fun _ _ _ h => h) (Or.inl ⟨by rfl, ?_⟩) hHeld ?_ ?_
       rotate_left
       ·intro w' s0
        go_simp
        with_reducible rfl
       rotate_left
       ·simp only [Act.put, List.setIfInBounds_toArray, List.set_cons_zero, List.set_cons_succ, i64_w, i32_w]
        rfl
       refine pure_ (i := 10) (N := some 71) (v := ?_) (a' := ?_) #[true, true, true, true, false, true, true, false, true, true, true, false, false, false, false, false, false, false, false] rfl rfl (by kernel_rfl) (fun _ _ _ h => h) (Or.inl ⟨by rfl, ?_⟩) ?_ ?_
       rotate_left
       ·intro w'
        go_simp
        with_reducible rfl
       rotate_left
       ·simp only [Act.put, List.setIfInBounds_toArray, List.set_cons_zero, List.set_cons_succ, i64_w, i32_w]
        rfl
       refine pure_ (i := 11) (N := some 72) (v := ?_) (a' := ?_) #[true, true, true, true, false, true, true, false, true, true, true, true, false, false, false, false, false, false, false] rfl rfl (by kernel_rfl) (fun _ _ _ h => h) (Or.inl ⟨by rfl, ?_⟩) ?_ ?_
       rotate_left
       ·intro w'
        go_simp
        with_reducible rfl
       rotate_left
       ·simp only [Act.put, List.setIfInBounds_toArray, List.set_cons_zero, List.set_cons_succ, i64_w, i32_w]
        rfl
       refine take_ (i := 4) (N := some 65) (v := ?_) (a' := ?_) #[true, true, true, true, true, true, true, false, true, true, true, true, false, false, false, false, false, false, false] rfl rfl (by kernel_rfl) (fun _ _ _ h => h) (Or.inl ⟨by rfl, ?_⟩) hHeld ?_ ?_
       rotate_left
       ·intro w' s0
        go_simp
        with_reducible rfl
       rotate_left
       ·simp only [Act.put, List.setIfInBounds_toArray, List.set_cons_zero, List.set_cons_succ, i64_w, i32_w]
        rfl
       refine take_ (i := 7) (N := some 68) (v := ?_) (a' := ?_) #[true, true, true, true, true, true, true, true, true, true, true, true, false, false, false, false, false, false, false] rfl rfl (by kernel_rfl) (fun _ _ _ h => h) (Or.inl ⟨by rfl, ?_⟩) hHeld ?_ ?_
       rotate_left
       ·intro w' s0
        go_simp
        with_reducible rfl
       rotate_left
       ·simp only [Act.put, List.setIfInBounds_toArray, List.set_cons_zero, List.set_cons_succ, i64_w, i32_w]
        rfl
       refine one_ (i := 12) (N := none) #[true, true, true, true, true, true, true, true, true, true, true, true, true, false, false, false, false, false, false] rfl rfl (by kernel_rfl) (by decide) (fun K hK => ?_)
       refine skip_ (w1 := ?_) (by rfl) rfl ?_ ?_
       rotate_left
       ·go_simp
        rfl
       obtain ⟨w76, hw⟩ : ∃ w_ : World, w_ = w72.setCell ⟨go44, (a1 : Int).toNat * 9 + 3, none⟩ (.int .i64 1) := ⟨_, rfl⟩
       rw [← hw]
       have hg : w72.grownBy w76 (some go44) := (by rw [hw]; exact HP75.2)
       have hp_ : Kd.S k31 31 w76 w.heap.size (fun k_ => some k_ ≠ (.slice Ao69 t204.length co69 : Value).ownBlock) (.slice (some ⟨go44, 0, none⟩) t200.length co66) y209 := (by rw [hw, Ny209.out]; exact HP75.1)
       clear HP75
       have n0_ := Aside0.mk (blk_grown (g := gb197) (o := .cells #[.int .i64 a0_0, .slice A0_1 l0_1.length c0_1] 24 (0, 0)) (by (with_reducible repeat (first | refine blk_drewN ?_ _ | refine blk_drew ?_ | refine blk_alloc ?_ _)); exact BK197.out) hg (Kd.S_ne HO202.out BK197.out (by decide)))
       have n1_ := Aside0.mk (hp_)
       have n2_ := Aside0.mk (Kd.S_after (v := (.slice (some ⟨go44, 0, none⟩) t200.length co66)) (v1 := (.slice (some ⟨go44, 0, none⟩) t200.length co66)) (ok := (fun _ => True)) (by (with_reducible repeat (first | apply Kd.S_alloc | apply Kd.S_drewN | apply Kd.S_drew)); exact Kd.S_mono HO206.out (fun _ hk => ⟨trivial, hk⟩)) hg (.inl rfl))
       have n3_ := Aside0.mk (blk_grown (g := gb207) (o := .cells #[.int .i64 t199, .slice (some ⟨go44, 0, none⟩) t200.length co66] 24 (0, 0)) (by (with_reducible repeat (first | refine blk_drewN ?_ _ | refine blk_drew ?_ | refine blk_alloc ?_ _)); exact BK207.out) hg (Kd.S_ne HO202.out BK207.out (by decide)))
       have n4_ := Aside0.mk (blk_grown (g := gb208) (o := .cells #[.int .i64 t203, .slice Ao69 t204.length co69] 24 (0, 0)) (by (with_reducible repeat (first | refine blk_drewN ?_ _ | refine blk_drew ?_ | refine blk_alloc ?_ _)); exact BK208.out) hg (Kd.S_ne HO202.out BK208.out (by decide)))
       have n5_ := Aside0.mk ((by rw [hw]; exact below_set (HB.out) GB44.out : Below w.heap.size w w76))
       clear BK197
       clear HO202
       clear HO206
       clear BK207
       clear BK208
       clear HB
       have BK197 := n0_
       have HO202 := n1_
       have HO206 := n2_
       have BK207 := n3_
       have BK208 := n4_
       have HB := n5_
       clear n0_ n1_ n2_ n3_ n4_ n5_
       clear hg hw hp_
       refine hK.out _ _ ((blk_cell BK207.out 1).trans rfl) (fun hHeld => ?_)
       clear hK K
       refine pure_ (i := 13) (N := some 73) (v := ?_) (a' := ?_) #[true, true, true, true, true, true, true, true, true, true, true, true, true, true, false, false, false, false, false] rfl rfl (by kernel_rfl) (fun _ _ _ h => h) (Or.inl ⟨by rfl, ?_⟩) ?_ ?_
       rotate_left
       ·intro w'
        go_simp
        with_reducible rfl
       rotate_left
       ·simp only [Act.put, List.setIfInBounds_toArray, List.set_cons_zero, List.set_cons_succ, i64_w, i32_w]
        rfl
       refine pure_ (i := 14) (N := some 74) (v := ?_) (a' := ?_) #[true, true, true, true, true, true, true, true, true, true, true, true, true, true, true, false, false, false, false] rfl rfl (by kernel_rfl) (fun _ _ _ h => h) (Or.inl ⟨by rfl, ?_⟩) ?_ ?_
       rotate_left
       ·intro w'
        go_simp
        with_reducible rfl
       rotate_left
       ·simp only [Act.put, List.setIfInBounds_toArray, List.set_cons_zero, List.set_cons_succ, i64_w, i32_w]
        rfl
       refine one_ (i := 15) (N := none) #[true, true, true, true, true, true, true, true, true, true, true, true, true, true, true, true, false, false, false] rfl rfl (by kernel_rfl) (by decide) (fun K hK => ?_)
       have hcz77_0 : w76.cell? ⟨gb207, 0, none⟩ = some (.int .i64 t199) := (blk_cell BK207.out 0).trans rfl
       have hcz77_1 : w76.cell? ⟨gb207, 1, none⟩ = some (.slice (some ⟨go44, 0, none⟩) t200.length co66) := (blk_cell BK207.out 1).trans rfl
       have hfz77_0 := blk_frozen BK207.out 0
       have hfz77_1 := blk_frozen BK207.out 1
       have p45 : 0 ≤ (a1 : Int) := of_decide_eq_true (by first | (with_reducible assumption) | assumption)
       have q45 : (a1 : Int) < ((t200.length : Int) : Int) := of_decide_eq_true (by first | (with_reducible assumption) | assumption)
       obtain ⟨_, ce45, hcl45, hM45, hcc45, hfr45, _, _⟩ := Kd.S_elem HO202.out z31 (a1 : Int) p45 q45
       obtain ⟨ve45_6, rfl, ge45_6⟩ := k31_openM hM45
       have hx45_0 : w76.cell? ⟨go44, (a1 : Int).toNat * 9, none⟩ = some (.string ((rd_T31 y209 a1).f0)) := hcc45 0 _ rfl
       have hx45_1 : w76.cell? ⟨go44, (a1 : Int).toNat * 9 + 1, none⟩ = some (.int .i64 ((rd_T31 y209 a1).f1)) := hcc45 1 _ rfl
       have hx45_2 : w76.cell? ⟨go44, (a1 : Int).toNat * 9 + 2, none⟩ = some (.int .i64 ((rd_T31 y209 a1).f2)) := hcc45 2 _ rfl
       have hx45_3 : w76.cell? ⟨go44, (a1 : Int).toNat * 9 + 3, none⟩ = some (.int .i64 ((rd_T31 y209 a1).f3)) := hcc45 3 _ rfl
       have hx45_4 : w76.cell? ⟨go44, (a1 : Int).toNat * 9 + 4, none⟩ = some (.int .i64 ((rd_T31 y209 a1).f4)) := hcc45 4 _ rfl
       have hx45_5 : w76.cell? ⟨go44, (a1 : Int).toNat * 9 + 5, none⟩ = some (.int .i64 ((rd_T31 y209 a1).f5)) := hcc45 5 _ rfl
       have hx45_6 : w76.cell? ⟨go44, (a1 : Int).toNat * 9 + 6, none⟩ = some (ve45_6) := hcc45 6 _ rfl
       have hx45_7 : w76.cell? ⟨go44, (a1 : Int).toNat * 9 + 7, none⟩ = some (.int .u64 ((rd_T31 y209 a1).f7)) := hcc45 7 _ rfl
       have hx45_8 : w76.cell? ⟨go44, (a1 : Int).toNat * 9 + 8, none⟩ = some (.int .u64 ((rd_T31 y209 a1).f8)) := hcc45 8 _ rfl
       have hf45_0 : w76.frozen? ⟨go44, (a1 : Int).toNat * 9, none⟩ = false := hfr45 0
       have hf45_1 : w76.frozen? ⟨go44, (a1 : Int).toNat * 9 + 1, none⟩ = false := hfr45 1
       have hf45_2 : w76.frozen? ⟨go44, (a1 : Int).toNat * 9 + 2, none⟩ = false := hfr45 2
       have hf45_3 : w76.frozen? ⟨go44, (a1 : Int).toNat * 9 + 3, none⟩ = false := hfr45 3
       have hf45_4 : w76.frozen? ⟨go44, (a1 : Int).toNat * 9 + 4, none⟩ = false := hfr45 4
       have hf45_5 : w76.frozen? ⟨go44, (a1 : Int).toNat * 9 + 5, none⟩ = false := hfr45 5
       have hf45_6 : w76.frozen? ⟨go44, (a1 : Int).toNat * 9 + 6, none⟩ = false := hfr45 6
       have hf45_7 : w76.frozen? ⟨go44, (a1 : Int).toNat * 9 + 7, none⟩ = false := hfr45 7
       have hf45_8 : w76.frozen? ⟨go44, (a1 : Int).toNat * 9 + 8, none⟩ = false := hfr45 8
       clear hcl45 hcc45 hfr45 hM45
       replace p45 := eq_true p45
       replace q45 := eq_true q45
       have HX78 := Aside0.mk (show Kd.S k31 31 w76 w.heap.size (fun k_ => ((fun k_ => some k_ ≠ (.slice Ao69 t204.length co69 : Value).ownBlock)) k_ ∧ ¬ ((fun _ => False)) k_) (.slice (some ⟨go44, 0, none⟩) t200.length co66) y209 from (by (with_reducible repeat (first | apply Kd.S_alloc | apply Kd.S_drewN | apply Kd.S_drew)); exact Kd.S_mono HO202.out (fun k_ hk => ⟨hk, fun e_ => e_⟩)))
       obtain ⟨oki78, ce78, hcl78, hM78, hcc78, hfr78, hoki78, hH78⟩ := Kd.S_elem HX78.out z31 (a1 : Int) (of_decide_eq_true (by first | (with_reducible assumption) | assumption)) (by have h_ : (a1 : Int) < ((t200.length : Int) : Int) := of_decide_eq_true (by first | (with_reducible assumption) | assumption); first | exact h_ | (have e_ := (Kd.S_reads' HO202.out).1; omega) | simpa using h_)
       obtain ⟨ve78_6, rfl, ge78_6⟩ := k31_openM hM78
       have HP78 := Kd.S_seg hH78 (of_decide_eq_true (by first | (with_reducible assumption) | assumption)) (by have h_ : (a1 : Int) < ((t200.length : Int) : Int) := of_decide_eq_true (by first | (with_reducible assumption) | assumption); first | exact h_ | (have e_ := (Kd.S_reads' HO202.out).1; omega) | simpa using h_) (seg := [.int .i64 a3]) (j := 4) (show 5 ≤ 9 from by decide) (x' := (⟨(rd_T31 y209 a1).f0, (rd_T31 y209 a1).f1, (rd_T31 y209 a1).f2, (rd_T31 y209 a1).f3, a3, (rd_T31 y209 a1).f5, (rd_T31 y209 a1).f6, (rd_T31 y209 a1).f7, (rd_T31 y209 a1).f8⟩ : S31)) (k31_mkM _ _ _ (⟨(rd_T31 y209 a1).f0, (rd_T31 y209 a1).f1, (rd_T31 y209 a1).f2, (rd_T31 y209 a1).f3, a3, (rd_T31 y209 a1).f5, (rd_T31 y209 a1).f6, (rd_T31 y209 a1).f7, (rd_T31 y209 a1).f8⟩ : S31) (Kd.R_mono ge78_6 (fun _ h_ => Or.inl h_))) (fun _ hk => hk) (fun k_ hk_ => hk_.elim)
       have hx78_4 := hcc78 4 _ rfl
       (try simp only [show (k31).sz = 9 from rfl, Nat.mul_one, Nat.add_zero] at hx78_4)
       have hf78_4 := hfr78 4
       (try simp only [show (k31).sz = 9 from rfl, Nat.mul_one, Nat.add_zero] at hf78_4)
       clear hcl78 hcc78 hfr78 hM78 hoki78 hH78
       refine skip_ (w1 := ?_) (by rfl) rfl ?_ ?_
       rotate_left
       ·go_simp
        rfl
       obtain ⟨w79, hw⟩ : ∃ w_ : World, w_ = w76.setCell ⟨go44, (a1 : Int).toNat * 9 + 4, none⟩ (.int .i64 a3) := ⟨_, rfl⟩
       rw [← hw]
       have hg : w76.grownBy w79 (some go44) := (by rw [hw]; exact HP78.2)
       have hp_ : Kd.S k31 31 w79 w.heap.size (fun k_ => some k_ ≠ (.slice Ao69 t204.length co69 : Value).ownBlock) (.slice (some ⟨go44, 0, none⟩) t200.length co66) y210 := (by rw [hw, Ny210.out]; exact HP78.1)
       clear HP78
       have n0_ := Aside0.mk (blk_grown (g := gb197) (o := .cells #[.int .i64 a0_0, .slice A0_1 l0_1.length c0_1] 24 (0, 0)) (by (with_reducible repeat (first | refine blk_drewN ?_ _ | refine blk_drew ?_ | refine blk_alloc ?_ _)); exact BK197.out) hg (Kd.S_ne HO202.out BK197.out (by decide)))
       have n1_ := Aside0.mk (hp_)
       have n2_ := Aside0.mk (Kd.S_after (v := (.slice (some ⟨go44, 0, none⟩) t200.length co66)) (v1 := (.slice (some ⟨go44, 0, none⟩) t200.length co66)) (ok := (fun _ => True)) (by (with_reducible repeat (first | apply Kd.S_alloc | apply Kd.S_drewN | apply Kd.S_drew)); exact HO206.out) hg (.inl rfl))
       have n3_ := Aside0.mk (blk_grown (g := gb207) (o := .cells #[.int .i64 t199, .slice (some ⟨go44, 0, none⟩) t200.length co66] 24 (0, 0)) (by (with_reducible repeat (first | refine blk_drewN ?_ _ | refine blk_drew ?_ | refine blk_alloc ?_ _)); exact BK207.out) hg (Kd.S_ne HO202.out BK207.out (by decide)))
       have n4_ := Aside0.mk (blk_grown (g := gb208) (o := .cells #[.int .i64 t203, .slice Ao69 t204.length co69] 24 (0, 0)) (by (with_reducible repeat (first | refine blk_drewN ?_ _ | refine blk_drew ?_ | refine blk_alloc ?_ _)); exact BK208.out) hg (Kd.S_ne HO202.out BK208.out (by decide)))
       have n5_ := Aside0.mk ((by rw [hw]; exact below_set (HB.out) GB44.out : Below w.heap.size w w79))
       clear BK197
       clear HO202
       clear HO206
       clear BK207
       clear BK208
       clear HB
       have BK197 := n0_
       have HO202 := n1_
       have HO206 := n2_
       have BK207 := n3_
       have BK208 := n4_
       have HB := n5_
       clear n0_ n1_ n2_ n3_ n4_ n5_
       clear hg hw hp_
       refine hK.out _ _ ((blk_cell BK207.out 1).trans rfl) (fun hHeld => ?_)
       clear hK K
       refine pure_ (i := 16) (N := some 75) (v := ?_) (a' := ?_) #[true, true, true, true, true, true, true, true, true, true, true, true, true, true, true, true, true, false, false] rfl rfl (by kernel_rfl) (fun _ _ _ h => h) (Or.inl ⟨by rfl, ?_⟩) ?_ ?_
       rotate_left
       ·intro w'
        go_simp
        with_reducible rfl
       rotate_left
       ·simp only [Act.put, List.setIfInBounds_toArray, List.set_cons_zero, List.set_cons_succ, i64_w, i32_w]
        rfl
       refine pure_ (i := 17) (N := some 76) (v := ?_) (a' := ?_) #[true, true, true, true, true, true, true, true, true, true, true, true, true, true, true, true, true, true, false] rfl rfl (by kernel_rfl) (fun _ _ _ h => h) (Or.inl ⟨by rfl, ?_⟩) ?_ ?_
       rotate_left
       ·intro w'
        go_simp
        with_reducible rfl
       rotate_left
       ·simp only [Act.put, List.setIfInBounds_toArray, List.set_cons_zero, List.set_cons_succ, i64_w, i32_w]
        rfl
       refine one_ (i := 18) (N := none) #[true, true, true, true, true, true, true, true, true, true, true, true, true, true, true, true, true, true, true] rfl rfl (by kernel_rfl) (by decide) (fun K hK => ?_)
       have hcz80_0 : w79.cell? ⟨gb207, 0, none⟩ = some (.int .i64 t199) := (blk_cell BK207.out 0).trans rfl
       have hcz80_1 : w79.cell? ⟨gb207, 1, none⟩ = some (.slice (some ⟨go44, 0, none⟩) t200.length co66) := (blk_cell BK207.out 1).trans rfl
       have hfz80_0 := blk_frozen BK207.out 0
       have hfz80_1 := blk_frozen BK207.out 1
       have p46 : 0 ≤ (a1 : Int) := of_decide_eq_true (by first | (with_reducible assumption) | assumption)
       have q46 : (a1 : Int) < ((t200.length : Int) : Int) := of_decide_eq_true (by first | (with_reducible assumption) | assumption)
       obtain ⟨_, ce46, hcl46, hM46, hcc46, hfr46, _, _⟩ := Kd.S_elem HO202.out z31 (a1 : Int) p46 q46
       obtain ⟨ve46_6, rfl, ge46_6⟩ := k31_openM hM46
       have hx46_0 : w79.cell? ⟨go44, (a1 : Int).toNat * 9, none⟩ = some (.string ((rd_T31 y210 a1).f0)) := hcc46 0 _ rfl
       have hx46_1 : w79.cell? ⟨go44, (a1 : Int).toNat * 9 + 1, none⟩ = some (.int .i64 ((rd_T31 y210 a1).f1)) := hcc46 1 _ rfl
       have hx46_2 : w79.cell? ⟨go44, (a1 : Int).toNat * 9 + 2, none⟩ = some (.int .i64 ((rd_T31 y210 a1).f2)) := hcc46 2 _ rfl
       have hx46_3 : w79.cell? ⟨go44, (a1 : Int).toNat * 9 + 3, none⟩ = some (.int .i64 ((rd_T31 y210 a1).f3)) := hcc46 3 _ rfl
       have hx46_4 : w79.cell? ⟨go44, (a1 : Int).toNat * 9 + 4, none⟩ = some (.int .i64 ((rd_T31 y210 a1).f4)) := hcc46 4 _ rfl
       have hx46_5 : w79.cell? ⟨go44, (a1 : Int).toNat * 9 + 5, none⟩ = some (.int .i64 ((rd_T31 y210 a1).f5)) := hcc46 5 _ rfl
       have hx46_6 : w79.cell? ⟨go44, (a1 : Int).toNat * 9 + 6, none⟩ = some (ve46_6) := hcc46 6 _ rfl
       have hx46_7 : w79.cell? ⟨go44, (a1 : Int).toNat * 9 + 7, none⟩ = some (.int .u64 ((rd_T31 y210 a1).f7)) := hcc46 7 _ rfl
       have hx46_8 : w79.cell? ⟨go44, (a1 : Int).toNat * 9 + 8, none⟩ = some (.int .u64 ((rd_T31 y210 a1).f8)) := hcc46 8 _ rfl
       have hf46_0 : w79.frozen? ⟨go44, (a1 : Int).toNat * 9, none⟩ = false := hfr46 0
       have hf46_1 : w79.frozen? ⟨go44, (a1 : Int).toNat * 9 + 1, none⟩ = false := hfr46 1
       have hf46_2 : w79.frozen? ⟨go44, (a1 : Int).toNat * 9 + 2, none⟩ = false := hfr46 2
       have hf46_3 : w79.frozen? ⟨go44, (a1 : Int).toNat * 9 + 3, none⟩ = false := hfr46 3
       have hf46_4 : w79.frozen? ⟨go44, (a1 : Int).toNat * 9 + 4, none⟩ = false := hfr46 4
       have hf46_5 : w79.frozen? ⟨go44, (a1 : Int).toNat * 9 + 5, none⟩ = false := hfr46 5
       have hf46_6 : w79.frozen? ⟨go44, (a1 : Int).toNat * 9 + 6, none⟩ = false := hfr46 6
       have hf46_7 : w79.frozen? ⟨go44, (a1 : Int).toNat * 9 + 7, none⟩ = false := hfr46 7
       have hf46_8 : w79.frozen? ⟨go44, (a1 : Int).toNat * 9 + 8, none⟩ = false := hfr46 8
       clear hcl46 hcc46 hfr46 hM46
       replace p46 := eq_true p46
       replace q46 := eq_true q46
       have HX81 := Aside0.mk (show Kd.S k31 31 w79 w.heap.size (fun k_ => ((fun k_ => some k_ ≠ (.slice Ao69 t204.length co69 : Value).ownBlock)) k_ ∧ ¬ ((fun _ => False)) k_) (.slice (some ⟨go44, 0, none⟩) t200.length co66) y210 from (by (with_reducible repeat (first | apply Kd.S_alloc | apply Kd.S_drewN | apply Kd.S_drew)); exact Kd.S_mono HO202.out (fun k_ hk => ⟨hk, fun e_ => e_⟩)))
       obtain ⟨oki81, ce81, hcl81, hM81, hcc81, hfr81, hoki81, hH81⟩ := Kd.S_elem HX81.out z31 (a1 : Int) (of_decide_eq_true (by first | (with_reducible assumption) | assumption)) (by have h_ : (a1 : Int) < ((t200.length : Int) : Int) := of_decide_eq_true (by first | (with_reducible assumption) | assumption); first | exact h_ | (have e_ := (Kd.S_reads' HO202.out).1; omega) | simpa using h_)
       obtain ⟨ve81_6, rfl, ge81_6⟩ := k31_openM hM81
       have HP81 := Kd.S_seg hH81 (of_decide_eq_true (by first | (with_reducible assumption) | assumption)) (by have h_ : (a1 : Int) < ((t200.length : Int) : Int) := of_decide_eq_true (by first | (with_reducible assumption) | assumption); first | exact h_ | (have e_ := (Kd.S_reads' HO202.out).1; omega) | simpa using h_) (seg := [.int .i64 0]) (j := 5) (show 6 ≤ 9 from by decide) (x' := (⟨(rd_T31 y210 a1).f0, (rd_T31 y210 a1).f1, (rd_T31 y210 a1).f2, (rd_T31 y210 a1).f3, (rd_T31 y210 a1).f4, 0, (rd_T31 y210 a1).f6, (rd_T31 y210 a1).f7, (rd_T31 y210 a1).f8⟩ : S31)) (k31_mkM _ _ _ (⟨(rd_T31 y210 a1).f0, (rd_T31 y210 a1).f1, (rd_T31 y210 a1).f2, (rd_T31 y210 a1).f3, (rd_T31 y210 a1).f4, 0, (rd_T31 y210 a1).f6, (rd_T31 y210 a1).f7, (rd_T31 y210 a1).f8⟩ : S31) (Kd.R_mono ge81_6 (fun _ h_ => Or.inl h_))) (fun _ hk => hk) (fun k_ hk_ => hk_.elim)
       have hx81_5 := hcc81 5 _ rfl
       (try simp only [show (k31).sz = 9 from rfl, Nat.mul_one, Nat.add_zero] at hx81_5)
       have hf81_5 := hfr81 5
       (try simp only [show (k31).sz = 9 from rfl, Nat.mul_one, Nat.add_zero] at hf81_5)
       clear hcl81 hcc81 hfr81 hM81 hoki81 hH81
       refine skip_ (w1 := ?_) (by rfl) rfl ?_ ?_
       rotate_left
       ·go_simp
        rfl
       obtain ⟨w82, hw⟩ : ∃ w_ : World, w_ = w79.setCell ⟨go44, (a1 : Int).toNat * 9 + 5, none⟩ (.int .i64 0) := ⟨_, rfl⟩
       rw [← hw]
       have hg : w79.grownBy w82 (some go44) := (by rw [hw]; exact HP81.2)
       have hp_ : Kd.S k31 31 w82 w.heap.size (fun k_ => some k_ ≠ (.slice Ao69 t204.length co69 : Value).ownBlock) (.slice (some ⟨go44, 0, none⟩) t200.length co66) y211 := (by rw [hw, Ny211.out]; exact HP81.1)
       clear HP81
       have n0_ := Aside0.mk (blk_grown (g := gb197) (o := .cells #[.int .i64 a0_0, .slice A0_1 l0_1.length c0_1] 24 (0, 0)) (by (with_reducible repeat (first | refine blk_drewN ?_ _ | refine blk_drew ?_ | refine blk_alloc ?_ _)); exact BK197.out) hg (Kd.S_ne HO202.out BK197.out (by decide)))
       have n1_ := Aside0.mk (hp_)
       have n2_ := Aside0.mk (Kd.S_after (v := (.slice (some ⟨go44, 0, none⟩) t200.length co66)) (v1 := (.slice (some ⟨go44, 0, none⟩) t200.length co66)) (ok := (fun _ => True)) (by (with_reducible repeat (first | apply Kd.S_alloc | apply Kd.S_drewN | apply Kd.S_drew)); exact HO206.out) hg (.inl rfl))
       have n3_ := Aside0.mk (blk_grown (g := gb207) (o := .cells #[.int .i64 t199, .slice (some ⟨go44, 0, none⟩) t200.length co66] 24 (0, 0)) (by (with_reducible repeat (first | refine blk_drewN ?_ _ | refine blk_drew ?_ | refine blk_alloc ?_ _)); exact BK207.out) hg (Kd.S_ne HO202.out BK207.out (by decide)))
       have n4_ := Aside0.mk (blk_grown (g := gb208) (o := .cells #[.int .i64 t203, .slice Ao69 t204.length co69] 24 (0, 0)) (by (with_reducible repeat (first | refine blk_drewN ?_ _ | refine blk_drew ?_ | refine blk_alloc ?_ _)); exact BK208.out) hg (Kd.S_ne HO202.out BK208.out (by decide)))
       have n5_ := Aside0.mk ((by rw [hw]; exact below_set (HB.out) GB44.out : Below w.heap.size w w82))
       clear BK197
       clear HO202
       clear HO206
       clear BK207
       clear BK208
       clear HB
       have BK197 := n0_
       have HO202 := n1_
       have HO206 := n2_
       have BK207 := n3_
       have BK208 := n4_
       have HB := n5_
       clear n0_ n1_ n2_ n3_ n4_ n5_
       clear hg hw hp_
       refine hK.out _ _ ((blk_cell BK207.out 1).trans rfl) (fun hHeld => ?_)
       clear hK K
       refine done_ (by kernel_rfl) ?_
       try go_wp2
       have n0_ := Aside0.mk (blk_drew BK197.out)
       have n1_ := Aside0.mk (below_drew1 HB.out)
       have n2_ := Aside0.mk (Kd.S_drew HO202.out)
       have n3_ := Aside0.mk (Kd.S_drew HO206.out)
       have n4_ := Aside0.mk (blk_drew BK207.out)
       have n5_ := Aside0.mk (blk_drew BK208.out)
       clear BK197; clear HB; clear HO202; clear HO206; clear BK207; clear BK208
       have BK197 := n0_
       have HB := n1_
       have HO202 := n2_
       have HO206 := n3_
       have BK207 := n4_
       have BK208 := n5_
       clear n0_ n1_ n2_ n3_ n4_ n5_
       refine start_ (n := 19) (S := fun w' => w'.cell? ⟨gb208, 1, none⟩ = some (.slice Ao69 t204.length co69)) (ds := []) #[false, false, false, false, false, false, false, false, false, false, false, false, false, false, false, false, false, false, false] (by kernel_rfl) rfl rfl ((blk_cell BK208.out 1).trans rfl) (fun hHeld => ?_)
       generalize w82.drew = w83 at HO202 HO206 BK197 BK207 BK208 HB hHeld ⊢
       have hnb83 := NB208_197.out
       have hnc83 := NB197_208.out
       have hcz84_0 : w83.cell? ⟨gb208, 0, none⟩ = some (.int .i64 t203) := (blk_cell BK208.out 0).trans rfl
       have hcz84_1 : w83.cell? ⟨gb208, 1, none⟩ = some (.slice Ao69 t204.length co69) := (blk_cell BK208.out 1).trans rfl
       have hfz84_0 := blk_frozen BK208.out 0
       have hfz84_1 := blk_frozen BK208.out 1
       have p48 : 0 ≤ (a1 : Int) := of_decide_eq_true (by first | (with_reducible assumption) | assumption)
       have q48 : (a1 : Int) < ((t204.length : Int) : Int) := of_decide_eq_true (by first | (with_reducible assumption) | assumption)
       obtain ⟨go48, co48, eo48, gb48, gl48, cl48, HG48⟩ := Kd.S_form HO206.out (by omega)
       (first | cases eo48 | (injection eo48 with ea_ en_ ec_; (first | subst ea_ | (injection ea_ with ea_; subst ea_)); subst ec_; clear en_))
       have GB48 := Aside0.mk gb48
       have GG48 := Aside0.mk HG48
       clear gb48 gl48 HG48
       obtain ⟨_, ce48, hcl48, hM48, hcc48, hfr48, _, _⟩ := Kd.S_elem HO206.out z31 (a1 : Int) p48 q48
       obtain ⟨ve48_6, rfl, ge48_6⟩ := k31_openM hM48
       have hx48_0 : w83.cell? ⟨go48, (a1 : Int).toNat * 9, none⟩ = some (.string ((rd_T31 t204 a1).f0)) := hcc48 0 _ rfl
       have hx48_1 : w83.cell? ⟨go48, (a1 : Int).toNat * 9 + 1, none⟩ = some (.int .i64 ((rd_T31 t204 a1).f1)) := hcc48 1 _ rfl
       have hx48_2 : w83.cell? ⟨go48, (a1 : Int).toNat * 9 + 2, none⟩ = some (.int .i64 ((rd_T31 t204 a1).f2)) := hcc48 2 _ rfl
       have hx48_3 : w83.cell? ⟨go48, (a1 : Int).toNat * 9 + 3, none⟩ = some (.int .i64 ((rd_T31 t204 a1).f3)) := hcc48 3 _ rfl
       have hx48_4 : w83.cell? ⟨go48, (a1 : Int).toNat * 9 + 4, none⟩ = some (.int .i64 ((rd_T31 t204 a1).f4)) := hcc48 4 _ rfl
       have hx48_5 : w83.cell? ⟨go48, (a1 : Int).toNat * 9 + 5, none⟩ = some (.int .i64 ((rd_T31 t204 a1).f5)) := hcc48 5 _ rfl
       have hx48_6 : w83.cell? ⟨go48, (a1 : Int).toNat * 9 + 6, none⟩ = some (ve48_6) := hcc48 6 _ rfl
       have hx48_7 : w83.cell? ⟨go48, (a1 : Int).toNat * 9 + 7, none⟩ = some (.int .u64 ((rd_T31 t204 a1).f7)) := hcc48 7 _ rfl
       have hx48_8 : w83.cell? ⟨go48, (a1 : Int).toNat * 9 + 8, none⟩ = some (.int .u64 ((rd_T31 t204 a1).f8)) := hcc48 8 _ rfl
       have hf48_0 : w83.frozen? ⟨go48, (a1 : Int).toNat * 9, none⟩ = false := hfr48 0
       have hf48_1 : w83.frozen? ⟨go48, (a1 : Int).toNat * 9 + 1, none⟩ = false := hfr48 1
       have hf48_2 : w83.frozen? ⟨go48, (a1 : Int).toNat * 9 + 2, none⟩ = false := hfr48 2
       have hf48_3 : w83.frozen? ⟨go48, (a1 : Int).toNat * 9 + 3, none⟩ = false := hfr48 3
       have hf48_4 : w83.frozen? ⟨go48, (a1 : Int).toNat * 9 + 4, none⟩ = false := hfr48 4
       have hf48_5 : w83.frozen? ⟨go48, (a1 : Int).toNat * 9 + 5, none⟩ = false := hfr48 5
       have hf48_6 : w83.frozen? ⟨go48, (a1 : Int).toNat * 9 + 6, none⟩ = false := hfr48 6
       have hf48_7 : w83.frozen? ⟨go48, (a1 : Int).toNat * 9 + 7, none⟩ = false := hfr48 7
       have hf48_8 : w83.frozen? ⟨go48, (a1 : Int).toNat * 9 + 8, none⟩ = false := hfr48 8
       clear hcl48 hcc48 hfr48 hM48
       replace p48 := eq_true p48
       replace q48 := eq_true q48
       have n_ := Aside0.mk (Kd.S_mono (ok' := (fun k_ => some k_ ≠ (.slice (some ⟨go44, 0, none⟩) t200.length co66 : Value).ownBlock)) HO206.out (fun k_ hk => hk.2))
       clear HO206
       have HO206 := n_
       clear n_
       have HX85 := Aside0.mk (show Kd.S k31 31 w83 w.heap.size (fun k_ => ((fun k_ => some k_ ≠ (.slice (some ⟨go44, 0, none⟩) t200.length co66 : Value).ownBlock)) k_ ∧ ¬ ((fun _ => False)) k_) (.slice (some ⟨go48, 0, none⟩) t204.length co69) t204 from (by (with_reducible repeat (first | apply Kd.S_alloc | apply Kd.S_drewN | apply Kd.S_drew)); exact Kd.S_mono HO206.out (fun k_ hk => ⟨hk, fun e_ => e_⟩)))
       obtain ⟨oki85, ce85, hcl85, hM85, hcc85, hfr85, hoki85, hH85⟩ := Kd.S_elem HX85.out z31 (a1 : Int) (of_decide_eq_true (by first | (with_reducible assumption) | assumption)) (by have h_ : (a1 : Int) < ((t204.length : Int) : Int) := of_decide_eq_true (by first | (with_reducible assumption) | assumption); first | exact h_ | (have e_ := (Kd.S_reads' HO206.out).1; omega) | simpa using h_)
       obtain ⟨ve85_6, rfl, ge85_6⟩ := k31_openM hM85
       have HP85 := Kd.S_seg hH85 (of_decide_eq_true (by first | (with_reducible assumption) | assumption)) (by have h_ : (a1 : Int) < ((t204.length : Int) : Int) := of_decide_eq_true (by first | (with_reducible assumption) | assumption); first | exact h_ | (have e_ := (Kd.S_reads' HO206.out).1; omega) | simpa using h_) (seg := [.int .i64 2]) (j := 3) (show 4 ≤ 9 from by decide) (x' := (⟨(rd_T31 t204 a1).f0, (rd_T31 t204 a1).f1, (rd_T31 t204 a1).f2, 2, (rd_T31 t204 a1).f4, (rd_T31 t204 a1).f5, (rd_T31 t204 a1).f6, (rd_T31 t204 a1).f7, (rd_T31 t204 a1).f8⟩ : S31)) (k31_mkM _ _ _ (⟨(rd_T31 t204 a1).f0, (rd_T31 t204 a1).f1, (rd_T31 t204 a1).f2, 2, (rd_T31 t204 a1).f4, (rd_T31 t204 a1).f5, (rd_T31 t204 a1).f6, (rd_T31 t204 a1).f7, (rd_T31 t204 a1).f8⟩ : S31) (Kd.R_mono ge85_6 (fun _ h_ => Or.inl h_))) (fun _ hk => hk) (fun k_ hk_ => hk_.elim)
       have hx85_3 := hcc85 3 _ rfl
       (try simp only [show (k31).sz = 9 from rfl, Nat.mul_one, Nat.add_zero] at hx85_3)
       have hf85_3 := hfr85 3
       (try simp only [show (k31).sz = 9 from rfl, Nat.mul_one, Nat.add_zero] at hf85_3)
       clear hcl85 hcc85 hfr85 hM85 hoki85 hH85
       refine pure_ (i := 0) (N := some 77) (v := ?_) (a' := ?_) #[true, false, false, false, false, false, false, false, false, false, false, false, false, false, false, false, false, false, false] rfl rfl (by kernel_rfl) (fun _ _ _ h => h) (Or.inl ⟨by rfl, ?_⟩) ?_ ?_
       rotate_left
       ·intro w'
        go_simp
        with_reducible rfl
       rotate_left
       ·simp only [Act.put, List.setIfInBounds_toArray, List.set_cons_zero, List.set_cons_succ, i64_w, i32_w]
        rfl
       refine pure_ (i := 2) (N := some 79) (v := ?_) (a' := ?_) #[true, false, true, false, false, false, false, false, false, false, false, false, false, false, false, false, false, false, false] rfl rfl (by kernel_rfl) (fun _ _ _ h => h) (Or.inl ⟨by rfl, ?_⟩) ?_ ?_
       rotate_left
       ·intro w'
        go_simp
        with_reducible rfl
       rotate_left
       ·simp only [Act.put, List.setIfInBounds_toArray, List.set_cons_zero, List.set_cons_succ, i64_w, i32_w]
        rfl
       refine pure_ (i := 3) (N := some 80) (v := ?_) (a' := ?_) #[true, false, true, true, false, false, false, false, false, false, false, false, false, false, false, false, false, false, false] rfl rfl (by kernel_rfl) (fun _ _ _ h => h) (Or.inl ⟨by rfl, ?_⟩) ?_ ?_
       rotate_left
       ·intro w'
        go_simp
        with_reducible rfl
       rotate_left
       ·simp only [Act.put, List.setIfInBounds_toArray, List.set_cons_zero, List.set_cons_succ, i64_w, i32_w]
        rfl
       refine pure_ (i := 5) (N := some 82) (v := ?_) (a' := ?_) #[true, false, true, true, false, true, false, false, false, false, false, false, false, false, false, false, false, false, false] rfl rfl (by kernel_rfl) (fun _ _ _ h => h) (Or.inl ⟨by rfl, ?_⟩) ?_ ?_
       rotate_left
       ·intro w'
        go_simp
        with_reducible rfl
       rotate_left
       ·simp only [Act.put, List.setIfInBounds_toArray, List.set_cons_zero, List.set_cons_succ, i64_w, i32_w]
        rfl
       refine pure_ (i := 6) (N := some 83) (v := ?_) (a' := ?_) #[true, false, true, true, false, true, true, false, false, false, false, false, false, false, false, false, false, false, false] rfl rfl (by kernel_rfl) (fun _ _ _ h => h) (Or.inl ⟨by rfl, ?_⟩) ?_ ?_
       rotate_left
       ·intro w'
        go_simp
        with_reducible rfl
       rotate_left
       ·simp only [Act.put, List.setIfInBounds_toArray, List.set_cons_zero, List.set_cons_succ, i64_w, i32_w]
        rfl
       refine pure_ (i := 8) (N := some 85) (v := ?_) (a' := ?_) #[true, false, true, true, false, true, true, false, true, false, false, false, false, false, false, false, false, false, false] rfl rfl (by kernel_rfl) (fun _ _ _ h => h) (Or.inl ⟨by rfl, ?_⟩) ?_ ?_
       rotate_left
       ·intro w'
        go_simp
        with_reducible rfl
       rotate_left
       ·simp only [Act.put, List.setIfInBounds_toArray, List.set_cons_zero, List.set_cons_succ, i64_w, i32_w]
        rfl
       refine pure_ (i := 9) (N := some 86) (v := ?_) (a' := ?_) #[true, false, true, true, false, true, true, false, true, true, false, false, false, false, false, false, false, false, false] rfl rfl (by kernel_rfl) (fun _ _ _ h => h) (Or.inl ⟨by rfl, ?_⟩) ?_ ?_
       rotate_left
       ·intro w'
        go_simp
        with_reducible rfl
       rotate_left
       ·simp only [Act.put, List.setIfInBounds_toArray, List.set_cons_zero, List.set_cons_succ, i64_w, i32_w]
        rfl
       refine take_ (i := 1) (N := some 78) (v := ?_) (a' := ?_) #[true, true, true, true, false, true, true, false, true, true, false, false, false, false, false, false, false, false, false] rfl rfl (by kernel_rfl) (fun _ _ _ h => h) (Or.inl ⟨by rfl, ?_⟩) hHeld ?_ ?_
       rotate_left
       ·intro w' s0
        go_simp
        with_reducible rfl
       rotate_left
       ·simp only [Act.put, List.setIfInBounds_toArray, List.set_cons_zero, List.set_cons_succ, i64_w, i32_w]
        rfl
       refine pure_ (i := 10) (N := some 87) (v := ?_) (a' := ?_) #[true, true, true, true, false, true, true, false, true, true, true, false, false, false, false, false, false, false, false] rfl rfl (by kernel_rfl) (fun _ _ _ h => h) (Or.inl ⟨by rfl, ?_⟩) ?_ ?_
       rotate_left
       ·intro w'
        go_simp
        with_reducible rfl
       rotate_left
       ·simp only [Act.put, List.setIfInBounds_toArray, List.set_cons_zero, List.set_cons_succ, i64_w, i32_w]
        rfl
       refine pure_ (i := 11) (N := some 88) (v := ?_) (a' := ?_) #[true, true, true, true, false, true, true, false, true, true, true, true, false, false, false, false, false, false, false] rfl rfl (by kernel_rfl) (fun _ _ _ h => h) (Or.inl ⟨by rfl, ?_⟩) ?_ ?_
       rotate_left
       ·intro w'
        go_simp
        with_reducible rfl
       rotate_left
       ·simp only [Act.put, List.setIfInBounds_toArray, List.set_cons_zero, List.set_cons_succ, i64_w, i32_w]
        rfl
       refine take_ (i := 4) (N := some 81) (v := ?_) (a' := ?_) #[true, true, true, true, true, true, true, false, true, true, true, true, false, false, false, false, false, false, false] rfl rfl (by kernel_rfl) (fun _ _ _ h => h) (Or.inl ⟨by rfl, ?_⟩) hHeld ?_ ?_
       rotate_left
       ·intro w' s0
        go_simp
        with_reducible rfl
       rotate_left
       ·simp only [Act.put, List.setIfInBounds_toArray, List.set_cons_zero, List.set_cons_succ, i64_w, i32_w]
        rfl
       refine take_ (i := 7) (N := some 84) (v := ?_) (a' := ?_) #[true, true, true, true, true, true, true, true, true, true, true, true, false, false, false, false, false, false, false] rfl rfl (by kernel_rfl) (fun _ _ _ h => h) (Or.inl ⟨by rfl, ?_⟩) hHeld ?_ ?_
       rotate_left
       ·intro w' s0
        go_simp
        with_reducible rfl
       rotate_left
       ·simp only [Act.put, List.setIfInBounds_toArray, List.set_cons_zero, List.set_cons_succ, i64_w, i32_w]
        rfl
       refine one_ (i := 12) (N := none) #[true, true, true, true, true, true, true, true, true, true, true, true, true, false, false, false, false, false, false] rfl rfl (by kernel_rfl) (by decide) (fun K hK => ?_)
       refine skip_ (w1 := ?_) (by rfl) rfl ?_ ?_
       rotate_left
       ·go_simp
        rfl
       obtain ⟨w86, hw⟩ : ∃ w_ : World, w_ = w83.setCell ⟨go48, (a1 : Int).toNat * 9 + 3, none⟩ (.int .i64 2) := ⟨_, rfl⟩
       rw [← hw]
       have hg : w83.grownBy w86 (some go48) := (by rw [hw]; exact HP85.2)
       have hp_ : Kd.S k31 31 w86 w.heap.size (fun k_ => some k_ ≠ (.slice (some ⟨go44, 0, none⟩) t200.length co66 : Value).ownBlock) (.slice (some ⟨go48, 0, none⟩) t204.length co69) y212 := (by rw [hw, Ny212.out]; exact HP85.1)
       clear HP85
       have n0_ := Aside0.mk (blk_grown (g := gb197) (o := .cells #[.int .i64 a0_0, .slice A0_1 l0_1.length c0_1] 24 (0, 0)) (by (with_reducible repeat (first | refine blk_drewN ?_ _ | refine blk_drew ?_ | refine blk_alloc ?_ _)); exact BK197.out) hg (Kd.S_ne HO206.out BK197.out (by decide)))
       have n1_ := Aside0.mk (Kd.S_after (v := (.slice (some ⟨go48, 0, none⟩) t204.length co69)) (v1 := (.slice (some ⟨go48, 0, none⟩) t204.length co69)) (ok := (fun _ => True)) (by (with_reducible repeat (first | apply Kd.S_alloc | apply Kd.S_drewN | apply Kd.S_drew)); exact Kd.S_mono HO202.out (fun _ hk => ⟨trivial, hk⟩)) hg (.inl rfl))
       have n2_ := Aside0.mk (hp_)
       have n3_ := Aside0.mk (blk_grown (g := gb207) (o := .cells #[.int .i64 t199, .slice (some ⟨go44, 0, none⟩) t200.length co66] 24 (0, 0)) (by (with_reducible repeat (first | refine blk_drewN ?_ _ | refine blk_drew ?_ | refine blk_alloc ?_ _)); exact BK207.out) hg (Kd.S_ne HO206.out BK207.out (by decide)))
       have n4_ := Aside0.mk (blk_grown (g := gb208) (o := .cells #[.int .i64 t203, .slice (some ⟨go48, 0, none⟩) t204.length co69] 24 (0, 0)) (by (with_reducible repeat (first | refine blk_drewN ?_ _ | refine blk_drew ?_ | refine blk_alloc ?_ _)); exact BK208.out) hg (Kd.S_ne HO206.out BK208.out (by decide)))
       have n5_ := Aside0.mk ((by rw [hw]; exact below_set (HB.out) GB48.out : Below w.heap.size w w86))
       clear BK197
       clear HO202
       clear HO206
       clear BK207
       clear BK208
       clear HB
       have BK197 := n0_
       have HO202 := n1_
       have HO206 := n2_
       have BK207 := n3_
       have BK208 := n4_
       have HB := n5_
       clear n0_ n1_ n2_ n3_ n4_ n5_
       clear hg hw hp_
       refine hK.out _ _ ((blk_cell BK208.out 1).trans rfl) (fun hHeld => ?_)
       clear hK K
       refine pure_ (i := 13) (N := some 89) (v := ?_) (a' := ?_) #[true, true, true, true, true, true, true, true, true, true, true, true, true, true, false, false, false, false, false] rfl rfl (by kernel_rfl) (fun _ _ _ h => h) (Or.inl ⟨by rfl, ?_⟩) ?_ ?_
       rotate_left
       ·intro w'
        go_simp
        with_reducible rfl
       rotate_left
       ·simp only [Act.put, List.setIfInBounds_toArray, List.set_cons_zero, List.set_cons_succ, i64_w, i32_w]
        rfl
       refine pure_ (i := 14) (N := some 90) (v := ?_) (a' := ?_) #[true, true, true, true, true, true, true, true, true, true, true, true, true, true, true, false, false, false, false] rfl rfl (by kernel_rfl) (fun _ _ _ h => h) (Or.inl ⟨by rfl, ?_⟩) ?_ ?_
       rotate_left
       ·intro w'
        go_simp
        with_reducible rfl
       rotate_left
       ·simp only [Act.put, List.setIfInBounds_toArray, List.set_cons_zero, List.set_cons_succ, i64_w, i32_w]
        rfl
       refine one_ (i := 15) (N := none) #[true, true, true, true, true, true, true, true, true, true, true, true, true, true, true, true, false, false, false] rfl rfl (by kernel_rfl) (by decide) (fun K hK => ?_)
       have hcz87_0 : w86.cell? ⟨gb208, 0, none⟩ = some (.int .i64 t203) := (blk_cell BK208.out 0).trans rfl
       have hcz87_1 : w86.cell? ⟨gb208, 1, none⟩ = some (.slice (some ⟨go48, 0, none⟩) t204.length co69) := (blk_cell BK208.out 1).trans rfl
       have hfz87_0 := blk_frozen BK208.out 0
       have hfz87_1 := blk_frozen BK208.out 1
       have p49 : 0 ≤ (a1 : Int) := of_decide_eq_true (by first | (with_reducible assumption) | assumption)
       have q49 : (a1 : Int) < ((t204.length : Int) : Int) := of_decide_eq_true (by first | (with_reducible assumption) | assumption)
       obtain ⟨_, ce49, hcl49, hM49, hcc49, hfr49, _, _⟩ := Kd.S_elem HO206.out z31 (a1 : Int) p49 q49
       obtain ⟨ve49_6, rfl, ge49_6⟩ := k31_openM hM49
       have hx49_0 : w86.cell? ⟨go48, (a1 : Int).toNat * 9, none⟩ = some (.string ((rd_T31 y212 a1).f0)) := hcc49 0 _ rfl
       have hx49_1 : w86.cell? ⟨go48, (a1 : Int).toNat * 9 + 1, none⟩ = some (.int .i64 ((rd_T31 y212 a1).f1)) := hcc49 1 _ rfl
       have hx49_2 : w86.cell? ⟨go48, (a1 : Int).toNat * 9 + 2, none⟩ = some (.int .i64 ((rd_T31 y212 a1).f2)) := hcc49 2 _ rfl
       have hx49_3 : w86.cell? ⟨go48, (a1 : Int).toNat * 9 + 3, none⟩ = some (.int .i64 ((rd_T31 y212 a1).f3)) := hcc49 3 _ rfl
       have hx49_4 : w86.cell? ⟨go48, (a1 : Int).toNat * 9 + 4, none⟩ = some (.int .i64 ((rd_T31 y212 a1).f4)) := hcc49 4 _ rfl
       have hx49_5 : w86.cell? ⟨go48, (a1 : Int).toNat * 9 + 5, none⟩ = some (.int .i64 ((rd_T31 y212 a1).f5)) := hcc49 5 _ rfl
       have hx49_6 : w86.cell? ⟨go48, (a1 : Int).toNat * 9 + 6, none⟩ = some (ve49_6) := hcc49 6 _ rfl
       have hx49_7 : w86.cell? ⟨go48, (a1 : Int).toNat * 9 + 7, none⟩ = some (.int .u64 ((rd_T31 y212 a1).f7)) := hcc49 7 _ rfl
       have hx49_8 : w86.cell? ⟨go48, (a1 : Int).toNat * 9 + 8, none⟩ = some (.int .u64 ((rd_T31 y212 a1).f8)) := hcc49 8 _ rfl
       have hf49_0 : w86.frozen? ⟨go48, (a1 : Int).toNat * 9, none⟩ = false := hfr49 0
       have hf49_1 : w86.frozen? ⟨go48, (a1 : Int).toNat * 9 + 1, none⟩ = false := hfr49 1
       have hf49_2 : w86.frozen? ⟨go48, (a1 : Int).toNat * 9 + 2, none⟩ = false := hfr49 2
       have hf49_3 : w86.frozen? ⟨go48, (a1 : Int).toNat * 9 + 3, none⟩ = false := hfr49 3
       have hf49_4 : w86.frozen? ⟨go48, (a1 : Int).toNat * 9 + 4, none⟩ = false := hfr49 4
       have hf49_5 : w86.frozen? ⟨go48, (a1 : Int).toNat * 9 + 5, none⟩ = false := hfr49 5
       have hf49_6 : w86.frozen? ⟨go48, (a1 : Int).toNat * 9 + 6, none⟩ = false := hfr49 6
       have hf49_7 : w86.frozen? ⟨go48, (a1 : Int).toNat * 9 + 7, none⟩ = false := hfr49 7
       have hf49_8 : w86.frozen? ⟨go48, (a1 : Int).toNat * 9 + 8, none⟩ = false := hfr49 8
       clear hcl49 hcc49 hfr49 hM49
       replace p49 := eq_true p49
       replace q49 := eq_true q49
       have HX88 := Aside0.mk (show Kd.S k31 31 w86 w.heap.size (fun k_ => ((fun k_ => some k_ ≠ (.slice (some ⟨go44, 0, none⟩) t200.length co66 : Value).ownBlock)) k_ ∧ ¬ ((fun _ => False)) k_) (.slice (some ⟨go48, 0, none⟩) t204.length co69) y212 from (by (with_reducible repeat (first | apply Kd.S_alloc | apply Kd.S_drewN | apply Kd.S_drew)); exact Kd.S_mono HO206.out (fun k_ hk => ⟨hk, fun e_ => e_⟩)))
       obtain ⟨oki88, ce88, hcl88, hM88, hcc88, hfr88, hoki88, hH88⟩ := Kd.S_elem HX88.out z31 (a1 : Int) (of_decide_eq_true (by first | (with_reducible assumption) | assumption)) (by have h_ : (a1 : Int) < ((t204.length : Int) : Int) := of_decide_eq_true (by first | (with_reducible assumption) | assumption); first | exact h_ | (have e_ := (Kd.S_reads' HO206.out).1; omega) | simpa using h_)
       obtain ⟨ve88_6, rfl, ge88_6⟩ := k31_openM hM88
       have HP88 := Kd.S_seg hH88 (of_decide_eq_true (by first | (with_reducible assumption) | assumption)) (by have h_ : (a1 : Int) < ((t204.length : Int) : Int) := of_decide_eq_true (by first | (with_reducible assumption) | assumption); first | exact h_ | (have e_ := (Kd.S_reads' HO206.out).1; omega) | simpa using h_) (seg := [.int .i64 0]) (j := 4) (show 5 ≤ 9 from by decide) (x' := (⟨(rd_T31 y212 a1).f0, (rd_T31 y212 a1).f1, (rd_T31 y212 a1).f2, (rd_T31 y212 a1).f3, 0, (rd_T31 y212 a1).f5, (rd_T31 y212 a1).f6, (rd_T31 y212 a1).f7, (rd_T31 y212 a1).f8⟩ : S31)) (k31_mkM _ _ _ (⟨(rd_T31 y212 a1).f0, (rd_T31 y212 a1).f1, (rd_T31 y212 a1).f2, (rd_T31 y212 a1).f3, 0, (rd_T31 y212 a1).f5, (rd_T31 y212 a1).f6, (rd_T31 y212 a1).f7, (rd_T31 y212 a1).f8⟩ : S31) (Kd.R_mono ge88_6 (fun _ h_ => Or.inl h_))) (fun _ hk => hk) (fun k_ hk_ => hk_.elim)
       have hx88_4 := hcc88 4 _ rfl
       (try simp only [show (k31).sz = 9 from rfl, Nat.mul_one, Nat.add_zero] at hx88_4)
       have hf88_4 := hfr88 4
       (try simp only [show (k31).sz = 9 from rfl, Nat.mul_one, Nat.add_zero] at hf88_4)
       clear hcl88 hcc88 hfr88 hM88 hoki88 hH88
       refine skip_ (w1 := ?_) (by rfl) rfl ?_ ?_
       rotate_left
       ·go_simp
        rfl
       obtain ⟨w89, hw⟩ : ∃ w_ : World, w_ = w86.setCell ⟨go48, (a1 : Int).toNat * 9 + 4, none⟩ (.int .i64 0) := ⟨_, rfl⟩
       rw [← hw]
       have hg : w86.grownBy w89 (some go48) := (by rw [hw]; exact HP88.2)
       have hp_ : Kd.S k31 31 w89 w.heap.size (fun k_ => some k_ ≠ (.slice (some ⟨go44, 0, none⟩) t200.length co66 : Value).ownBlock) (.slice (some ⟨go48, 0, none⟩) t204.length co69) y213 := (by rw [hw, Ny213.out]; exact HP88.1)
       clear HP88
       have n0_ := Aside0.mk (blk_grown (g := gb197) (o := .cells #[.int .i64 a0_0, .slice A0_1 l0_1.length c0_1] 24 (0, 0)) (by (with_reducible repeat (first | refine blk_drewN ?_ _ | refine blk_drew ?_ | refine blk_alloc ?_ _)); exact BK197.out) hg (Kd.S_ne HO206.out BK197.out (by decide)))
       have n1_ := Aside0.mk (Kd.S_after (v := (.slice (some ⟨go48, 0, none⟩) t204.length co69)) (v1 := (.slice (some ⟨go48, 0, none⟩) t204.length co69)) (ok := (fun _ => True)) (by (with_reducible repeat (first | apply Kd.S_alloc | apply Kd.S_drewN | apply Kd.S_drew)); exact HO202.out) hg (.inl rfl))
       have n2_ := Aside0.mk (hp_)
       have n3_ := Aside0.mk (blk_grown (g := gb207) (o := .cells #[.int .i64 t199, .slice (some ⟨go44, 0, none⟩) t200.length co66] 24 (0, 0)) (by (with_reducible repeat (first | refine blk_drewN ?_ _ | refine blk_drew ?_ | refine blk_alloc ?_ _)); exact BK207.out) hg (Kd.S_ne HO206.out BK207.out (by decide)))
       have n4_ := Aside0.mk (blk_grown (g := gb208) (o := .cells #[.int .i64 t203, .slice (some ⟨go48, 0, none⟩) t204.length co69] 24 (0, 0)) (by (with_reducible repeat (first | refine blk_drewN ?_ _ | refine blk_drew ?_ | refine blk_alloc ?_ _)); exact BK208.out) hg (Kd.S_ne HO206.out BK208.out (by decide)))
       have n5_ := Aside0.mk ((by rw [hw]; exact below_set (HB.out) GB48.out : Below w.heap.size w w89))
       clear BK197
       clear HO202
       clear HO206
       clear BK207
       clear BK208
       clear HB
       have BK197 := n0_
       have HO202 := n1_
       have HO206 := n2_
       have BK207 := n3_
       have BK208 := n4_
       have HB := n5_
       clear n0_ n1_ n2_ n3_ n4_ n5_
       clear hg hw hp_
       refine hK.out _ _ ((blk_cell BK208.out 1).trans rfl) (fun hHeld => ?_)
       clear hK K
       refine pure_ (i := 16) (N := some 91) (v := ?_) (a' := ?_) #[true, true, true, true, true, true, true, true, true, true, true, true, true, true, true, true, true, false, false] rfl rfl (by kernel_rfl) (fun _ _ _ h => h) (Or.inl ⟨by rfl, ?_⟩) ?_ ?_
       rotate_left
       ·intro w'
        go_simp
        with_reducible rfl
       rotate_left
       ·simp only [Act.put, List.setIfInBounds_toArray, List.set_cons_zero, List.set_cons_succ, i64_w, i32_w]
        rfl
       refine pure_ (i := 17) (N := some 92) (v := ?_) (a' := ?_) #[true, true, true, true, true, true, true, true, true, true, true, true, true, true, true, true, true, true, false] rfl rfl (by kernel_rfl) (fun _ _ _ h => h) (Or.inl ⟨by rfl, ?_⟩) ?_ ?_
       rotate_left
       ·intro w'
        go_simp
        with_reducible rfl
       rotate_left
       ·simp only [Act.put, List.setIfInBounds_toArray, List.set_cons_zero, List.set_cons_succ, i64_w, i32_w]
        rfl
       refine one_ (i := 18) (N := none) #[true, true, true, true, true, true, true, true, true, true, true, true, true, true, true, true, true, true, true] rfl rfl (by kernel_rfl) (by decide) (fun K hK => ?_)
       have hcz90_0 : w89.cell? ⟨gb208, 0, none⟩ = some (.int .i64 t203) := (blk_cell BK208.out 0).trans rfl
       have hcz90_1 : w89.cell? ⟨gb208, 1, none⟩ = some (.slice (some ⟨go48, 0, none⟩) t204.length co69) := (blk_cell BK208.out 1).trans rfl
       have hfz90_0 := blk_frozen BK208.out 0
       have hfz90_1 := blk_frozen BK208.out 1
       have p50 : 0 ≤ (a1 : Int) := of_decide_eq_true (by first | (with_reducible assumption) | assumption)
       have q50 : (a1 : Int) < ((t204.length : Int) : Int) := of_decide_eq_true (by first | (with_reducible assumption) | assumption)
       obtain ⟨_, ce50, hcl50, hM50, hcc50, hfr50, _, _⟩ := Kd.S_elem HO206.out z31 (a1 : Int) p50 q50
       obtain ⟨ve50_6, rfl, ge50_6⟩ := k31_openM hM50
       have hx50_0 : w89.cell? ⟨go48, (a1 : Int).toNat * 9, none⟩ = some (.string ((rd_T31 y213 a1).f0)) := hcc50 0 _ rfl
       have hx50_1 : w89.cell? ⟨go48, (a1 : Int).toNat * 9 + 1, none⟩ = some (.int .i64 ((rd_T31 y213 a1).f1)) := hcc50 1 _ rfl
       have hx50_2 : w89.cell? ⟨go48, (a1 : Int).toNat * 9 + 2, none⟩ = some (.int .i64 ((rd_T31 y213 a1).f2)) := hcc50 2 _ rfl
       have hx50_3 : w89.cell? ⟨go48, (a1 : Int).toNat * 9 + 3, none⟩ = some (.int .i64 ((rd_T31 y213 a1).f3)) := hcc50 3 _ rfl
       have hx50_4 : w89.cell? ⟨go48, (a1 : Int).toNat * 9 + 4, none⟩ = some (.int .i64 ((rd_T31 y213 a1).f4)) := hcc50 4 _ rfl
       have hx50_5 : w89.cell? ⟨go48, (a1 : Int).toNat * 9 + 5, none⟩ = some (.int .i64 ((rd_T31 y213 a1).f5)) := hcc50 5 _ rfl
       have hx50_6 : w89.cell? ⟨go48, (a1 : Int).toNat * 9 + 6, none⟩ = some (ve50_6) := hcc50 6 _ rfl
       have hx50_7 : w89.cell? ⟨go48, (a1 : Int).toNat * 9 + 7, none⟩ = some (.int .u64 ((rd_T31 y213 a1).f7)) := hcc50 7 _ rfl
       have hx50_8 : w89.cell? ⟨go48, (a1 : Int).toNat * 9 + 8, none⟩ = some (.int .u64 ((rd_T31 y213 a1).f8)) := hcc50 8 _ rfl
       have hf50_0 : w89.frozen? ⟨go48, (a1 : Int).toNat * 9, none⟩ = false := hfr50 0
       have hf50_1 : w89.frozen? ⟨go48, (a1 : Int).toNat * 9 + 1, none⟩ = false := hfr50 1
       have hf50_2 : w89.frozen? ⟨go48, (a1 : Int).toNat * 9 + 2, none⟩ = false := hfr50 2
       have hf50_3 : w89.frozen? ⟨go48, (a1 : Int).toNat * 9 + 3, none⟩ = false := hfr50 3
       have hf50_4 : w89.frozen? ⟨go48, (a1 : Int).toNat * 9 + 4, none⟩ = false := hfr50 4
       have hf50_5 : w89.frozen? ⟨go48, (a1 : Int).toNat * 9 + 5, none⟩ = false := hfr50 5
       have hf50_6 : w89.frozen? ⟨go48, (a1 : Int).toNat * 9 + 6, none⟩ = false := hfr50 6
       have hf50_7 : w89.frozen? ⟨go48, (a1 : Int).toNat * 9 + 7, none⟩ = false := hfr50 7
       have hf50_8 : w89.frozen? ⟨go48, (a1 : Int).toNat * 9 + 8, none⟩ = false := hfr50 8
       clear hcl50 hcc50 hfr50 hM50
       replace p50 := eq_true p50
       replace q50 := eq_true q50
       have HX91 := Aside0.mk (show Kd.S k31 31 w89 w.heap.size (fun k_ => ((fun k_ => some k_ ≠ (.slice (some ⟨go44, 0, none⟩) t200.length co66 : Value).ownBlock)) k_ ∧ ¬ ((fun _ => False)) k_) (.slice (some ⟨go48, 0, none⟩) t204.length co69) y213 from (by (with_reducible repeat (first | apply Kd.S_alloc | apply Kd.S_drewN | apply Kd.S_drew)); exact Kd.S_mono HO206.out (fun k_ hk => ⟨hk, fun e_ => e_⟩)))
       obtain ⟨oki91, ce91, hcl91, hM91, hcc91, hfr91, hoki91, hH91⟩ := Kd.S_elem HX91.out z31 (a1 : Int) (of_decide_eq_true (by first | (with_reducible assumption) | assumption)) (by have h_ : (a1 : Int) < ((t204.length : Int) : Int) := of_decide_eq_true (by first | (with_reducible assumption) | assumption); first | exact h_ | (have e_ := (Kd.S_reads' HO206.out).1; omega) | simpa using h_)
       obtain ⟨ve91_6, rfl, ge91_6⟩ := k31_openM hM91
       have HP91 := Kd.S_seg hH91 (of_decide_eq_true (by first | (with_reducible assumption) | assumption)) (by have h_ : (a1 : Int) < ((t204.length : Int) : Int) := of_decide_eq_true (by first | (with_reducible assumption) | assumption); first | exact h_ | (have e_ := (Kd.S_reads' HO206.out).1; omega) | simpa using h_) (seg := [.int .i64 a4]) (j := 5) (show 6 ≤ 9 from by decide) (x' := (⟨(rd_T31 y213 a1).f0, (rd_T31 y213 a1).f1, (rd_T31 y213 a1).f2, (rd_T31 y213 a1).f3, (rd_T31 y213 a1).f4, a4, (rd_T31 y213 a1).f6, (rd_T31 y213 a1).f7, (rd_T31 y213 a1).f8⟩ : S31)) (k31_mkM _ _ _ (⟨(rd_T31 y213 a1).f0, (rd_T31 y213 a1).f1, (rd_T31 y213 a1).f2, (rd_T31 y213 a1).f3, (rd_T31 y213 a1).f4, a4, (rd_T31 y213 a1).f6, (rd_T31 y213 a1).f7, (rd_T31 y213 a1).f8⟩ : S31) (Kd.R_mono ge91_6 (fun _ h_ => Or.inl h_))) (fun _ hk => hk) (fun k_ hk_ => hk_.elim)
       have hx91_5 := hcc91 5 _ rfl
       (try simp only [show (k31).sz = 9 from rfl, Nat.mul_one, Nat.add_zero] at hx91_5)
       have hf91_5 := hfr91 5
       (try simp only [show (k31).sz = 9 from rfl, Nat.mul_one, Nat.add_zero] at hf91_5)
       clear hcl91 hcc91 hfr91 hM91 hoki91 hH91
       refine skip_ (w1 := ?_) (by rfl) rfl ?_ ?_
       rotate_left
       ·go_simp
        rfl
       obtain ⟨w92, hw⟩ : ∃ w_ : World, w_ = w89.setCell ⟨go48, (a1 : Int).toNat * 9 + 5, none⟩ (.int .i64 a4) := ⟨_, rfl⟩
       rw [← hw]
       have hg : w89.grownBy w92 (some go48) := (by rw [hw]; exact HP91.2)
       have hp_ : Kd.S k31 31 w92 w.heap.size (fun k_ => some k_ ≠ (.slice (some ⟨go44, 0, none⟩) t200.length co66 : Value).ownBlock) (.slice (some ⟨go48, 0, none⟩) t204.length co69) y214 := (by rw [hw, Ny214.out]; exact HP91.1)
       clear HP91
       have n0_ := Aside0.mk (blk_grown (g := gb197) (o := .cells #[.int .i64 a0_0, .slice A0_1 l0_1.length c0_1] 24 (0, 0)) (by (with_reducible repeat (first | refine blk_drewN ?_ _ | refine blk_drew ?_ | refine blk_alloc ?_ _)); exact BK197.out) hg (Kd.S_ne HO206.out BK197.out (by decide)))
       have n1_ := Aside0.mk (Kd.S_after (v := (.slice (some ⟨go48, 0, none⟩) t204.length co69)) (v1 := (.slice (some ⟨go48, 0, none⟩) t204.length co69)) (ok := (fun _ => True)) (by (with_reducible repeat (first | apply Kd.S_alloc | apply Kd.S_drewN | apply Kd.S_drew)); exact HO202.out) hg (.inl rfl))
       have n2_ := Aside0.mk (hp_)
       have n3_ := Aside0.mk (blk_grown (g := gb207) (o := .cells #[.int .i64 t199, .slice (some ⟨go44, 0, none⟩) t200.length co66] 24 (0, 0)) (by (with_reducible repeat (first | refine blk_drewN ?_ _ | refine blk_drew ?_ | refine blk_alloc ?_ _)); exact BK207.out) hg (Kd.S_ne HO206.out BK207.out (by decide)))
       have n4_ := Aside0.mk (blk_grown (g := gb208) (o := .cells #[.int .i64 t203, .slice (some ⟨go48, 0, none⟩) t204.length co69] 24 (0, 0)) (by (with_reducible repeat (first | refine blk_drewN ?_ _ | refine blk_drew ?_ | refine blk_alloc ?_ _)); exact BK208.out) hg (Kd.S_ne HO206.out BK208.out (by decide)))
       have n5_ := Aside0.mk ((by rw [hw]; exact below_set (HB.out) GB48.out : Below w.heap.size w w92))
       clear BK197
       clear HO202
       clear HO206
       clear BK207
       clear BK208
       clear HB
       have BK197 := n0_
       have HO202 := n1_
       have HO206 := n2_
       have BK207 := n3_
       have BK208 := n4_
       have HB := n5_
       clear n0_ n1_ n2_ n3_ n4_ n5_
       clear hg hw hp_
       refine hK.out _ _ ((blk_cell BK208.out 1).trans rfl) (fun hHeld => ?_)
       clear hK K
       refine done_ (by kernel_rfl) ?_
       have hcz93_0 : w92.cell? ⟨gb197, 0, none⟩ = some (.int .i64 a0_0) := (blk_cell BK197.out 0).trans rfl
       have hcz93_1 : w92.cell? ⟨gb197, 1, none⟩ = some (.slice A0_1 l0_1.length c0_1) := (blk_cell BK197.out 1).trans rfl
       have hfz93_0 := blk_frozen BK197.out 0
       have hfz93_1 := blk_frozen BK197.out 1
       by_cases c52 : a4 > a2
       ·rw [if_pos c52] at H
        have c52b0 : decide (a2 < a4) = true := decide_eq_true c52
        clear c52
        replace H := Option.bind_eq_some_iff.mp H
        obtain ⟨t216, A530, H⟩ := H
        replace H : (if t216 = (mn a3 t215) then ((block_Of.f kj5 t203 y214 a1 a2).bind fun t217 => (if t217 = 0 then ((taskmasterlaw9_known.f kj5).bind fun t218 => (some t218)) else (some false))) else (some false)) = some r := H
        have A53 := Aside0.mk A530
        clear A530
        obtain ⟨ji54, hji54⟩ : ∃ j_ : Int, (mn a3 t215) = j_ := ⟨_, rfl⟩
        replace H : (if t216 = (ji54) then ((block_Of.f kj5 t203 y214 a1 a2).bind fun t217 => (if t217 = 0 then ((taskmasterlaw9_known.f kj5).bind fun t218 => (some t218)) else (some false))) else (some false)) = some r := by first | (rw [hji54] at H; exact H) | (simp only [hji54] at H ⊢; exact H)
        (try rw [hji54] at A40)
        (try rw [hji54] at A41)
        (try rw [hji54] at A51)
        (try rw [hji54] at A53)
        have hji54_ : (if t215 < a3 then t215 else a3) = ji54 := hji54
        by_cases c55 : t216 = (ji54)
        ·rw [if_pos c55] at H
         have c55b0 : (t216 == (ji54)) = true := beq_iff_eq.mpr c55
         have c55b1 : (t216 != (ji54)) = false := bne_eq_false_iff_eq.mpr c55
         clear c55
         replace H := Option.bind_eq_some_iff.mp H
         obtain ⟨t217, A560, H⟩ := H
         replace H : (if t217 = 0 then ((taskmasterlaw9_known.f kj5).bind fun t218 => (some t218)) else (some false)) = some r := H
         have A56 := Aside0.mk A560
         clear A560
         by_cases c57 : t217 = 0
         ·rw [if_pos c57] at H
          have c57b0 : (t217 == 0) = true := beq_iff_eq.mpr c57
          have c57b1 : (t217 != 0) = false := bne_eq_false_iff_eq.mpr c57
          clear c57
          replace H := Option.bind_eq_some_iff.mp H
          obtain ⟨t218, A580, H⟩ := H
          replace H : (some t218) = some r := H
          have A58 := Aside0.mk A580
          clear A580
          obtain rfl := Option.some.inj H
          go_wp2_with (first | ((with_reducible refine gate_callee (f := 22) rfl ?_); refine goesL_ (some 95) rfl rfl Try.func22 (by kernel_rfl) rfl #[.agg #[.int .i64 a0_0, .slice A0_1 l0_1.length c0_1], .int .i64 a1] rfl (by (try simp only [List.map_toArray, List.map_cons, List.map_nil]); first | done | rfl | (simp only [List.length_drop, List.length_take]; rfl)) ?_; (with_reducible refine (taskmasterref9_Whole.calls kj5 a0_0 _ _ l0_1 a1 t215 _ ?side1 ?side2 A51.out).mono ?_); (case side1 => repeat (first | exact (Kd.C_below HR0_1.out HB.out) | (with_reducible refine Kd.C_alloc ?_ _) | (with_reducible refine Kd.C_drewN ?_ _) | (with_reducible refine Kd.C_drew ?_))); (case side2 => exact HC0_1.out); rintro e w94 ⟨rfl, hb⟩; refine ⟨_, rfl, ?_⟩; have n0_ := Aside0.mk (Kd.S_below (by (with_reducible repeat (first | apply Kd.S_alloc | apply Kd.S_drewN | apply Kd.S_drew)); exact HO202.out) hb); have n1_ := Aside0.mk (Kd.S_below (by (with_reducible repeat (first | apply Kd.S_alloc | apply Kd.S_drewN | apply Kd.S_drew)); exact HO206.out) hb); have n2_ := Aside0.mk (blk_below (g := gb197) (o := .cells #[.int .i64 a0_0, .slice A0_1 l0_1.length c0_1] 24 (0, 0)) (by (with_reducible repeat (first | refine blk_drewN ?_ _ | refine blk_drew ?_ | refine blk_alloc ?_ _)); exact BK197.out) hb); have n3_ := Aside0.mk (blk_below (g := gb207) (o := .cells #[.int .i64 t199, .slice (some ⟨go44, 0, none⟩) t200.length co66] 24 (0, 0)) (by (with_reducible repeat (first | refine blk_drewN ?_ _ | refine blk_drew ?_ | refine blk_alloc ?_ _)); exact BK207.out) hb); have n4_ := Aside0.mk (blk_below (g := gb208) (o := .cells #[.int .i64 t203, .slice (some ⟨go48, 0, none⟩) t204.length co69] 24 (0, 0)) (by (with_reducible repeat (first | refine blk_drewN ?_ _ | refine blk_drew ?_ | refine blk_alloc ?_ _)); exact BK208.out) hb); have n5_ := Aside0.mk (below_step (by repeat (first | (with_reducible first | exact HB.out | apply below_alloc | apply pw_below_drewN | apply below_drew1 | refine below_set ?_ GE197.out | refine below_set ?_ GE207.out | refine below_set ?_ GE208.out) | exact HB.out)) hb); clear HO202; clear HO206; clear BK197; clear BK207; clear BK208; clear HB; have HO202 := n0_; have HO206 := n1_; have BK197 := n2_; have BK207 := n3_; have BK208 := n4_; have HB := n5_; clear n0_ n1_ n2_ n3_ n4_ n5_; (try clear hb); (try clear hb2); (try clear hk); (try clear hi); have hcz95_0 : w94.cell? ⟨gb207, 0, none⟩ = some (.int .i64 t199) := (blk_cell BK207.out 0).trans rfl; have hcz95_1 : w94.cell? ⟨gb207, 1, none⟩ = some (.slice (some ⟨go44, 0, none⟩) t200.length co66) := (blk_cell BK207.out 1).trans rfl; have hfz95_0 := blk_frozen BK207.out 0; have hfz95_1 := blk_frozen BK207.out 1) | ((with_reducible refine gate_callee (f := 21) rfl ?_); refine goesL_ (some 103) rfl rfl Try.func21 (by kernel_rfl) rfl #[.agg #[.int .i64 t199, .slice (some ⟨go44, 0, none⟩) y211.length co66], .int .i64 a1, .int .i64 a2] rfl (by (try simp only [List.map_toArray, List.map_cons, List.map_nil]); first | done | (rw [show y211.length = t200.length from (Kd.S_reads' HO202.out).1.symm] <;> rfl) | rfl | (simp only [List.length_drop, List.length_take]; rfl)) ?_; (with_reducible refine (block_Of.calls kj5 t199 _ _ y211 a1 a2 t216 _ ?side1 ?side2 A53.out).mono ?_); (case side1 => repeat (first | exact (Kd.S_reads' HO202.out).2.2 | (with_reducible refine Kd.C_alloc ?_ _) | (with_reducible refine Kd.C_drewN ?_ _) | (with_reducible refine Kd.C_drew ?_))); (case side2 => rw [show y211.length = t200.length from (Kd.S_reads' HO202.out).1.symm]; exact (Kd.S_reads' HO202.out).2.1); rintro e w96 ⟨rfl, hb⟩; refine ⟨_, rfl, ?_⟩; have n0_ := Aside0.mk (Kd.S_below (by (with_reducible repeat (first | apply Kd.S_alloc | apply Kd.S_drewN | apply Kd.S_drew)); exact HO202.out) hb); have n1_ := Aside0.mk (Kd.S_below (by (with_reducible repeat (first | apply Kd.S_alloc | apply Kd.S_drewN | apply Kd.S_drew)); exact HO206.out) hb); have n2_ := Aside0.mk (blk_below (g := gb197) (o := .cells #[.int .i64 a0_0, .slice A0_1 l0_1.length c0_1] 24 (0, 0)) (by (with_reducible repeat (first | refine blk_drewN ?_ _ | refine blk_drew ?_ | refine blk_alloc ?_ _)); exact BK197.out) hb); have n3_ := Aside0.mk (blk_below (g := gb207) (o := .cells #[.int .i64 t199, .slice (some ⟨go44, 0, none⟩) t200.length co66] 24 (0, 0)) (by (with_reducible repeat (first | refine blk_drewN ?_ _ | refine blk_drew ?_ | refine blk_alloc ?_ _)); exact BK207.out) hb); have n4_ := Aside0.mk (blk_below (g := gb208) (o := .cells #[.int .i64 t203, .slice (some ⟨go48, 0, none⟩) t204.length co69] 24 (0, 0)) (by (with_reducible repeat (first | refine blk_drewN ?_ _ | refine blk_drew ?_ | refine blk_alloc ?_ _)); exact BK208.out) hb); have n5_ := Aside0.mk (below_step (by repeat (first | (with_reducible first | exact HB.out | apply below_alloc | apply pw_below_drewN | apply below_drew1 | refine below_set ?_ GE197.out | refine below_set ?_ GE207.out | refine below_set ?_ GE208.out) | exact HB.out)) hb); clear HO202; clear HO206; clear BK197; clear BK207; clear BK208; clear HB; have HO202 := n0_; have HO206 := n1_; have BK197 := n2_; have BK207 := n3_; have BK208 := n4_; have HB := n5_; clear n0_ n1_ n2_ n3_ n4_ n5_; (try clear hb); (try clear hb2); (try clear hk); (try clear hi); have hcz97_0 : w96.cell? ⟨gb208, 0, none⟩ = some (.int .i64 t203) := (blk_cell BK208.out 0).trans rfl; have hcz97_1 : w96.cell? ⟨gb208, 1, none⟩ = some (.slice (some ⟨go48, 0, none⟩) t204.length co69) := (blk_cell BK208.out 1).trans rfl; have hfz97_0 := blk_frozen BK208.out 0; have hfz97_1 := blk_frozen BK208.out 1) | (go_at_call 21; refine calls_of_args (args' := #[.agg #[.int .i64 t203, .slice (some ⟨go48, 0, none⟩) y214.length co69], .int .i64 a1, .int .i64 a2]) (by first | (rw [show y214.length = t204.length from (Kd.S_reads' HO206.out).1.symm] <;> rfl) | rfl) ?_; (with_reducible refine (block_Of.calls kj5 t203 _ _ y214 a1 a2 t217 _ ?side1 ?side2 A56.out).mono ?_); (case side1 => repeat (first | exact (Kd.S_reads' HO206.out).2.2 | (with_reducible refine Kd.C_alloc ?_ _) | (with_reducible refine Kd.C_drewN ?_ _) | (with_reducible refine Kd.C_drew ?_))); (case side2 => rw [show y214.length = t204.length from (Kd.S_reads' HO206.out).1.symm]; exact (Kd.S_reads' HO206.out).2.1); rintro e w98 ⟨rfl, hb⟩; have n0_ := Aside0.mk (Kd.S_below (by (with_reducible repeat (first | apply Kd.S_alloc | apply Kd.S_drewN | apply Kd.S_drew)); exact HO202.out) hb); have n1_ := Aside0.mk (Kd.S_below (by (with_reducible repeat (first | apply Kd.S_alloc | apply Kd.S_drewN | apply Kd.S_drew)); exact HO206.out) hb); have n2_ := Aside0.mk (blk_below (g := gb197) (o := .cells #[.int .i64 a0_0, .slice A0_1 l0_1.length c0_1] 24 (0, 0)) (by (with_reducible repeat (first | refine blk_drewN ?_ _ | refine blk_drew ?_ | refine blk_alloc ?_ _)); exact BK197.out) hb); have n3_ := Aside0.mk (blk_below (g := gb207) (o := .cells #[.int .i64 t199, .slice (some ⟨go44, 0, none⟩) t200.length co66] 24 (0, 0)) (by (with_reducible repeat (first | refine blk_drewN ?_ _ | refine blk_drew ?_ | refine blk_alloc ?_ _)); exact BK207.out) hb); have n4_ := Aside0.mk (blk_below (g := gb208) (o := .cells #[.int .i64 t203, .slice (some ⟨go48, 0, none⟩) t204.length co69] 24 (0, 0)) (by (with_reducible repeat (first | refine blk_drewN ?_ _ | refine blk_drew ?_ | refine blk_alloc ?_ _)); exact BK208.out) hb); have n5_ := Aside0.mk (below_step (by repeat (first | (with_reducible first | exact HB.out | apply below_alloc | apply pw_below_drewN | apply below_drew1 | refine below_set ?_ GE197.out | refine below_set ?_ GE207.out | refine below_set ?_ GE208.out) | exact HB.out)) hb); clear HO202; clear HO206; clear BK197; clear BK207; clear BK208; clear HB; have HO202 := n0_; have HO206 := n1_; have BK197 := n2_; have BK207 := n3_; have BK208 := n4_; have HB := n5_; clear n0_ n1_ n2_ n3_ n4_ n5_; (try clear hb); (try clear hb2); (try clear hk); (try clear hi)) | (go_at_call 24; (with_reducible refine (taskmasterlaw9_known.calls kj5  t218 _ A58.out).mono ?_); rintro e w99 ⟨rfl, hb⟩; have n0_ := Aside0.mk (Kd.S_below (by (with_reducible repeat (first | apply Kd.S_alloc | apply Kd.S_drewN | apply Kd.S_drew)); exact HO202.out) hb); have n1_ := Aside0.mk (Kd.S_below (by (with_reducible repeat (first | apply Kd.S_alloc | apply Kd.S_drewN | apply Kd.S_drew)); exact HO206.out) hb); have n2_ := Aside0.mk (blk_below (g := gb197) (o := .cells #[.int .i64 a0_0, .slice A0_1 l0_1.length c0_1] 24 (0, 0)) (by (with_reducible repeat (first | refine blk_drewN ?_ _ | refine blk_drew ?_ | refine blk_alloc ?_ _)); exact BK197.out) hb); have n3_ := Aside0.mk (blk_below (g := gb207) (o := .cells #[.int .i64 t199, .slice (some ⟨go44, 0, none⟩) t200.length co66] 24 (0, 0)) (by (with_reducible repeat (first | refine blk_drewN ?_ _ | refine blk_drew ?_ | refine blk_alloc ?_ _)); exact BK207.out) hb); have n4_ := Aside0.mk (blk_below (g := gb208) (o := .cells #[.int .i64 t203, .slice (some ⟨go48, 0, none⟩) t204.length co69] 24 (0, 0)) (by (with_reducible repeat (first | refine blk_drewN ?_ _ | refine blk_drew ?_ | refine blk_alloc ?_ _)); exact BK208.out) hb); have n5_ := Aside0.mk (below_step (by repeat (first | (with_reducible first | exact HB.out | apply below_alloc | apply pw_below_drewN | apply below_drew1 | refine below_set ?_ GE197.out | refine below_set ?_ GE207.out | refine below_set ?_ GE208.out) | exact HB.out)) hb); clear HO202; clear HO206; clear BK197; clear BK207; clear BK208; clear HB; have HO202 := n0_; have HO206 := n1_; have BK197 := n2_; have BK207 := n3_; have BK208 := n4_; have HB := n5_; clear n0_ n1_ n2_ n3_ n4_ n5_; (try clear hb); (try clear hb2); (try clear hk); (try clear hi)))
          go_ret
          exact ⟨by first | rfl | (simp [errW_none, errW_some] <;> rfl) | (simp only [← hji54]; first | rfl | (simp [errW_none, errW_some] <;> rfl)) | (simp [*, errW_none, errW_some] <;> rfl), by repeat (first | (with_reducible first | exact HB.out | apply below_alloc | apply pw_below_drewN | apply below_drew1 | refine below_set ?_ GE197.out | refine below_set ?_ GE207.out | refine below_set ?_ GE208.out) | exact HB.out)⟩
         ·rw [if_neg c57] at H
          have c57b0 : (t217 == 0) = false := beq_eq_false_iff_ne.mpr c57
          have c57b1 : (t217 != 0) = true := bne_iff_ne.mpr c57
          obtain rfl := Option.some.inj H
          go_wp2_with (first | ((with_reducible refine gate_callee (f := 22) rfl ?_); refine goesL_ (some 95) rfl rfl Try.func22 (by kernel_rfl) rfl #[.agg #[.int .i64 a0_0, .slice A0_1 l0_1.length c0_1], .int .i64 a1] rfl (by (try simp only [List.map_toArray, List.map_cons, List.map_nil]); first | done | rfl | (simp only [List.length_drop, List.length_take]; rfl)) ?_; (with_reducible refine (taskmasterref9_Whole.calls kj5 a0_0 _ _ l0_1 a1 t215 _ ?side1 ?side2 A51.out).mono ?_); (case side1 => repeat (first | exact (Kd.C_below HR0_1.out HB.out) | (with_reducible refine Kd.C_alloc ?_ _) | (with_reducible refine Kd.C_drewN ?_ _) | (with_reducible refine Kd.C_drew ?_))); (case side2 => exact HC0_1.out); rintro e w135 ⟨rfl, hb⟩; refine ⟨_, rfl, ?_⟩; have n0_ := Aside0.mk (Kd.S_below (by (with_reducible repeat (first | apply Kd.S_alloc | apply Kd.S_drewN | apply Kd.S_drew)); exact HO202.out) hb); have n1_ := Aside0.mk (Kd.S_below (by (with_reducible repeat (first | apply Kd.S_alloc | apply Kd.S_drewN | apply Kd.S_drew)); exact HO206.out) hb); have n2_ := Aside0.mk (blk_below (g := gb197) (o := .cells #[.int .i64 a0_0, .slice A0_1 l0_1.length c0_1] 24 (0, 0)) (by (with_reducible repeat (first | refine blk_drewN ?_ _ | refine blk_drew ?_ | refine blk_alloc ?_ _)); exact BK197.out) hb); have n3_ := Aside0.mk (blk_below (g := gb207) (o := .cells #[.int .i64 t199, .slice (some ⟨go44, 0, none⟩) t200.length co66] 24 (0, 0)) (by (with_reducible repeat (first | refine blk_drewN ?_ _ | refine blk_drew ?_ | refine blk_alloc ?_ _)); exact BK207.out) hb); have n4_ := Aside0.mk (blk_below (g := gb208) (o := .cells #[.int .i64 t203, .slice (some ⟨go48, 0, none⟩) t204.length co69] 24 (0, 0)) (by (with_reducible repeat (first | refine blk_drewN ?_ _ | refine blk_drew ?_ | refine blk_alloc ?_ _)); exact BK208.out) hb); have n5_ := Aside0.mk (below_step (by repeat (first | (with_reducible first | exact HB.out | apply below_alloc | apply pw_below_drewN | apply below_drew1 | refine below_set ?_ GE197.out | refine below_set ?_ GE207.out | refine below_set ?_ GE208.out) | exact HB.out)) hb); clear HO202; clear HO206; clear BK197; clear BK207; clear BK208; clear HB; have HO202 := n0_; have HO206 := n1_; have BK197 := n2_; have BK207 := n3_; have BK208 := n4_; have HB := n5_; clear n0_ n1_ n2_ n3_ n4_ n5_; (try clear hb); (try clear hb2); (try clear hk); (try clear hi); have hcz136_0 : w135.cell? ⟨gb207, 0, none⟩ = some (.int .i64 t199) := (blk_cell BK207.out 0).trans rfl; have hcz136_1 : w135.cell? ⟨gb207, 1, none⟩ = some (.slice (some ⟨go44, 0, none⟩) t200.length co66) := (blk_cell BK207.out 1).trans rfl; have hfz136_0 := blk_frozen BK207.out 0; have hfz136_1 := blk_frozen BK207.out 1) | ((with_reducible refine gate_callee (f := 21) rfl ?_); refine goesL_ (some 103) rfl rfl Try.func21 (by kernel_rfl) rfl #[.agg #[.int .i64 t199, .slice (some ⟨go44, 0, none⟩) y211.length co66], .int .i64 a1, .int .i64 a2] rfl (by (try simp only [List.map_toArray, List.map_cons, List.map_nil]); first | done | (rw [show y211.length = t200.length from (Kd.S_reads' HO202.out).1.symm] <;> rfl) | rfl | (simp only [List.length_drop, List.length_take]; rfl)) ?_; (with_reducible refine (block_Of.calls kj5 t199 _ _ y211 a1 a2 t216 _ ?side1 ?side2 A53.out).mono ?_); (case side1 => repeat (first | exact (Kd.S_reads' HO202.out).2.2 | (with_reducible refine Kd.C_alloc ?_ _) | (with_reducible refine Kd.C_drewN ?_ _) | (with_reducible refine Kd.C_drew ?_))); (case side2 => rw [show y211.length = t200.length from (Kd.S_reads' HO202.out).1.symm]; exact (Kd.S_reads' HO202.out).2.1); rintro e w137 ⟨rfl, hb⟩; refine ⟨_, rfl, ?_⟩; have n0_ := Aside0.mk (Kd.S_below (by (with_reducible repeat (first | apply Kd.S_alloc | apply Kd.S_drewN | apply Kd.S_drew)); exact HO202.out) hb); have n1_ := Aside0.mk (Kd.S_below (by (with_reducible repeat (first | apply Kd.S_alloc | apply Kd.S_drewN | apply Kd.S_drew)); exact HO206.out) hb); have n2_ := Aside0.mk (blk_below (g := gb197) (o := .cells #[.int .i64 a0_0, .slice A0_1 l0_1.length c0_1] 24 (0, 0)) (by (with_reducible repeat (first | refine blk_drewN ?_ _ | refine blk_drew ?_ | refine blk_alloc ?_ _)); exact BK197.out) hb); have n3_ := Aside0.mk (blk_below (g := gb207) (o := .cells #[.int .i64 t199, .slice (some ⟨go44, 0, none⟩) t200.length co66] 24 (0, 0)) (by (with_reducible repeat (first | refine blk_drewN ?_ _ | refine blk_drew ?_ | refine blk_alloc ?_ _)); exact BK207.out) hb); have n4_ := Aside0.mk (blk_below (g := gb208) (o := .cells #[.int .i64 t203, .slice (some ⟨go48, 0, none⟩) t204.length co69] 24 (0, 0)) (by (with_reducible repeat (first | refine blk_drewN ?_ _ | refine blk_drew ?_ | refine blk_alloc ?_ _)); exact BK208.out) hb); have n5_ := Aside0.mk (below_step (by repeat (first | (with_reducible first | exact HB.out | apply below_alloc | apply pw_below_drewN | apply below_drew1 | refine below_set ?_ GE197.out | refine below_set ?_ GE207.out | refine below_set ?_ GE208.out) | exact HB.out)) hb); clear HO202; clear HO206; clear BK197; clear BK207; clear BK208; clear HB; have HO202 := n0_; have HO206 := n1_; have BK197 := n2_; have BK207 := n3_; have BK208 := n4_; have HB := n5_; clear n0_ n1_ n2_ n3_ n4_ n5_; (try clear hb); (try clear hb2); (try clear hk); (try clear hi); have hcz138_0 : w137.cell? ⟨gb208, 0, none⟩ = some (.int .i64 t203) := (blk_cell BK208.out 0).trans rfl; have hcz138_1 : w137.cell? ⟨gb208, 1, none⟩ = some (.slice (some ⟨go48, 0, none⟩) t204.length co69) := (blk_cell BK208.out 1).trans rfl; have hfz138_0 := blk_frozen BK208.out 0; have hfz138_1 := blk_frozen BK208.out 1) | (go_at_call 21; refine calls_of_args (args' := #[.agg #[.int .i64 t203, .slice (some ⟨go48, 0, none⟩) y214.length co69], .int .i64 a1, .int .i64 a2]) (by first | (rw [show y214.length = t204.length from (Kd.S_reads' HO206.out).1.symm] <;> rfl) | rfl) ?_; (with_reducible refine (block_Of.calls kj5 t203 _ _ y214 a1 a2 t217 _ ?side1 ?side2 A56.out).mono ?_); (case side1 => repeat (first | exact (Kd.S_reads' HO206.out).2.2 | (with_reducible refine Kd.C_alloc ?_ _) | (with_reducible refine Kd.C_drewN ?_ _) | (with_reducible refine Kd.C_drew ?_))); (case side2 => rw [show y214.length = t204.length from (Kd.S_reads' HO206.out).1.symm]; exact (Kd.S_reads' HO206.out).2.1); rintro e w139 ⟨rfl, hb⟩; have n0_ := Aside0.mk (Kd.S_below (by (with_reducible repeat (first | apply Kd.S_alloc | apply Kd.S_drewN | apply Kd.S_drew)); exact HO202.out) hb); have n1_ := Aside0.mk (Kd.S_below (by (with_reducible repeat (first | apply Kd.S_alloc | apply Kd.S_drewN | apply Kd.S_drew)); exact HO206.out) hb); have n2_ := Aside0.mk (blk_below (g := gb197) (o := .cells #[.int .i64 a0_0, .slice A0_1 l0_1.length c0_1] 24 (0, 0)) (by (with_reducible repeat (first | refine blk_drewN ?_ _ | refine blk_drew ?_ | refine blk_alloc ?_ _)); exact BK197.out) hb); have n3_ := Aside0.mk (blk_below (g := gb207) (o := .cells #[.int .i64 t199, .slice (some ⟨go44, 0, none⟩) t200.length co66] 24 (0, 0)) (by (with_reducible repeat (first | refine blk_drewN ?_ _ | refine blk_drew ?_ | refine blk_alloc ?_ _)); exact BK207.out) hb); have n4_ := Aside0.mk (blk_below (g := gb208) (o := .cells #[.int .i64 t203, .slice (some ⟨go48, 0, none⟩) t204.length co69] 24 (0, 0)) (by (with_reducible repeat (first | refine blk_drewN ?_ _ | refine blk_drew ?_ | refine blk_alloc ?_ _)); exact BK208.out) hb); have n5_ := Aside0.mk (below_step (by repeat (first | (with_reducible first | exact HB.out | apply below_alloc | apply pw_below_drewN | apply below_drew1 | refine below_set ?_ GE197.out | refine below_set ?_ GE207.out | refine below_set ?_ GE208.out) | exact HB.out)) hb); clear HO202; clear HO206; clear BK197; clear BK207; clear BK208; clear HB; have HO202 := n0_; have HO206 := n1_; have BK197 := n2_; have BK207 := n3_; have BK208 := n4_; have HB := n5_; clear n0_ n1_ n2_ n3_ n4_ n5_; (try clear hb); (try clear hb2); (try clear hk); (try clear hi)))
          go_ret
          exact ⟨by first | rfl | (simp [errW_none, errW_some] <;> rfl) | (simp only [← hji54]; first | rfl | (simp [errW_none, errW_some] <;> rfl)) | (simp [*, errW_none, errW_some] <;> rfl), by repeat (first | (with_reducible first | exact HB.out | apply below_alloc | apply pw_below_drewN | apply below_drew1 | refine below_set ?_ GE197.out | refine below_set ?_ GE207.out | refine below_set ?_ GE208.out) | exact HB.out)⟩
        ·rw [if_neg c55] at H
         have c55b0 : (t216 == (ji54)) = false := beq_eq_false_iff_ne.mpr c55
         have c55b1 : (t216 != (ji54)) = true := bne_iff_ne.mpr c55
         obtain rfl := Option.some.inj H
         go_wp2_with (first | ((with_reducible refine gate_callee (f := 22) rfl ?_); refine goesL_ (some 95) rfl rfl Try.func22 (by kernel_rfl) rfl #[.agg #[.int .i64 a0_0, .slice A0_1 l0_1.length c0_1], .int .i64 a1] rfl (by (try simp only [List.map_toArray, List.map_cons, List.map_nil]); first | done | rfl | (simp only [List.length_drop, List.length_take]; rfl)) ?_; (with_reducible refine (taskmasterref9_Whole.calls kj5 a0_0 _ _ l0_1 a1 t215 _ ?side1 ?side2 A51.out).mono ?_); (case side1 => repeat (first | exact (Kd.C_below HR0_1.out HB.out) | (with_reducible refine Kd.C_alloc ?_ _) | (with_reducible refine Kd.C_drewN ?_ _) | (with_reducible refine Kd.C_drew ?_))); (case side2 => exact HC0_1.out); rintro e w175 ⟨rfl, hb⟩; refine ⟨_, rfl, ?_⟩; have n0_ := Aside0.mk (Kd.S_below (by (with_reducible repeat (first | apply Kd.S_alloc | apply Kd.S_drewN | apply Kd.S_drew)); exact HO202.out) hb); have n1_ := Aside0.mk (Kd.S_below (by (with_reducible repeat (first | apply Kd.S_alloc | apply Kd.S_drewN | apply Kd.S_drew)); exact HO206.out) hb); have n2_ := Aside0.mk (blk_below (g := gb197) (o := .cells #[.int .i64 a0_0, .slice A0_1 l0_1.length c0_1] 24 (0, 0)) (by (with_reducible repeat (first | refine blk_drewN ?_ _ | refine blk_drew ?_ | refine blk_alloc ?_ _)); exact BK197.out) hb); have n3_ := Aside0.mk (blk_below (g := gb207) (o := .cells #[.int .i64 t199, .slice (some ⟨go44, 0, none⟩) t200.length co66] 24 (0, 0)) (by (with_reducible repeat (first | refine blk_drewN ?_ _ | refine blk_drew ?_ | refine blk_alloc ?_ _)); exact BK207.out) hb); have n4_ := Aside0.mk (blk_below (g := gb208) (o := .cells #[.int .i64 t203, .slice (some ⟨go48, 0, none⟩) t204.length co69] 24 (0, 0)) (by (with_reducible repeat (first | refine blk_drewN ?_ _ | refine blk_drew ?_ | refine blk_alloc ?_ _)); exact BK208.out) hb); have n5_ := Aside0.mk (below_step (by repeat (first | (with_reducible first | exact HB.out | apply below_alloc | apply pw_below_drewN | apply below_drew1 | refine below_set ?_ GE197.out | refine below_set ?_ GE207.out | refine below_set ?_ GE208.out) | exact HB.out)) hb); clear HO202; clear HO206; clear BK197; clear BK207; clear BK208; clear HB; have HO202 := n0_; have HO206 := n1_; have BK197 := n2_; have BK207 := n3_; have BK208 := n4_; have HB := n5_; clear n0_ n1_ n2_ n3_ n4_ n5_; (try clear hb); (try clear hb2); (try clear hk); (try clear hi); have hcz176_0 : w175.cell? ⟨gb207, 0, none⟩ = some (.int .i64 t199) := (blk_cell BK207.out 0).trans rfl; have hcz176_1 : w175.cell? ⟨gb207, 1, none⟩ = some (.slice (some ⟨go44, 0, none⟩) t200.length co66) := (blk_cell BK207.out 1).trans rfl; have hfz176_0 := blk_frozen BK207.out 0; have hfz176_1 := blk_frozen BK207.out 1) | ((with_reducible refine gate_callee (f := 21) rfl ?_); refine goesL_ (some 103) rfl rfl Try.func21 (by kernel_rfl) rfl #[.agg #[.int .i64 t199, .slice (some ⟨go44, 0, none⟩) y211.length co66], .int .i64 a1, .int .i64 a2] rfl (by (try simp only [List.map_toArray, List.map_cons, List.map_nil]); first | done | (rw [show y211.length = t200.length from (Kd.S_reads' HO202.out).1.symm] <;> rfl) | rfl | (simp only [List.length_drop, List.length_take]; rfl)) ?_; (with_reducible refine (block_Of.calls kj5 t199 _ _ y211 a1 a2 t216 _ ?side1 ?side2 A53.out).mono ?_); (case side1 => repeat (first | exact (Kd.S_reads' HO202.out).2.2 | (with_reducible refine Kd.C_alloc ?_ _) | (with_reducible refine Kd.C_drewN ?_ _) | (with_reducible refine Kd.C_drew ?_))); (case side2 => rw [show y211.length = t200.length from (Kd.S_reads' HO202.out).1.symm]; exact (Kd.S_reads' HO202.out).2.1); rintro e w177 ⟨rfl, hb⟩; refine ⟨_, rfl, ?_⟩; have n0_ := Aside0.mk (Kd.S_below (by (with_reducible repeat (first | apply Kd.S_alloc | apply Kd.S_drewN | apply Kd.S_drew)); exact HO202.out) hb); have n1_ := Aside0.mk (Kd.S_below (by (with_reducible repeat (first | apply Kd.S_alloc | apply Kd.S_drewN | apply Kd.S_drew)); exact HO206.out) hb); have n2_ := Aside0.mk (blk_below (g := gb197) (o := .cells #[.int .i64 a0_0, .slice A0_1 l0_1.length c0_1] 24 (0, 0)) (by (with_reducible repeat (first | refine blk_drewN ?_ _ | refine blk_drew ?_ | refine blk_alloc ?_ _)); exact BK197.out) hb); have n3_ := Aside0.mk (blk_below (g := gb207) (o := .cells #[.int .i64 t199, .slice (some ⟨go44, 0, none⟩) t200.length co66] 24 (0, 0)) (by (with_reducible repeat (first | refine blk_drewN ?_ _ | refine blk_drew ?_ | refine blk_alloc ?_ _)); exact BK207.out) hb); have n4_ := Aside0.mk (blk_below (g := gb208) (o := .cells #[.int .i64 t203, .slice (some ⟨go48, 0, none⟩) t204.length co69] 24 (0, 0)) (by (with_reducible repeat (first | refine blk_drewN ?_ _ | refine blk_drew ?_ | refine blk_alloc ?_ _)); exact BK208.out) hb); have n5_ := Aside0.mk (below_step (by repeat (first | (with_reducible first | exact HB.out | apply below_alloc | apply pw_below_drewN | apply below_drew1 | refine below_set ?_ GE197.out | refine below_set ?_ GE207.out | refine below_set ?_ GE208.out) | exact HB.out)) hb); clear HO202; clear HO206; clear BK197; clear BK207; clear BK208; clear HB; have HO202 := n0_; have HO206 := n1_; have BK197 := n2_; have BK207 := n3_; have BK208 := n4_; have HB := n5_; clear n0_ n1_ n2_ n3_ n4_ n5_; (try clear hb); (try clear hb2); (try clear hk); (try clear hi)))
         go_ret
         exact ⟨by first | rfl | (simp [errW_none, errW_some] <;> rfl) | (simp only [← hji54]; first | rfl | (simp [errW_none, errW_some] <;> rfl)) | (simp [*, errW_none, errW_some] <;> rfl), by repeat (first | (with_reducible first | exact HB.out | apply below_alloc | apply pw_below_drewN | apply below_drew1 | refine below_set ?_ GE197.out | refine below_set ?_ GE207.out | refine below_set ?_ GE208.out) | exact HB.out)⟩
       ·rw [if_neg c52] at H
        have c52b0 : decide (a2 < a4) = false := decide_eq_false c52
        clear c52
        replace H := Option.bind_eq_some_iff.mp H
        obtain ⟨t219, A1780, H⟩ := H
        replace H : (if t219 = (mn a3 t215) then ((block_Of.f kj5 t203 y214 a1 a2).bind fun t220 => (if t220 = t215 then ((taskmasterlaw9_known.f kj5).bind fun t221 => (some t221)) else (some false))) else (some false)) = some r := H
        have A178 := Aside0.mk A1780
        clear A1780
        obtain ⟨ji179, hji179⟩ : ∃ j_ : Int, (mn a3 t215) = j_ := ⟨_, rfl⟩
        replace H : (if t219 = (ji179) then ((block_Of.f kj5 t203 y214 a1 a2).bind fun t220 => (if t220 = t215 then ((taskmasterlaw9_known.f kj5).bind fun t221 => (some t221)) else (some false))) else (some false)) = some r := by first | (rw [hji179] at H; exact H) | (simp only [hji179] at H ⊢; exact H)
        (try rw [hji179] at A40)
        (try rw [hji179] at A41)
        (try rw [hji179] at A51)
        (try rw [hji179] at A178)
        have hji179_ : (if t215 < a3 then t215 else a3) = ji179 := hji179
        by_cases c180 : t219 = (ji179)
        ·rw [if_pos c180] at H
         have c180b0 : (t219 == (ji179)) = true := beq_iff_eq.mpr c180
         have c180b1 : (t219 != (ji179)) = false := bne_eq_false_iff_eq.mpr c180
         clear c180
         replace H := Option.bind_eq_some_iff.mp H
         obtain ⟨t220, A1810, H⟩ := H
         replace H : (if t220 = t215 then ((taskmasterlaw9_known.f kj5).bind fun t221 => (some t221)) else (some false)) = some r := H
         have A181 := Aside0.mk A1810
         clear A1810
         by_cases c182 : t220 = t215
         ·rw [if_pos c182] at H
          have c182b0 : (t220 == t215) = true := beq_iff_eq.mpr c182
          have c182b1 : (t220 != t215) = false := bne_eq_false_iff_eq.mpr c182
          clear c182
          replace H := Option.bind_eq_some_iff.mp H
          obtain ⟨t221, A1830, H⟩ := H
          replace H : (some t221) = some r := H
          have A183 := Aside0.mk A1830
          clear A1830
          obtain rfl := Option.some.inj H
          go_wp2_with (first | ((with_reducible refine gate_callee (f := 22) rfl ?_); refine goesL_ (some 95) rfl rfl Try.func22 (by kernel_rfl) rfl #[.agg #[.int .i64 a0_0, .slice A0_1 l0_1.length c0_1], .int .i64 a1] rfl (by (try simp only [List.map_toArray, List.map_cons, List.map_nil]); first | done | rfl | (simp only [List.length_drop, List.length_take]; rfl)) ?_; (with_reducible refine (taskmasterref9_Whole.calls kj5 a0_0 _ _ l0_1 a1 t215 _ ?side1 ?side2 A51.out).mono ?_); (case side1 => repeat (first | exact (Kd.C_below HR0_1.out HB.out) | (with_reducible refine Kd.C_alloc ?_ _) | (with_reducible refine Kd.C_drewN ?_ _) | (with_reducible refine Kd.C_drew ?_))); (case side2 => exact HC0_1.out); rintro e w219 ⟨rfl, hb⟩; refine ⟨_, rfl, ?_⟩; have n0_ := Aside0.mk (Kd.S_below (by (with_reducible repeat (first | apply Kd.S_alloc | apply Kd.S_drewN | apply Kd.S_drew)); exact HO202.out) hb); have n1_ := Aside0.mk (Kd.S_below (by (with_reducible repeat (first | apply Kd.S_alloc | apply Kd.S_drewN | apply Kd.S_drew)); exact HO206.out) hb); have n2_ := Aside0.mk (blk_below (g := gb197) (o := .cells #[.int .i64 a0_0, .slice A0_1 l0_1.length c0_1] 24 (0, 0)) (by (with_reducible repeat (first | refine blk_drewN ?_ _ | refine blk_drew ?_ | refine blk_alloc ?_ _)); exact BK197.out) hb); have n3_ := Aside0.mk (blk_below (g := gb207) (o := .cells #[.int .i64 t199, .slice (some ⟨go44, 0, none⟩) t200.length co66] 24 (0, 0)) (by (with_reducible repeat (first | refine blk_drewN ?_ _ | refine blk_drew ?_ | refine blk_alloc ?_ _)); exact BK207.out) hb); have n4_ := Aside0.mk (blk_below (g := gb208) (o := .cells #[.int .i64 t203, .slice (some ⟨go48, 0, none⟩) t204.length co69] 24 (0, 0)) (by (with_reducible repeat (first | refine blk_drewN ?_ _ | refine blk_drew ?_ | refine blk_alloc ?_ _)); exact BK208.out) hb); have n5_ := Aside0.mk (below_step (by repeat (first | (with_reducible first | exact HB.out | apply below_alloc | apply pw_below_drewN | apply below_drew1 | refine below_set ?_ GE197.out | refine below_set ?_ GE207.out | refine below_set ?_ GE208.out) | exact HB.out)) hb); clear HO202; clear HO206; clear BK197; clear BK207; clear BK208; clear HB; have HO202 := n0_; have HO206 := n1_; have BK197 := n2_; have BK207 := n3_; have BK208 := n4_; have HB := n5_; clear n0_ n1_ n2_ n3_ n4_ n5_; (try clear hb); (try clear hb2); (try clear hk); (try clear hi); have hcz220_0 : w219.cell? ⟨gb207, 0, none⟩ = some (.int .i64 t199) := (blk_cell BK207.out 0).trans rfl; have hcz220_1 : w219.cell? ⟨gb207, 1, none⟩ = some (.slice (some ⟨go44, 0, none⟩) t200.length co66) := (blk_cell BK207.out 1).trans rfl; have hfz220_0 := blk_frozen BK207.out 0; have hfz220_1 := blk_frozen BK207.out 1) | ((with_reducible refine gate_callee (f := 21) rfl ?_); refine goesL_ (some 103) rfl rfl Try.func21 (by kernel_rfl) rfl #[.agg #[.int .i64 t199, .slice (some ⟨go44, 0, none⟩) y211.length co66], .int .i64 a1, .int .i64 a2] rfl (by (try simp only [List.map_toArray, List.map_cons, List.map_nil]); first | done | (rw [show y211.length = t200.length from (Kd.S_reads' HO202.out).1.symm] <;> rfl) | rfl | (simp only [List.length_drop, List.length_take]; rfl)) ?_; (with_reducible refine (block_Of.calls kj5 t199 _ _ y211 a1 a2 t219 _ ?side1 ?side2 A178.out).mono ?_); (case side1 => repeat (first | exact (Kd.S_reads' HO202.out).2.2 | (with_reducible refine Kd.C_alloc ?_ _) | (with_reducible refine Kd.C_drewN ?_ _) | (with_reducible refine Kd.C_drew ?_))); (case side2 => rw [show y211.length = t200.length from (Kd.S_reads' HO202.out).1.symm]; exact (Kd.S_reads' HO202.out).2.1); rintro e w221 ⟨rfl, hb⟩; refine ⟨_, rfl, ?_⟩; have n0_ := Aside0.mk (Kd.S_below (by (with_reducible repeat (first | apply Kd.S_alloc | apply Kd.S_drewN | apply Kd.S_drew)); exact HO202.out) hb); have n1_ := Aside0.mk (Kd.S_below (by (with_reducible repeat (first | apply Kd.S_alloc | apply Kd.S_drewN | apply Kd.S_drew)); exact HO206.out) hb); have n2_ := Aside0.mk (blk_below (g := gb197) (o := .cells #[.int .i64 a0_0, .slice A0_1 l0_1.length c0_1] 24 (0, 0)) (by (with_reducible repeat (first | refine blk_drewN ?_ _ | refine blk_drew ?_ | refine blk_alloc ?_ _)); exact BK197.out) hb); have n3_ := Aside0.mk (blk_below (g := gb207) (o := .cells #[.int .i64 t199, .slice (some ⟨go44, 0, none⟩) t200.length co66] 24 (0, 0)) (by (with_reducible repeat (first | refine blk_drewN ?_ _ | refine blk_drew ?_ | refine blk_alloc ?_ _)); exact BK207.out) hb); have n4_ := Aside0.mk (blk_below (g := gb208) (o := .cells #[.int .i64 t203, .slice (some ⟨go48, 0, none⟩) t204.length co69] 24 (0, 0)) (by (with_reducible repeat (first | refine blk_drewN ?_ _ | refine blk_drew ?_ | refine blk_alloc ?_ _)); exact BK208.out) hb); have n5_ := Aside0.mk (below_step (by repeat (first | (with_reducible first | exact HB.out | apply below_alloc | apply pw_below_drewN | apply below_drew1 | refine below_set ?_ GE197.out | refine below_set ?_ GE207.out | refine below_set ?_ GE208.out) | exact HB.out)) hb); clear HO202; clear HO206; clear BK197; clear BK207; clear BK208; clear HB; have HO202 := n0_; have HO206 := n1_; have BK197 := n2_; have BK207 := n3_; have BK208 := n4_; have HB := n5_; clear n0_ n1_ n2_ n3_ n4_ n5_; (try clear hb); (try clear hb2); (try clear hk); (try clear hi); have hcz222_0 : w221.cell? ⟨gb208, 0, none⟩ = some (.int .i64 t203) := (blk_cell BK208.out 0).trans rfl; have hcz222_1 : w221.cell? ⟨gb208, 1, none⟩ = some (.slice (some ⟨go48, 0, none⟩) t204.length co69) := (blk_cell BK208.out 1).trans rfl; have hfz222_0 := blk_frozen BK208.out 0; have hfz222_1 := blk_frozen BK208.out 1) | (go_at_call 21; refine calls_of_args (args' := #[.agg #[.int .i64 t203, .slice (some ⟨go48, 0, none⟩) y214.length co69], .int .i64 a1, .int .i64 a2]) (by first | (rw [show y214.length = t204.length from (Kd.S_reads' HO206.out).1.symm] <;> rfl) | rfl) ?_; (with_reducible refine (block_Of.calls kj5 t203 _ _ y214 a1 a2 t220 _ ?side1 ?side2 A181.out).mono ?_); (case side1 => repeat (first | exact (Kd.S_reads' HO206.out).2.2 | (with_reducible refine Kd.C_alloc ?_ _) | (with_reducible refine Kd.C_drewN ?_ _) | (with_reducible refine Kd.C_drew ?_))); (case side2 => rw [show y214.length = t204.length from (Kd.S_reads' HO206.out).1.symm]; exact (Kd.S_reads' HO206.out).2.1); rintro e w223 ⟨rfl, hb⟩; have n0_ := Aside0.mk (Kd.S_below (by (with_reducible repeat (first | apply Kd.S_alloc | apply Kd.S_drewN | apply Kd.S_drew)); exact HO202.out) hb); have n1_ := Aside0.mk (Kd.S_below (by (with_reducible repeat (first | apply Kd.S_alloc | apply Kd.S_drewN | apply Kd.S_drew)); exact HO206.out) hb); have n2_ := Aside0.mk (blk_below (g := gb197) (o := .cells #[.int .i64 a0_0, .slice A0_1 l0_1.length c0_1] 24 (0, 0)) (by (with_reducible repeat (first | refine blk_drewN ?_ _ | refine blk_drew ?_ | refine blk_alloc ?_ _)); exact BK197.out) hb); have n3_ := Aside0.mk (blk_below (g := gb207) (o := .cells #[.int .i64 t199, .slice (some ⟨go44, 0, none⟩) t200.length co66] 24 (0, 0)) (by (with_reducible repeat (first | refine blk_drewN ?_ _ | refine blk_drew ?_ | refine blk_alloc ?_ _)); exact BK207.out) hb); have n4_ := Aside0.mk (blk_below (g := gb208) (o := .cells #[.int .i64 t203, .slice (some ⟨go48, 0, none⟩) t204.length co69] 24 (0, 0)) (by (with_reducible repeat (first | refine blk_drewN ?_ _ | refine blk_drew ?_ | refine blk_alloc ?_ _)); exact BK208.out) hb); have n5_ := Aside0.mk (below_step (by repeat (first | (with_reducible first | exact HB.out | apply below_alloc | apply pw_below_drewN | apply below_drew1 | refine below_set ?_ GE197.out | refine below_set ?_ GE207.out | refine below_set ?_ GE208.out) | exact HB.out)) hb); clear HO202; clear HO206; clear BK197; clear BK207; clear BK208; clear HB; have HO202 := n0_; have HO206 := n1_; have BK197 := n2_; have BK207 := n3_; have BK208 := n4_; have HB := n5_; clear n0_ n1_ n2_ n3_ n4_ n5_; (try clear hb); (try clear hb2); (try clear hk); (try clear hi)) | (go_at_call 24; (with_reducible refine (taskmasterlaw9_known.calls kj5  t221 _ A183.out).mono ?_); rintro e w224 ⟨rfl, hb⟩; have n0_ := Aside0.mk (Kd.S_below (by (with_reducible repeat (first | apply Kd.S_alloc | apply Kd.S_drewN | apply Kd.S_drew)); exact HO202.out) hb); have n1_ := Aside0.mk (Kd.S_below (by (with_reducible repeat (first | apply Kd.S_alloc | apply Kd.S_drewN | apply Kd.S_drew)); exact HO206.out) hb); have n2_ := Aside0.mk (blk_below (g := gb197) (o := .cells #[.int .i64 a0_0, .slice A0_1 l0_1.length c0_1] 24 (0, 0)) (by (with_reducible repeat (first | refine blk_drewN ?_ _ | refine blk_drew ?_ | refine blk_alloc ?_ _)); exact BK197.out) hb); have n3_ := Aside0.mk (blk_below (g := gb207) (o := .cells #[.int .i64 t199, .slice (some ⟨go44, 0, none⟩) t200.length co66] 24 (0, 0)) (by (with_reducible repeat (first | refine blk_drewN ?_ _ | refine blk_drew ?_ | refine blk_alloc ?_ _)); exact BK207.out) hb); have n4_ := Aside0.mk (blk_below (g := gb208) (o := .cells #[.int .i64 t203, .slice (some ⟨go48, 0, none⟩) t204.length co69] 24 (0, 0)) (by (with_reducible repeat (first | refine blk_drewN ?_ _ | refine blk_drew ?_ | refine blk_alloc ?_ _)); exact BK208.out) hb); have n5_ := Aside0.mk (below_step (by repeat (first | (with_reducible first | exact HB.out | apply below_alloc | apply pw_below_drewN | apply below_drew1 | refine below_set ?_ GE197.out | refine below_set ?_ GE207.out | refine below_set ?_ GE208.out) | exact HB.out)) hb); clear HO202; clear HO206; clear BK197; clear BK207; clear BK208; clear HB; have HO202 := n0_; have HO206 := n1_; have BK197 := n2_; have BK207 := n3_; have BK208 := n4_; have HB := n5_; clear n0_ n1_ n2_ n3_ n4_ n5_; (try clear hb); (try clear hb2); (try clear hk); (try clear hi)))
          go_ret
          exact ⟨by first | rfl | (simp [errW_none, errW_some] <;> rfl) | (simp only [← hji179]; first | rfl | (simp [errW_none, errW_some] <;> rfl)) | (simp [*, errW_none, errW_some] <;> rfl), by repeat (first | (with_reducible first | exact HB.out | apply below_alloc | apply pw_below_drewN | apply below_drew1 | refine below_set ?_ GE197.out | refine below_set ?_ GE207.out | refine below_set ?_ GE208.out) | exact HB.out)⟩
         ·rw [if_neg c182] at H
          have c182b0 : (t220 == t215) = false := beq_eq_false_iff_ne.mpr c182
          have c182b1 : (t220 != t215) = true := bne_iff_ne.mpr c182
          obtain rfl := Option.some.inj H
          go_wp2_with (first | ((with_reducible refine gate_callee (f := 22) rfl ?_); refine goesL_ (some 95) rfl rfl Try.func22 (by kernel_rfl) rfl #[.agg #[.int .i64 a0_0, .slice A0_1 l0_1.length c0_1], .int .i64 a1] rfl (by (try simp only [List.map_toArray, List.map_cons, List.map_nil]); first | done | rfl | (simp only [List.length_drop, List.length_take]; rfl)) ?_; (with_reducible refine (taskmasterref9_Whole.calls kj5 a0_0 _ _ l0_1 a1 t215 _ ?side1 ?side2 A51.out).mono ?_); (case side1 => repeat (first | exact (Kd.C_below HR0_1.out HB.out) | (with_reducible refine Kd.C_alloc ?_ _) | (with_reducible refine Kd.C_drewN ?_ _) | (with_reducible refine Kd.C_drew ?_))); (case side2 => exact HC0_1.out); rintro e w260 ⟨rfl, hb⟩; refine ⟨_, rfl, ?_⟩; have n0_ := Aside0.mk (Kd.S_below (by (with_reducible repeat (first | apply Kd.S_alloc | apply Kd.S_drewN | apply Kd.S_drew)); exact HO202.out) hb); have n1_ := Aside0.mk (Kd.S_below (by (with_reducible repeat (first | apply Kd.S_alloc | apply Kd.S_drewN | apply Kd.S_drew)); exact HO206.out) hb); have n2_ := Aside0.mk (blk_below (g := gb197) (o := .cells #[.int .i64 a0_0, .slice A0_1 l0_1.length c0_1] 24 (0, 0)) (by (with_reducible repeat (first | refine blk_drewN ?_ _ | refine blk_drew ?_ | refine blk_alloc ?_ _)); exact BK197.out) hb); have n3_ := Aside0.mk (blk_below (g := gb207) (o := .cells #[.int .i64 t199, .slice (some ⟨go44, 0, none⟩) t200.length co66] 24 (0, 0)) (by (with_reducible repeat (first | refine blk_drewN ?_ _ | refine blk_drew ?_ | refine blk_alloc ?_ _)); exact BK207.out) hb); have n4_ := Aside0.mk (blk_below (g := gb208) (o := .cells #[.int .i64 t203, .slice (some ⟨go48, 0, none⟩) t204.length co69] 24 (0, 0)) (by (with_reducible repeat (first | refine blk_drewN ?_ _ | refine blk_drew ?_ | refine blk_alloc ?_ _)); exact BK208.out) hb); have n5_ := Aside0.mk (below_step (by repeat (first | (with_reducible first | exact HB.out | apply below_alloc | apply pw_below_drewN | apply below_drew1 | refine below_set ?_ GE197.out | refine below_set ?_ GE207.out | refine below_set ?_ GE208.out) | exact HB.out)) hb); clear HO202; clear HO206; clear BK197; clear BK207; clear BK208; clear HB; have HO202 := n0_; have HO206 := n1_; have BK197 := n2_; have BK207 := n3_; have BK208 := n4_; have HB := n5_; clear n0_ n1_ n2_ n3_ n4_ n5_; (try clear hb); (try clear hb2); (try clear hk); (try clear hi); have hcz261_0 : w260.cell? ⟨gb207, 0, none⟩ = some (.int .i64 t199) := (blk_cell BK207.out 0).trans rfl; have hcz261_1 : w260.cell? ⟨gb207, 1, none⟩ = some (.slice (some ⟨go44, 0, none⟩) t200.length co66) := (blk_cell BK207.out 1).trans rfl; have hfz261_0 := blk_frozen BK207.out 0; have hfz261_1 := blk_frozen BK207.out 1) | ((with_reducible refine gate_callee (f := 21) rfl ?_); refine goesL_ (some 103) rfl rfl Try.func21 (by kernel_rfl) rfl #[.agg #[.int .i64 t199, .slice (some ⟨go44, 0, none⟩) y211.length co66], .int .i64 a1, .int .i64 a2] rfl (by (try simp only [List.map_toArray, List.map_cons, List.map_nil]); first | done | (rw [show y211.length = t200.length from (Kd.S_reads' HO202.out).1.symm] <;> rfl) | rfl | (simp only [List.length_drop, List.length_take]; rfl)) ?_; (with_reducible refine (block_Of.calls kj5 t199 _ _ y211 a1 a2 t219 _ ?side1 ?side2 A178.out).mono ?_); (case side1 => repeat (first | exact (Kd.S_reads' HO202.out).2.2 | (with_reducible refine Kd.C_alloc ?_ _) | (with_reducible refine Kd.C_drewN ?_ _) | (with_reducible refine Kd.C_drew ?_))); (case side2 => rw [show y211.length = t200.length from (Kd.S_reads' HO202.out).1.symm]; exact (Kd.S_reads' HO202.out).2.1); rintro e w262 ⟨rfl, hb⟩; refine ⟨_, rfl, ?_⟩; have n0_ := Aside0.mk (Kd.S_below (by (with_reducible repeat (first | apply Kd.S_alloc | apply Kd.S_drewN | apply Kd.S_drew)); exact HO202.out) hb); have n1_ := Aside0.mk (Kd.S_below (by (with_reducible repeat (first | apply Kd.S_alloc | apply Kd.S_drewN | apply Kd.S_drew)); exact HO206.out) hb); have n2_ := Aside0.mk (blk_below (g := gb197) (o := .cells #[.int .i64 a0_0, .slice A0_1 l0_1.length c0_1] 24 (0, 0)) (by (with_reducible repeat (first | refine blk_drewN ?_ _ | refine blk_drew ?_ | refine blk_alloc ?_ _)); exact BK197.out) hb); have n3_ := Aside0.mk (blk_below (g := gb207) (o := .cells #[.int .i64 t199, .slice (some ⟨go44, 0, none⟩) t200.length co66] 24 (0, 0)) (by (with_reducible repeat (first | refine blk_drewN ?_ _ | refine blk_drew ?_ | refine blk_alloc ?_ _)); exact BK207.out) hb); have n4_ := Aside0.mk (blk_below (g := gb208) (o := .cells #[.int .i64 t203, .slice (some ⟨go48, 0, none⟩) t204.length co69] 24 (0, 0)) (by (with_reducible repeat (first | refine blk_drewN ?_ _ | refine blk_drew ?_ | refine blk_alloc ?_ _)); exact BK208.out) hb); have n5_ := Aside0.mk (below_step (by repeat (first | (with_reducible first | exact HB.out | apply below_alloc | apply pw_below_drewN | apply below_drew1 | refine below_set ?_ GE197.out | refine below_set ?_ GE207.out | refine below_set ?_ GE208.out) | exact HB.out)) hb); clear HO202; clear HO206; clear BK197; clear BK207; clear BK208; clear HB; have HO202 := n0_; have HO206 := n1_; have BK197 := n2_; have BK207 := n3_; have BK208 := n4_; have HB := n5_; clear n0_ n1_ n2_ n3_ n4_ n5_; (try clear hb); (try clear hb2); (try clear hk); (try clear hi); have hcz263_0 : w262.cell? ⟨gb208, 0, none⟩ = some (.int .i64 t203) := (blk_cell BK208.out 0).trans rfl; have hcz263_1 : w262.cell? ⟨gb208, 1, none⟩ = some (.slice (some ⟨go48, 0, none⟩) t204.length co69) := (blk_cell BK208.out 1).trans rfl; have hfz263_0 := blk_frozen BK208.out 0; have hfz263_1 := blk_frozen BK208.out 1) | (go_at_call 21; refine calls_of_args (args' := #[.agg #[.int .i64 t203, .slice (some ⟨go48, 0, none⟩) y214.length co69], .int .i64 a1, .int .i64 a2]) (by first | (rw [show y214.length = t204.length from (Kd.S_reads' HO206.out).1.symm] <;> rfl) | rfl) ?_; (with_reducible refine (block_Of.calls kj5 t203 _ _ y214 a1 a2 t220 _ ?side1 ?side2 A181.out).mono ?_); (case side1 => repeat (first | exact (Kd.S_reads' HO206.out).2.2 | (with_reducible refine Kd.C_alloc ?_ _) | (with_reducible refine Kd.C_drewN ?_ _) | (with_reducible refine Kd.C_drew ?_))); (case side2 => rw [show y214.length = t204.length from (Kd.S_reads' HO206.out).1.symm]; exact (Kd.S_reads' HO206.out).2.1); rintro e w264 ⟨rfl, hb⟩; have n0_ := Aside0.mk (Kd.S_below (by (with_reducible repeat (first | apply Kd.S_alloc | apply Kd.S_drewN | apply Kd.S_drew)); exact HO202.out) hb); have n1_ := Aside0.mk (Kd.S_below (by (with_reducible repeat (first | apply Kd.S_alloc | apply Kd.S_drewN | apply Kd.S_drew)); exact HO206.out) hb); have n2_ := Aside0.mk (blk_below (g := gb197) (o := .cells #[.int .i64 a0_0, .slice A0_1 l0_1.length c0_1] 24 (0, 0)) (by (with_reducible repeat (first | refine blk_drewN ?_ _ | refine blk_drew ?_ | refine blk_alloc ?_ _)); exact BK197.out) hb); have n3_ := Aside0.mk (blk_below (g := gb207) (o := .cells #[.int .i64 t199, .slice (some ⟨go44, 0, none⟩) t200.length co66] 24 (0, 0)) (by (with_reducible repeat (first | refine blk_drewN ?_ _ | refine blk_drew ?_ | refine blk_alloc ?_ _)); exact BK207.out) hb); have n4_ := Aside0.mk (blk_below (g := gb208) (o := .cells #[.int .i64 t203, .slice (some ⟨go48, 0, none⟩) t204.length co69] 24 (0, 0)) (by (with_reducible repeat (first | refine blk_drewN ?_ _ | refine blk_drew ?_ | refine blk_alloc ?_ _)); exact BK208.out) hb); have n5_ := Aside0.mk (below_step (by repeat (first | (with_reducible first | exact HB.out | apply below_alloc | apply pw_below_drewN | apply below_drew1 | refine below_set ?_ GE197.out | refine below_set ?_ GE207.out | refine below_set ?_ GE208.out) | exact HB.out)) hb); clear HO202; clear HO206; clear BK197; clear BK207; clear BK208; clear HB; have HO202 := n0_; have HO206 := n1_; have BK197 := n2_; have BK207 := n3_; have BK208 := n4_; have HB := n5_; clear n0_ n1_ n2_ n3_ n4_ n5_; (try clear hb); (try clear hb2); (try clear hk); (try clear hi)))
          go_ret
          exact ⟨by first | rfl | (simp [errW_none, errW_some] <;> rfl) | (simp only [← hji179]; first | rfl | (simp [errW_none, errW_some] <;> rfl)) | (simp [*, errW_none, errW_some] <;> rfl), by repeat (first | (with_reducible first | exact HB.out | apply below_alloc | apply pw_below_drewN | apply below_drew1 | refine below_set ?_ GE197.out | refine below_set ?_ GE207.out | refine below_set ?_ GE208.out) | exact HB.out)⟩
        ·rw [if_neg c180] at H
         have c180b0 : (t219 == (ji179)) = false := beq_eq_false_iff_ne.mpr c180
         have c180b1 : (t219 != (ji179)) = true := bne_iff_ne.mpr c180
         obtain rfl := Option.some.inj H
         go_wp2_with (first | ((with_reducible refine gate_callee (f := 22) rfl ?_); refine goesL_ (some 95) rfl rfl Try.func22 (by kernel_rfl) rfl #[.agg #[.int .i64 a0_0, .slice A0_1 l0_1.length c0_1], .int .i64 a1] rfl (by (try simp only [List.map_toArray, List.map_cons, List.map_nil]); first | done | rfl | (simp only [List.length_drop, List.length_take]; rfl)) ?_; (with_reducible refine (taskmasterref9_Whole.calls kj5 a0_0 _ _ l0_1 a1 t215 _ ?side1 ?side2 A51.out).mono ?_); (case side1 => repeat (first | exact (Kd.C_below HR0_1.out HB.out) | (with_reducible refine Kd.C_alloc ?_ _) | (with_reducible refine Kd.C_drewN ?_ _) | (with_reducible refine Kd.C_drew ?_))); (case side2 => exact HC0_1.out); rintro e w300 ⟨rfl, hb⟩; refine ⟨_, rfl, ?_⟩; have n0_ := Aside0.mk (Kd.S_below (by (with_reducible repeat (first | apply Kd.S_alloc | apply Kd.S_drewN | apply Kd.S_drew)); exact HO202.out) hb); have n1_ := Aside0.mk (Kd.S_below (by (with_reducible repeat (first | apply Kd.S_alloc | apply Kd.S_drewN | apply Kd.S_drew)); exact HO206.out) hb); have n2_ := Aside0.mk (blk_below (g := gb197) (o := .cells #[.int .i64 a0_0, .slice A0_1 l0_1.length c0_1] 24 (0, 0)) (by (with_reducible repeat (first | refine blk_drewN ?_ _ | refine blk_drew ?_ | refine blk_alloc ?_ _)); exact BK197.out) hb); have n3_ := Aside0.mk (blk_below (g := gb207) (o := .cells #[.int .i64 t199, .slice (some ⟨go44, 0, none⟩) t200.length co66] 24 (0, 0)) (by (with_reducible repeat (first | refine blk_drewN ?_ _ | refine blk_drew ?_ | refine blk_alloc ?_ _)); exact BK207.out) hb); have n4_ := Aside0.mk (blk_below (g := gb208) (o := .cells #[.int .i64 t203, .slice (some ⟨go48, 0, none⟩) t204.length co69] 24 (0, 0)) (by (with_reducible repeat (first | refine blk_drewN ?_ _ | refine blk_drew ?_ | refine blk_alloc ?_ _)); exact BK208.out) hb); have n5_ := Aside0.mk (below_step (by repeat (first | (with_reducible first | exact HB.out | apply below_alloc | apply pw_below_drewN | apply below_drew1 | refine below_set ?_ GE197.out | refine below_set ?_ GE207.out | refine below_set ?_ GE208.out) | exact HB.out)) hb); clear HO202; clear HO206; clear BK197; clear BK207; clear BK208; clear HB; have HO202 := n0_; have HO206 := n1_; have BK197 := n2_; have BK207 := n3_; have BK208 := n4_; have HB := n5_; clear n0_ n1_ n2_ n3_ n4_ n5_; (try clear hb); (try clear hb2); (try clear hk); (try clear hi); have hcz301_0 : w300.cell? ⟨gb207, 0, none⟩ = some (.int .i64 t199) := (blk_cell BK207.out 0).trans rfl; have hcz301_1 : w300.cell? ⟨gb207, 1, none⟩ = some (.slice (some ⟨go44, 0, none⟩) t200.length co66) := (blk_cell BK207.out 1).trans rfl; have hfz301_0 := blk_frozen BK207.out 0; have hfz301_1 := blk_frozen BK207.out 1) | ((with_reducible refine gate_callee (f := 21) rfl ?_); refine goesL_ (some 103) rfl rfl Try.func21 (by kernel_rfl) rfl #[.agg #[.int .i64 t199, .slice (some ⟨go44, 0, none⟩) y211.length co66], .int .i64 a1, .int .i64 a2] rfl (by (try simp only [List.map_toArray, List.map_cons, List.map_nil]); first | done | (rw [show y211.length = t200.length from (Kd.S_reads' HO202.out).1.symm] <;> rfl) | rfl | (simp only [List.length_drop, List.length_take]; rfl)) ?_; (with_reducible refine (block_Of.calls kj5 t199 _ _ y211 a1 a2 t219 _ ?side1 ?side2 A178.out).mono ?_); (case side1 => repeat (first | exact (Kd.S_reads' HO202.out).2.2 | (with_reducible refine Kd.C_alloc ?_ _) | (with_reducible refine Kd.C_drewN ?_ _) | (with_reducible refine Kd.C_drew ?_))); (case side2 => rw [show y211.length = t200.length from (Kd.S_reads' HO202.out).1.symm]; exact (Kd.S_reads' HO202.out).2.1); rintro e w302 ⟨rfl, hb⟩; refine ⟨_, rfl, ?_⟩; have n0_ := Aside0.mk (Kd.S_below (by (with_reducible repeat (first | apply Kd.S_alloc | apply Kd.S_drewN | apply Kd.S_drew)); exact HO202.out) hb); have n1_ := Aside0.mk (Kd.S_below (by (with_reducible repeat (first | apply Kd.S_alloc | apply Kd.S_drewN | apply Kd.S_drew)); exact HO206.out) hb); have n2_ := Aside0.mk (blk_below (g := gb197) (o := .cells #[.int .i64 a0_0, .slice A0_1 l0_1.length c0_1] 24 (0, 0)) (by (with_reducible repeat (first | refine blk_drewN ?_ _ | refine blk_drew ?_ | refine blk_alloc ?_ _)); exact BK197.out) hb); have n3_ := Aside0.mk (blk_below (g := gb207) (o := .cells #[.int .i64 t199, .slice (some ⟨go44, 0, none⟩) t200.length co66] 24 (0, 0)) (by (with_reducible repeat (first | refine blk_drewN ?_ _ | refine blk_drew ?_ | refine blk_alloc ?_ _)); exact BK207.out) hb); have n4_ := Aside0.mk (blk_below (g := gb208) (o := .cells #[.int .i64 t203, .slice (some ⟨go48, 0, none⟩) t204.length co69] 24 (0, 0)) (by (with_reducible repeat (first | refine blk_drewN ?_ _ | refine blk_drew ?_ | refine blk_alloc ?_ _)); exact BK208.out) hb); have n5_ := Aside0.mk (below_step (by repeat (first | (with_reducible first | exact HB.out | apply below_alloc | apply pw_below_drewN | apply below_drew1 | refine below_set ?_ GE197.out | refine below_set ?_ GE207.out | refine below_set ?_ GE208.out) | exact HB.out)) hb); clear HO202; clear HO206; clear BK197; clear BK207; clear BK208; clear HB; have HO202 := n0_; have HO206 := n1_; have BK197 := n2_; have BK207 := n3_; have BK208 := n4_; have HB := n5_; clear n0_ n1_ n2_ n3_ n4_ n5_; (try clear hb); (try clear hb2); (try clear hk); (try clear hi)))
         go_ret
         exact ⟨by first | rfl | (simp [errW_none, errW_some] <;> rfl) | (simp only [← hji179]; first | rfl | (simp [errW_none, errW_some] <;> rfl)) | (simp [*, errW_none, errW_some] <;> rfl), by repeat (first | (with_reducible first | exact HB.out | apply below_alloc | apply pw_below_drewN | apply below_drew1 | refine below_set ?_ GE197.out | refine below_set ?_ GE207.out | refine below_set ?_ GE208.out) | exact HB.out)⟩
      ·rw [if_neg c47] at H
       exact absurd H (by simp)
     ·rw [if_neg c43] at H
      exact absurd H (by simp)
    ·rw [if_neg c42] at H
     exact absurd H (by simp)
end Go.Proofs.Ytmhioeoioohmpaa.QBm

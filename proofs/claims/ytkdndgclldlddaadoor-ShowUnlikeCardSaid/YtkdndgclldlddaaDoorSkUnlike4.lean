/- What is proved: contracts and plain facts on the way to the row RowShowUnlike, and, in the last text, the row itself; conditions as each theorem names them. -/
import Derived.Laws.BitsLemmas
import Derived.Lib.ItoaLen
import Derived.ChangeArms
import Derived.Deep.Slices
import Derived.DataReads
import Derived.WideShapes
import Derived.KernelRfl
import Derived.Laws.Strings
import Derived.Test.YtkdndgclldlddaaDoorRows
import Derived.LaidMore
import Derived.MakeChecks
import Derived.Lib.LaidTab
import Derived.ProofKit
import Derived.WalkKit
import Derived.OpenShut
import Derived.ShutString
import Derived.ChangeOld
import Derived.Below
import Derived.SizedLaws
import Derived.Test.YtkdndgclldlddaaDoorTie
import Derived.Test.YtkdndgclldlddaaDoorCards
import Derived.SevenTiedAt
import Derived.Stop.Joined
import Derived.Test.YtkdndgclldlddaaDoorSkUnlike1
import Derived.Test.YtkdndgclldlddaaDoorSkUnlike2
import Derived.Test.YtkdndgclldlddaaDoorSkUnlike3
namespace Go.Proofs.YtkdndgclldlddaaDoor.QSu
open Go.RowKit Go.Proofs.YtkdndgclldlddaaDoorW.PrintWords Go.Proofs.YtkdndgclldlddaaDoorW.PrintLast Go.Proofs.YtkdndgclldlddaaDoorW.PrintMore
attribute [local go_sem] max2_int min2_int max_two min_two max_three min_three max_four min_four
set_option linter.unusedVariables false
set_option linter.unusedSimpArgs false
def taskmasterlaw7_ShowUnlike.j0 : Nat → Bool → Int → List (S30) → Int → List (S30) → Option (Bool)
 | 0, _, _, _, _, _ => none
 | k + 1, x24, x219000, x219001, x220000, x220001 => if x24 = true then (some true) else ((show_Text.f k x219000 x219001).bind fun t222 => ((show_Text.f k x220000 x220001).bind fun t223 => ((taskmasterref5_Same.f k x219000 x219001 x220000 x220001).bind fun t224 => (if ((t222.toList == t223.toList) == t224) = true then ((taskmasterlaw7_known.f k).bind fun t225 => (some t225)) else (some false)))))
def taskmasterlaw7_ShowUnlike.f (k : Nat) (a0_0 : Int) (l0_1 : List (S30)) (a1_0 : Int) (l1_1 : List (S30)) : Option (Bool) := if (l0_1.length : Int) > 10 then (taskmasterlaw7_ShowUnlike.j0 k true a0_0 l0_1 a1_0 l1_1) else (if (l1_1.length : Int) > 10 then (taskmasterlaw7_ShowUnlike.j0 k true a0_0 l0_1 a1_0 l1_1) else ((taskmasterref5_All.f k a0_0 l0_1).bind fun t220 => (if t220 = true then ((taskmasterref5_All.f k a1_0 l1_1).bind fun t221 => (taskmasterlaw7_ShowUnlike.j0 k (!t221) a0_0 l0_1 a1_0 l1_1)) else (taskmasterlaw7_ShowUnlike.j0 k true a0_0 l0_1 a1_0 l1_1))))
def taskmasterlaw7_ShowUnlike.T3 : Bool × List (List Nat × List Nat) := (true, [([], []), ([0], [0]), ([], []), ([2, 1], [2]), ([1, 3], [1, 3]), ([], []), ([], []), ([5, 6, 3], [5, 6]), ([4, 7], [4, 7]), ([8, 7], [8]), ([9, 9], [9]), ([9, 10], [9, 10]), ([11, 10, 0, 1, 2, 3, 4, 5, 6, 7, 8, 9, 10, 11], [11])])
def taskmasterlaw7_ShowUnlike.B3 : List Nat := [0, 1, 0, 7, 15, 0, 0, 111, 255, 511, 1023, 2047, 4095]
theorem taskmasterlaw7_ShowUnlike.tab3 : rtab .any (opsOf Tryd.f5 3) = taskmasterlaw7_ShowUnlike.T3 := by kernel_rfl
theorem taskmasterlaw7_ShowUnlike.bits3 : waitsOk taskmasterlaw7_ShowUnlike.T3.2 taskmasterlaw7_ShowUnlike.B3 = true := by kernel_rfl
set_option maxHeartbeats 8000000 in
set_option maxRecDepth 100000 in
theorem taskmasterlaw7_ShowUnlike.calls (k : Nat) (a0_0 : Int) (A0_1 : Option Addr) (c0_1 : Nat) (l0_1 : List (S30)) (a1_0 : Int) (A1_1 : Option Addr) (c1_1 : Nat) (l1_1 : List (S30)) (r : Bool) (w : World) (hr0_1 : Kd.C k30 w A0_1 l0_1.length l0_1) (hc0_1 : l0_1.length ≤ c0_1) (hr1_1 : Kd.C k30 w A1_1 l1_1.length l1_1) (hc1_1 : l1_1.length ≤ c1_1) (hT : TabW w) (h : taskmasterlaw7_ShowUnlike.f k a0_0 l0_1 a1_0 l1_1 = some r) :
  Calls Tryd.prog 5 #[.agg #[.int .i64 a0_0, .slice A0_1 l0_1.length c0_1], .agg #[.int .i64 a1_0, .slice A1_1 l1_1.length c1_1]] w fun e w' => e = .returned (.bool r) ∧ Below w.heap.size w w' := by
 have HT := Aside0.mk hT
 clear hT
 have hu24 := Tryd.underlying24
 have HR0_1 := Aside0.mk hr0_1
 have HC0_1 := Aside0.mk hc0_1
 clear hr0_1 hc0_1
 have HR1_1 := Aside0.mk hr1_1
 have HC1_1 := Aside0.mk hc1_1
 clear hr1_1 hc1_1
 have HB := Aside0.mk (Below.refl w.heap.size w)
 have H : (if (l0_1.length : Int) > 10 then (taskmasterlaw7_ShowUnlike.j0 k true a0_0 l0_1 a1_0 l1_1) else (if (l1_1.length : Int) > 10 then (taskmasterlaw7_ShowUnlike.j0 k true a0_0 l0_1 a1_0 l1_1) else ((taskmasterref5_All.f k a0_0 l0_1).bind fun t220 => (if t220 = true then ((taskmasterref5_All.f k a1_0 l1_1).bind fun t221 => (taskmasterlaw7_ShowUnlike.j0 k (!t221) a0_0 l0_1 a1_0 l1_1)) else (taskmasterlaw7_ShowUnlike.j0 k true a0_0 l0_1 a1_0 l1_1))))) = some r := h
 clear h
 have HC3 := Aside0.mk H
 clear H
 go_enter Tryd.func5, Tryd.ntmps5
 go_upto_region 1 with (first | ((with_reducible refine gate_dst (N := 2) rfl ?_); (try (refine gate_guard (by rfl) ?_; dsimp only)); refine box_event ?hg (N := 2) ?hd (cs := #[.int .i64 a0_0, .slice A0_1 l0_1.length c0_1]) (t := 24) ?hr ?_; (case hd => rfl); (case hg => rfl); (case hr => first | (go_simp; done) | (go_simp; rfl)); intro gb218 hg w4 hbox hb; have n0_ := Aside0.mk (below_step (by repeat (first | (with_reducible first | exact HB.out | apply below_alloc | apply pw_below_drewN | apply below_drew1) | exact HB.out)) hb); have n1_ := Aside0.mk (hbox); have n2_ := Aside0.mk ((by rw [hg]; exact (below_size (by repeat (first | (with_reducible first | exact HB.out | apply below_alloc | apply pw_below_drewN | apply below_drew1) | exact HB.out))) : w.heap.size ≤ gb218)); have n3_ := Aside0.mk ((by rw [hg]; exact (below_size (by repeat (first | (with_reducible first | exact HB.out | apply below_alloc | apply pw_below_drewN | apply below_drew1) | exact HB.out))) : w.heap.size ≤ gb218)); clear HB; have HB := n0_; have BK218 := n1_; have GW218 := n2_; have GE218 := n3_; clear n0_ n1_ n2_ n3_; clear hb hbox hg) | ((with_reducible refine gate_dst (N := 3) rfl ?_); (try (refine gate_guard (by rfl) ?_; dsimp only)); refine box_event ?hg (N := 3) ?hd (cs := #[.int .i64 a1_0, .slice A1_1 l1_1.length c1_1]) (t := 24) ?hr ?_; (case hd => rfl); (case hg => rfl); (case hr => first | (go_simp; done) | (go_simp; rfl)); intro gb219 hg w5 hbox hb; have n0_ := Aside0.mk (blk_below (g := gb218) (o := .cells #[.int .i64 a0_0, .slice A0_1 l0_1.length c0_1] 24 (0, 0)) (by (with_reducible repeat (first | refine blk_drewN ?_ _ | refine blk_drew ?_ | refine blk_alloc ?_ _)); exact BK218.out) hb); have n1_ := Aside0.mk (below_step (by repeat (first | (with_reducible first | exact HB.out | apply below_alloc | apply pw_below_drewN | apply below_drew1 | refine below_set ?_ GE218.out) | exact HB.out)) hb); have n2_ := Aside0.mk (hbox); have n3_ := Aside0.mk ((by rw [hg]; exact (below_size (by repeat (first | (with_reducible first | exact HB.out | apply below_alloc | apply pw_below_drewN | apply below_drew1 | refine below_set ?_ GE218.out) | exact HB.out))) : w.heap.size ≤ gb219)); have n4_ := Aside0.mk ((by rw [hg]; exact (below_size (by repeat (first | (with_reducible first | exact HB.out | apply below_alloc | apply pw_below_drewN | apply below_drew1 | refine below_set ?_ GE218.out) | exact HB.out))) : w.heap.size ≤ gb219)); have n5_ := Aside0.mk ((by rw [hg]; exact Nat.ne_of_lt (blk_lt (g := gb218) (o := .cells #[.int .i64 a0_0, .slice A0_1 l0_1.length c0_1] 24 (0, 0)) (by (with_reducible repeat (first | refine blk_drewN ?_ _ | refine blk_drew ?_ | refine blk_alloc ?_ _)); exact BK218.out)) : gb218 ≠ gb219)); have n6_ := Aside0.mk ((by rw [hg]; exact Nat.ne_of_gt (blk_lt (g := gb218) (o := .cells #[.int .i64 a0_0, .slice A0_1 l0_1.length c0_1] 24 (0, 0)) (by (with_reducible repeat (first | refine blk_drewN ?_ _ | refine blk_drew ?_ | refine blk_alloc ?_ _)); exact BK218.out)) : gb219 ≠ gb218)); clear BK218; clear HB; have BK218 := n0_; have HB := n1_; have BK219 := n2_; have GW219 := n3_; have GE219 := n4_; have NB218_219 := n5_; have NB219_218 := n6_; clear n0_ n1_ n2_ n3_ n4_ n5_ n6_; clear hb hbox hg))
 (try simp only [Act.put, List.setIfInBounds_toArray, List.set_cons_zero, List.set_cons_succ])
 go_cut [24] (fun v24 wc => ∃ (kq : Nat) (x24_2 : Bool), v24 = .bool x24_2 ∧ Aside0 (taskmasterlaw7_ShowUnlike.j0 kq x24_2 a0_0 l0_1 a1_0 l1_1 = some r) ∧ Aside0 (kq ≤ k) ∧ Aside0 (wc.heap[gb218]? = some (.cells #[.int .i64 a0_0, (.slice A0_1 l0_1.length c0_1)] 24 (0, 0))) ∧ Aside0 (wc.heap[gb219]? = some (.cells #[.int .i64 a1_0, (.slice A1_1 l1_1.length c1_1)] 24 (0, 0))) ∧ Aside0 (Below w.heap.size w wc))
 case first =>
  have H := HC3.out
  clear HC3
  by_cases c6 : (l0_1.length : Int) > 10
  ·rw [if_pos c6] at H
   have c6b0 : decide (10 < (l0_1.length : Int)) = true := decide_eq_true c6
   have c6b1 : decide (10 < l0_1.length) = true := decide_eq_true (by omega)
   clear c6
   (first | rw [c6b0] | (simp only [i64_w, i32_w]; rw [c6b0]) | skip)
   have H' := Aside0.mk H
   clear H
   have hnb7 := NB218_219.out
   have hnc7 := NB219_218.out
   have hcz8_0 : w5.cell? ⟨gb218, 0, none⟩ = some (.int .i64 a0_0) := (blk_cell BK218.out 0).trans rfl
   have hcz8_1 : w5.cell? ⟨gb218, 1, none⟩ = some (.slice A0_1 l0_1.length c0_1) := (blk_cell BK218.out 1).trans rfl
   have hfz8_0 := blk_frozen BK218.out 0
   have hfz8_1 := blk_frozen BK218.out 1
   go_wp2
   go_meet
   case rel => exact ⟨_, (true), (by first | rfl | (simp; done) | (simp [*]; done)), H', ⟨by first | omega | exact Nat.le_refl _⟩, ⟨by (with_reducible repeat (first | refine blk_drewN ?_ _ | refine blk_drew ?_ | refine blk_alloc ?_ _)); exact BK218.out⟩, ⟨by (with_reducible repeat (first | refine blk_drewN ?_ _ | refine blk_drew ?_ | refine blk_alloc ?_ _)); exact BK219.out⟩, ⟨by repeat (first | (with_reducible first | exact HB.out | apply below_alloc | apply pw_below_drewN | apply below_drew1 | refine below_set ?_ GE218.out | refine below_set ?_ GE219.out) | exact HB.out)⟩⟩
  ·rw [if_neg c6] at H
   have c6b0 : decide (10 < (l0_1.length : Int)) = false := decide_eq_false c6
   have c6b1 : decide (10 < l0_1.length) = false := decide_eq_false (by omega)
   clear c6
   (first | rw [c6b0] | (simp only [i64_w, i32_w]; rw [c6b0]) | skip)
   by_cases c9 : (l1_1.length : Int) > 10
   ·rw [if_pos c9] at H
    have c9b0 : decide (10 < (l1_1.length : Int)) = true := decide_eq_true c9
    have c9b1 : decide (10 < l1_1.length) = true := decide_eq_true (by omega)
    clear c9
    have H' := Aside0.mk H
    clear H
    have hnb10 := NB218_219.out
    have hnc10 := NB219_218.out
    have hcz11_0 : w5.cell? ⟨gb218, 0, none⟩ = some (.int .i64 a0_0) := (blk_cell BK218.out 0).trans rfl
    have hcz11_1 : w5.cell? ⟨gb218, 1, none⟩ = some (.slice A0_1 l0_1.length c0_1) := (blk_cell BK218.out 1).trans rfl
    have hfz11_0 := blk_frozen BK218.out 0
    have hfz11_1 := blk_frozen BK218.out 1
    have hcz12_0 : w5.cell? ⟨gb219, 0, none⟩ = some (.int .i64 a1_0) := (blk_cell BK219.out 0).trans rfl
    have hcz12_1 : w5.cell? ⟨gb219, 1, none⟩ = some (.slice A1_1 l1_1.length c1_1) := (blk_cell BK219.out 1).trans rfl
    have hfz12_0 := blk_frozen BK219.out 0
    have hfz12_1 := blk_frozen BK219.out 1
    go_wp2
    go_meet
    case rel => exact ⟨_, (true), (by first | rfl | (simp; done) | (simp [*]; done)), H', ⟨by first | omega | exact Nat.le_refl _⟩, ⟨by (with_reducible repeat (first | refine blk_drewN ?_ _ | refine blk_drew ?_ | refine blk_alloc ?_ _)); exact BK218.out⟩, ⟨by (with_reducible repeat (first | refine blk_drewN ?_ _ | refine blk_drew ?_ | refine blk_alloc ?_ _)); exact BK219.out⟩, ⟨by repeat (first | (with_reducible first | exact HB.out | apply below_alloc | apply pw_below_drewN | apply below_drew1 | refine below_set ?_ GE218.out | refine below_set ?_ GE219.out) | exact HB.out)⟩⟩
   ·rw [if_neg c9] at H
    have c9b0 : decide (10 < (l1_1.length : Int)) = false := decide_eq_false c9
    have c9b1 : decide (10 < l1_1.length) = false := decide_eq_false (by omega)
    clear c9
    replace H := Option.bind_eq_some_iff.mp H
    obtain ⟨t220, A130, H⟩ := H
    replace H : (if t220 = true then ((taskmasterref5_All.f k a1_0 l1_1).bind fun t221 => (taskmasterlaw7_ShowUnlike.j0 k (!t221) a0_0 l0_1 a1_0 l1_1)) else (taskmasterlaw7_ShowUnlike.j0 k true a0_0 l0_1 a1_0 l1_1)) = some r := H
    have A13 := Aside0.mk A130
    clear A130
    by_cases c14 : t220 = true
    ·subst c14
     have H1 : ((taskmasterref5_All.f k a1_0 l1_1).bind fun t221 => (taskmasterlaw7_ShowUnlike.j0 k (!t221) a0_0 l0_1 a1_0 l1_1)) = some r := by rw [if_pos rfl] at H; exact H
     clear H
     have H := H1
     clear H1
     replace H := Option.bind_eq_some_iff.mp H
     obtain ⟨t221, A150, H⟩ := H
     replace H : (taskmasterlaw7_ShowUnlike.j0 k (!t221) a0_0 l0_1 a1_0 l1_1) = some r := H
     have A15 := Aside0.mk A150
     clear A150
     have H' := Aside0.mk H
     clear H
     have hnb16 := NB218_219.out
     have hnc16 := NB219_218.out
     have hcz17_0 : w5.cell? ⟨gb218, 0, none⟩ = some (.int .i64 a0_0) := (blk_cell BK218.out 0).trans rfl
     have hcz17_1 : w5.cell? ⟨gb218, 1, none⟩ = some (.slice A0_1 l0_1.length c0_1) := (blk_cell BK218.out 1).trans rfl
     have hfz17_0 := blk_frozen BK218.out 0
     have hfz17_1 := blk_frozen BK218.out 1
     have hcz18_0 : w5.cell? ⟨gb219, 0, none⟩ = some (.int .i64 a1_0) := (blk_cell BK219.out 0).trans rfl
     have hcz18_1 : w5.cell? ⟨gb219, 1, none⟩ = some (.slice A1_1 l1_1.length c1_1) := (blk_cell BK219.out 1).trans rfl
     have hfz18_0 := blk_frozen BK219.out 0
     have hfz18_1 := blk_frozen BK219.out 1
     go_wp2_with (first | (go_at_call 10; (with_reducible refine (taskmasterref5_All.calls k a0_0 _ _ l0_1 true _ ?side1 ?side2 A13.out).mono ?_); (case side1 => repeat (first | exact (Kd.C_below HR0_1.out HB.out) | (with_reducible refine Kd.C_alloc ?_ _) | (with_reducible refine Kd.C_drewN ?_ _) | (with_reducible refine Kd.C_drew ?_))); (case side2 => exact HC0_1.out); rintro e w19 ⟨rfl, hb⟩; have n0_ := Aside0.mk (blk_below (g := gb218) (o := .cells #[.int .i64 a0_0, .slice A0_1 l0_1.length c0_1] 24 (0, 0)) (by (with_reducible repeat (first | refine blk_drewN ?_ _ | refine blk_drew ?_ | refine blk_alloc ?_ _)); exact BK218.out) hb); have n1_ := Aside0.mk (blk_below (g := gb219) (o := .cells #[.int .i64 a1_0, .slice A1_1 l1_1.length c1_1] 24 (0, 0)) (by (with_reducible repeat (first | refine blk_drewN ?_ _ | refine blk_drew ?_ | refine blk_alloc ?_ _)); exact BK219.out) hb); have n2_ := Aside0.mk (below_step (by repeat (first | (with_reducible first | exact HB.out | apply below_alloc | apply pw_below_drewN | apply below_drew1 | refine below_set ?_ GE218.out | refine below_set ?_ GE219.out) | exact HB.out)) hb); clear BK218; clear BK219; clear HB; have BK218 := n0_; have BK219 := n1_; have HB := n2_; clear n0_ n1_ n2_; (try clear hb); (try clear hb2); (try clear hk); (try clear hi); have hcz20_0 : w19.cell? ⟨gb219, 0, none⟩ = some (.int .i64 a1_0) := (blk_cell BK219.out 0).trans rfl; have hcz20_1 : w19.cell? ⟨gb219, 1, none⟩ = some (.slice A1_1 l1_1.length c1_1) := (blk_cell BK219.out 1).trans rfl; have hfz20_0 := blk_frozen BK219.out 0; have hfz20_1 := blk_frozen BK219.out 1) | (go_at_call 10; (with_reducible refine (taskmasterref5_All.calls k a1_0 _ _ l1_1 t221 _ ?side1 ?side2 A15.out).mono ?_); (case side1 => repeat (first | exact (Kd.C_below HR1_1.out HB.out) | (with_reducible refine Kd.C_alloc ?_ _) | (with_reducible refine Kd.C_drewN ?_ _) | (with_reducible refine Kd.C_drew ?_))); (case side2 => exact HC1_1.out); rintro e w21 ⟨rfl, hb⟩; have n0_ := Aside0.mk (blk_below (g := gb218) (o := .cells #[.int .i64 a0_0, .slice A0_1 l0_1.length c0_1] 24 (0, 0)) (by (with_reducible repeat (first | refine blk_drewN ?_ _ | refine blk_drew ?_ | refine blk_alloc ?_ _)); exact BK218.out) hb); have n1_ := Aside0.mk (blk_below (g := gb219) (o := .cells #[.int .i64 a1_0, .slice A1_1 l1_1.length c1_1] 24 (0, 0)) (by (with_reducible repeat (first | refine blk_drewN ?_ _ | refine blk_drew ?_ | refine blk_alloc ?_ _)); exact BK219.out) hb); have n2_ := Aside0.mk (below_step (by repeat (first | (with_reducible first | exact HB.out | apply below_alloc | apply pw_below_drewN | apply below_drew1 | refine below_set ?_ GE218.out | refine below_set ?_ GE219.out) | exact HB.out)) hb); clear BK218; clear BK219; clear HB; have BK218 := n0_; have BK219 := n1_; have HB := n2_; clear n0_ n1_ n2_; (try clear hb); (try clear hb2); (try clear hk); (try clear hi)))
     go_meet
     case rel => exact ⟨_, (!t221), (by first | rfl | (simp; done) | (simp [*]; done)), H', ⟨by first | omega | exact Nat.le_refl _⟩, ⟨by (with_reducible repeat (first | refine blk_drewN ?_ _ | refine blk_drew ?_ | refine blk_alloc ?_ _)); exact BK218.out⟩, ⟨by (with_reducible repeat (first | refine blk_drewN ?_ _ | refine blk_drew ?_ | refine blk_alloc ?_ _)); exact BK219.out⟩, ⟨by repeat (first | (with_reducible first | exact HB.out | apply below_alloc | apply pw_below_drewN | apply below_drew1 | refine below_set ?_ GE218.out | refine below_set ?_ GE219.out) | exact HB.out)⟩⟩
    ·replace c14 := Bool.eq_false_iff.mpr c14
     subst c14
     have H1 : (taskmasterlaw7_ShowUnlike.j0 k true a0_0 l0_1 a1_0 l1_1) = some r := by rw [if_neg (show ¬ (false = true) by decide)] at H; exact H
     clear H
     have H := H1
     clear H1
     have H' := Aside0.mk H
     clear H
     have hnb22 := NB218_219.out
     have hnc22 := NB219_218.out
     have hcz23_0 : w5.cell? ⟨gb218, 0, none⟩ = some (.int .i64 a0_0) := (blk_cell BK218.out 0).trans rfl
     have hcz23_1 : w5.cell? ⟨gb218, 1, none⟩ = some (.slice A0_1 l0_1.length c0_1) := (blk_cell BK218.out 1).trans rfl
     have hfz23_0 := blk_frozen BK218.out 0
     have hfz23_1 := blk_frozen BK218.out 1
     have hcz24_0 : w5.cell? ⟨gb219, 0, none⟩ = some (.int .i64 a1_0) := (blk_cell BK219.out 0).trans rfl
     have hcz24_1 : w5.cell? ⟨gb219, 1, none⟩ = some (.slice A1_1 l1_1.length c1_1) := (blk_cell BK219.out 1).trans rfl
     have hfz24_0 := blk_frozen BK219.out 0
     have hfz24_1 := blk_frozen BK219.out 1
     go_wp2_with (first | (go_at_call 10; (with_reducible refine (taskmasterref5_All.calls k a0_0 _ _ l0_1 false _ ?side1 ?side2 A13.out).mono ?_); (case side1 => repeat (first | exact (Kd.C_below HR0_1.out HB.out) | (with_reducible refine Kd.C_alloc ?_ _) | (with_reducible refine Kd.C_drewN ?_ _) | (with_reducible refine Kd.C_drew ?_))); (case side2 => exact HC0_1.out); rintro e w25 ⟨rfl, hb⟩; have n0_ := Aside0.mk (blk_below (g := gb218) (o := .cells #[.int .i64 a0_0, .slice A0_1 l0_1.length c0_1] 24 (0, 0)) (by (with_reducible repeat (first | refine blk_drewN ?_ _ | refine blk_drew ?_ | refine blk_alloc ?_ _)); exact BK218.out) hb); have n1_ := Aside0.mk (blk_below (g := gb219) (o := .cells #[.int .i64 a1_0, .slice A1_1 l1_1.length c1_1] 24 (0, 0)) (by (with_reducible repeat (first | refine blk_drewN ?_ _ | refine blk_drew ?_ | refine blk_alloc ?_ _)); exact BK219.out) hb); have n2_ := Aside0.mk (below_step (by repeat (first | (with_reducible first | exact HB.out | apply below_alloc | apply pw_below_drewN | apply below_drew1 | refine below_set ?_ GE218.out | refine below_set ?_ GE219.out) | exact HB.out)) hb); clear BK218; clear BK219; clear HB; have BK218 := n0_; have BK219 := n1_; have HB := n2_; clear n0_ n1_ n2_; (try clear hb); (try clear hb2); (try clear hk); (try clear hi)))
     go_meet
     case rel => exact ⟨_, (true), (by first | rfl | (simp; done) | (simp [*]; done)), H', ⟨by first | omega | exact Nat.le_refl _⟩, ⟨by (with_reducible repeat (first | refine blk_drewN ?_ _ | refine blk_drew ?_ | refine blk_alloc ?_ _)); exact BK218.out⟩, ⟨by (with_reducible repeat (first | refine blk_drewN ?_ _ | refine blk_drew ?_ | refine blk_alloc ?_ _)); exact BK219.out⟩, ⟨by repeat (first | (with_reducible first | exact HB.out | apply below_alloc | apply pw_below_drewN | apply below_drew1 | refine below_set ?_ GE218.out | refine below_set ?_ GE219.out) | exact HB.out)⟩⟩
 case rest =>
  clear HC3
  try clear c1
  try clear c2
  try clear p2
  try clear c5
  try clear c6
  try clear c6b0
  try clear c6b1
  try clear c7
  try clear c9
  try clear c9b0
  try clear c9b1
  try clear c10
  try clear c14
  try clear c16
  try clear c22
  try clear hcz11_0
  try clear hcz11_1
  try clear hcz12_0
  try clear hcz12_1
  try clear hcz17_0
  try clear hcz17_1
  try clear hcz18_0
  try clear hcz18_1
  try clear hcz20_0
  try clear hcz20_1
  try clear hcz23_0
  try clear hcz23_1
  try clear hcz24_0
  try clear hcz24_1
  try clear hcz8_0
  try clear hcz8_1
  try clear hfz11_0
  try clear hfz11_1
  try clear hfz12_0
  try clear hfz12_1
  try clear hfz17_0
  try clear hfz17_1
  try clear hfz18_0
  try clear hfz18_1
  try clear hfz20_0
  try clear hfz20_1
  try clear hfz23_0
  try clear hfz23_1
  try clear hfz24_0
  try clear hfz24_1
  try clear hfz8_0
  try clear hfz8_1
  obtain ⟨kq, x24_2, rfl, HA, HJ2, BK218, BK219, HB⟩ := hcut
  cases kq with
  | zero => exact absurd HA.out (by simp [taskmasterlaw7_ShowUnlike.j0])
  | succ kj2 =>
   have H := HA.out
   clear HA
   simp only [taskmasterlaw7_ShowUnlike.j0] at H
   by_cases c26 : x24_2 = true
   ·subst c26
    have H1 : (some true) = some r := by rw [if_pos rfl] at H; exact H
    clear H
    have H := H1
    clear H1
    obtain rfl := Option.some.inj H
    go_wp2
    go_ret
    exact ⟨by first | rfl | (simp [errW_none, errW_some] <;> rfl) | (simp [*, errW_none, errW_some] <;> rfl), by repeat (first | (with_reducible first | exact HB.out | apply below_alloc | apply pw_below_drewN | apply below_drew1 | refine below_set ?_ GE218.out | refine below_set ?_ GE219.out) | exact HB.out)⟩
   ·replace c26 := Bool.eq_false_iff.mpr c26
    subst c26
    have H1 : ((show_Text.f kj2 a0_0 l0_1).bind fun t222 => ((show_Text.f kj2 a1_0 l1_1).bind fun t223 => ((taskmasterref5_Same.f kj2 a0_0 l0_1 a1_0 l1_1).bind fun t224 => (if ((t222.toList == t223.toList) == t224) = true then ((taskmasterlaw7_known.f kj2).bind fun t225 => (some t225)) else (some false))))) = some r := by rw [if_neg (show ¬ (false = true) by decide)] at H; exact H
    clear H
    have H := H1
    clear H1
    replace H := Option.bind_eq_some_iff.mp H
    obtain ⟨t222, A270, H⟩ := H
    replace H : ((show_Text.f kj2 a1_0 l1_1).bind fun t223 => ((taskmasterref5_Same.f kj2 a0_0 l0_1 a1_0 l1_1).bind fun t224 => (if ((t222.toList == t223.toList) == t224) = true then ((taskmasterlaw7_known.f kj2).bind fun t225 => (some t225)) else (some false)))) = some r := H
    have A27 := Aside0.mk A270
    clear A270
    replace H := Option.bind_eq_some_iff.mp H
    obtain ⟨t223, A280, H⟩ := H
    replace H : ((taskmasterref5_Same.f kj2 a0_0 l0_1 a1_0 l1_1).bind fun t224 => (if ((t222.toList == t223.toList) == t224) = true then ((taskmasterlaw7_known.f kj2).bind fun t225 => (some t225)) else (some false))) = some r := H
    have A28 := Aside0.mk A280
    clear A280
    replace H := Option.bind_eq_some_iff.mp H
    obtain ⟨t224, A290, H⟩ := H
    replace H : (if ((t222.toList == t223.toList) == t224) = true then ((taskmasterlaw7_known.f kj2).bind fun t225 => (some t225)) else (some false)) = some r := H
    have A29 := Aside0.mk A290
    clear A290
    by_cases c30 : ((t222.toList == t223.toList) == t224) = true
    ·rw [if_pos c30] at H
     have c30b0 : ((t222.toList == t223.toList) == t224) = true := c30
     (try (have c30b1 : decide ((t222.toList == t223.toList) = t224) = true := by simpa using c30))
     (try (have c30b2 : ((t222.toList == t223.toList) == t224) = true := by simpa using c30))
     clear c30
     replace H := Option.bind_eq_some_iff.mp H
     obtain ⟨t225, A310, H⟩ := H
     replace H : (some t225) = some r := H
     have A31 := Aside0.mk A310
     clear A310
     obtain rfl := Option.some.inj H
     try go_wp2
     have n0_ := Aside0.mk (blk_drew BK218.out)
     have n1_ := Aside0.mk (blk_drew BK219.out)
     have n2_ := Aside0.mk (below_drew1 HB.out)
     clear BK218
     clear BK219
     clear HB
     have BK218 := n0_
     have BK219 := n1_
     have HB := n2_
     clear n0_ n1_ n2_
     refine start_ (n := 13) (S := fun w' => w'.cell? ⟨gb218, 0, none⟩ = some (.int .i64 a0_0) ∧ w'.cell? ⟨gb218, 1, none⟩ = some (.slice A0_1 l0_1.length c0_1) ∧ w'.cell? ⟨gb219, 0, none⟩ = some (.int .i64 a1_0) ∧ w'.cell? ⟨gb219, 1, none⟩ = some (.slice A1_1 l1_1.length c1_1)) (ds := []) #[false, false, false, false, false, false, false, false, false, false, false, false, false] (by kernel_rfl) rfl rfl ⟨(blk_cell BK218.out 0).trans rfl, (blk_cell BK218.out 1).trans rfl, (blk_cell BK219.out 0).trans rfl, (blk_cell BK219.out 1).trans rfl⟩ (fun hHeld => ?_); refine with_tabW taskmasterlaw7_ShowUnlike.tab3 taskmasterlaw7_ShowUnlike.bits3 (fun HT_ HW_ => ?_)
     generalize wc.drew = w32 at BK218 BK219 HB hHeld ⊢
     refine take_ (i := 0) (N := some 25) (v := ?_) (a' := ?_) #[true, false, false, false, false, false, false, false, false, false, false, false, false] rfl rfl (take_ofW HT_.out HW_.out (by kernel_rfl)) (fun _ _ _ h => h) (Or.inl ⟨by rfl, ?_⟩) hHeld ?_ ?_
     rotate_left
     ·rintro w' ⟨s0, s1, s2, s3⟩
      go_simp
      with_reducible rfl
     rotate_left
     ·simp only [Act.put, List.setIfInBounds_toArray, List.set_cons_zero, List.set_cons_succ, i64_w, i32_w]
      rfl
     refine take_ (i := 2) (N := some 27) (v := ?_) (a' := ?_) #[true, false, true, false, false, false, false, false, false, false, false, false, false] rfl rfl (take_ofW HT_.out HW_.out (by kernel_rfl)) (fun _ _ _ h => h) (Or.inl ⟨by rfl, ?_⟩) hHeld ?_ ?_
     rotate_left
     ·rintro w' ⟨s0, s1, s2, s3⟩
      go_simp
      with_reducible rfl
     rotate_left
     ·simp only [Act.put, List.setIfInBounds_toArray, List.set_cons_zero, List.set_cons_succ, i64_w, i32_w]
      rfl
     refine take_ (i := 5) (N := some 30) (v := ?_) (a' := ?_) #[true, false, true, false, false, true, false, false, false, false, false, false, false] rfl rfl (take_ofW HT_.out HW_.out (by kernel_rfl)) (fun _ _ _ h => h) (Or.inl ⟨by rfl, ?_⟩) hHeld ?_ ?_
     rotate_left
     ·rintro w' ⟨s0, s1, s2, s3⟩
      go_simp
      with_reducible rfl
     rotate_left
     ·simp only [Act.put, List.setIfInBounds_toArray, List.set_cons_zero, List.set_cons_succ, i64_w, i32_w]
      rfl
     refine take_ (i := 6) (N := some 31) (v := ?_) (a' := ?_) #[true, false, true, false, false, true, true, false, false, false, false, false, false] rfl rfl (take_ofW HT_.out HW_.out (by kernel_rfl)) (fun _ _ _ h => h) (Or.inl ⟨by rfl, ?_⟩) hHeld ?_ ?_
     rotate_left
     ·rintro w' ⟨s0, s1, s2, s3⟩
      go_simp
      with_reducible rfl
     rotate_left
     ·simp only [Act.put, List.setIfInBounds_toArray, List.set_cons_zero, List.set_cons_succ, i64_w, i32_w]
      rfl
     refine one_ (i := 1) (N := some 26) #[true, true, true, false, false, true, true, false, false, false, false, false, false] rfl rfl (one_of HT_.out (by kernel_rfl)) (by decide) (fun K hK => ?_)
     refine goes_ Tryd.func13 (by kernel_rfl) rfl #[.agg #[.int .i64 a0_0, .slice A0_1 l0_1.length c0_1]] (by rfl) rfl rfl (by (try simp only [List.map_toArray, List.map_cons, List.map_nil]); first | done | rfl | (simp only [List.length_drop, List.length_take]; rfl)) ?_
     with_reducible refine (show_Text.calls (hT := ?sideT) kj2 a0_0 _ _ l0_1 t222 _ ?side1 ?side2 A27.out).mono ?_
     (case sideT => first | with_reducible exact HT.out | refine TabW.below HT.out ?_; repeat (first | (with_reducible first | exact HB.out | apply below_alloc | apply pw_below_drewN | apply below_drew1 | refine below_set ?_ GE218.out | refine below_set ?_ GE219.out) | exact HB.out | exact Below.refl _ _))
     (case side1 => repeat (first | exact (Kd.C_below HR0_1.out HB.out) | (with_reducible refine Kd.C_alloc ?_ _) | (with_reducible refine Kd.C_drewN ?_ _) | (with_reducible refine Kd.C_drew ?_)))
     (case side2 => exact HC0_1.out)
     rintro e w33 ⟨rfl, hb⟩
     refine ⟨_, rfl, ?_⟩
     have n0_ := Aside0.mk (blk_below (g := gb218) (o := .cells #[.int .i64 a0_0, .slice A0_1 l0_1.length c0_1] 24 (0, 0)) (by (with_reducible repeat (first | refine blk_drewN ?_ _ | refine blk_drew ?_ | refine blk_alloc ?_ _)); exact BK218.out) hb)
     have n1_ := Aside0.mk (blk_below (g := gb219) (o := .cells #[.int .i64 a1_0, .slice A1_1 l1_1.length c1_1] 24 (0, 0)) (by (with_reducible repeat (first | refine blk_drewN ?_ _ | refine blk_drew ?_ | refine blk_alloc ?_ _)); exact BK219.out) hb)
     have n2_ := Aside0.mk (below_step (by repeat (first | (with_reducible first | exact HB.out | apply below_alloc | apply pw_below_drewN | apply below_drew1 | refine below_set ?_ GE218.out | refine below_set ?_ GE219.out) | exact HB.out)) hb)
     clear BK218
     clear BK219
     clear HB
     have BK218 := n0_
     have BK219 := n1_
     have HB := n2_
     clear n0_ n1_ n2_
     (try clear hb)
     (try clear hb2)
     (try clear hk)
     (try clear hi)
     refine hK.out _ _ ⟨(blk_cell BK218.out 0).trans rfl, (blk_cell BK218.out 1).trans rfl, (blk_cell BK219.out 0).trans rfl, (blk_cell BK219.out 1).trans rfl⟩ (fun hHeld => ?_)
     clear hK K
     refine norm_ (a' := ?_) ?_ ?_
     rotate_left
     ·show Act.put _ (some 26) _ = _
      simp only [Act.put, List.setIfInBounds_toArray, List.set_cons_zero, List.set_cons_succ, i64_w, i32_w]
      rfl
     refine one_ (i := 3) (N := some 28) #[true, true, true, true, false, true, true, false, false, false, false, false, false] rfl rfl (one_of HT_.out (by kernel_rfl)) (by decide) (fun K hK => ?_)
     refine goes_ Tryd.func13 (by kernel_rfl) rfl #[.agg #[.int .i64 a1_0, .slice A1_1 l1_1.length c1_1]] (by rfl) rfl rfl (by (try simp only [List.map_toArray, List.map_cons, List.map_nil]); first | done | rfl | (simp only [List.length_drop, List.length_take]; rfl)) ?_
     with_reducible refine (show_Text.calls (hT := ?sideT) kj2 a1_0 _ _ l1_1 t223 _ ?side1 ?side2 A28.out).mono ?_
     (case sideT => first | with_reducible exact HT.out | refine TabW.below HT.out ?_; repeat (first | (with_reducible first | exact HB.out | apply below_alloc | apply pw_below_drewN | apply below_drew1 | refine below_set ?_ GE218.out | refine below_set ?_ GE219.out) | exact HB.out | exact Below.refl _ _))
     (case side1 => repeat (first | exact (Kd.C_below HR1_1.out HB.out) | (with_reducible refine Kd.C_alloc ?_ _) | (with_reducible refine Kd.C_drewN ?_ _) | (with_reducible refine Kd.C_drew ?_)))
     (case side2 => exact HC1_1.out)
     rintro e w34 ⟨rfl, hb⟩
     refine ⟨_, rfl, ?_⟩
     have n0_ := Aside0.mk (blk_below (g := gb218) (o := .cells #[.int .i64 a0_0, .slice A0_1 l0_1.length c0_1] 24 (0, 0)) (by (with_reducible repeat (first | refine blk_drewN ?_ _ | refine blk_drew ?_ | refine blk_alloc ?_ _)); exact BK218.out) hb)
     have n1_ := Aside0.mk (blk_below (g := gb219) (o := .cells #[.int .i64 a1_0, .slice A1_1 l1_1.length c1_1] 24 (0, 0)) (by (with_reducible repeat (first | refine blk_drewN ?_ _ | refine blk_drew ?_ | refine blk_alloc ?_ _)); exact BK219.out) hb)
     have n2_ := Aside0.mk (below_step (by repeat (first | (with_reducible first | exact HB.out | apply below_alloc | apply pw_below_drewN | apply below_drew1 | refine below_set ?_ GE218.out | refine below_set ?_ GE219.out) | exact HB.out)) hb)
     clear BK218
     clear BK219
     clear HB
     have BK218 := n0_
     have BK219 := n1_
     have HB := n2_
     clear n0_ n1_ n2_
     (try clear hb)
     (try clear hb2)
     (try clear hk)
     (try clear hi)
     refine hK.out _ _ ⟨(blk_cell BK218.out 0).trans rfl, (blk_cell BK218.out 1).trans rfl, (blk_cell BK219.out 0).trans rfl, (blk_cell BK219.out 1).trans rfl⟩ (fun hHeld => ?_)
     clear hK K
     refine norm_ (a' := ?_) ?_ ?_
     rotate_left
     ·show Act.put _ (some 28) _ = _
      simp only [Act.put, List.setIfInBounds_toArray, List.set_cons_zero, List.set_cons_succ, i64_w, i32_w]
      rfl
     refine pure_ (i := 4) (N := some 29) (v := ?_) (a' := ?_) #[true, true, true, true, true, true, true, false, false, false, false, false, false] rfl rfl (any_of HT_.out (by kernel_rfl)) (fun _ _ _ h => h) (Or.inl ⟨by rfl, ?_⟩) ?_ ?_
     rotate_left
     ·intro w'
      go_simp
      with_reducible rfl
     rotate_left
     ·simp only [Act.put, List.setIfInBounds_toArray, List.set_cons_zero, List.set_cons_succ, i64_w, i32_w]
      rfl
     refine one_ (i := 7) (N := some 32) #[true, true, true, true, true, true, true, true, false, false, false, false, false] rfl rfl (one_of HT_.out (by kernel_rfl)) (by decide) (fun K hK => ?_)
     refine goes_ Tryd.func17 (by kernel_rfl) rfl #[.agg #[.int .i64 a0_0, .slice A0_1 l0_1.length c0_1], .agg #[.int .i64 a1_0, .slice A1_1 l1_1.length c1_1]] (by rfl) rfl rfl (by (try simp only [List.map_toArray, List.map_cons, List.map_nil]); first | done | rfl | (simp only [List.length_drop, List.length_take]; rfl)) ?_
     with_reducible refine (taskmasterref5_Same.calls kj2 a0_0 _ _ l0_1 a1_0 _ _ l1_1 t224 _ ?side1 ?side2 ?side3 ?side4 A29.out).mono ?_
     (case side1 => repeat (first | exact (Kd.C_below HR0_1.out HB.out) | (with_reducible refine Kd.C_alloc ?_ _) | (with_reducible refine Kd.C_drewN ?_ _) | (with_reducible refine Kd.C_drew ?_)))
     (case side2 => exact HC0_1.out)
     (case side3 => repeat (first | exact (Kd.C_below HR1_1.out HB.out) | (with_reducible refine Kd.C_alloc ?_ _) | (with_reducible refine Kd.C_drewN ?_ _) | (with_reducible refine Kd.C_drew ?_)))
     (case side4 => exact HC1_1.out)
     rintro e w35 ⟨rfl, hb⟩
     refine ⟨_, rfl, ?_⟩
     have n0_ := Aside0.mk (blk_below (g := gb218) (o := .cells #[.int .i64 a0_0, .slice A0_1 l0_1.length c0_1] 24 (0, 0)) (by (with_reducible repeat (first | refine blk_drewN ?_ _ | refine blk_drew ?_ | refine blk_alloc ?_ _)); exact BK218.out) hb)
     have n1_ := Aside0.mk (blk_below (g := gb219) (o := .cells #[.int .i64 a1_0, .slice A1_1 l1_1.length c1_1] 24 (0, 0)) (by (with_reducible repeat (first | refine blk_drewN ?_ _ | refine blk_drew ?_ | refine blk_alloc ?_ _)); exact BK219.out) hb)
     have n2_ := Aside0.mk (below_step (by repeat (first | (with_reducible first | exact HB.out | apply below_alloc | apply pw_below_drewN | apply below_drew1 | refine below_set ?_ GE218.out | refine below_set ?_ GE219.out) | exact HB.out)) hb)
     clear BK218
     clear BK219
     clear HB
     have BK218 := n0_
     have BK219 := n1_
     have HB := n2_
     clear n0_ n1_ n2_
     (try clear hb)
     (try clear hb2)
     (try clear hk)
     (try clear hi)
     refine hK.out _ _ ⟨(blk_cell BK218.out 0).trans rfl, (blk_cell BK218.out 1).trans rfl, (blk_cell BK219.out 0).trans rfl, (blk_cell BK219.out 1).trans rfl⟩ (fun hHeld => ?_)
     clear hK K
     refine norm_ (a' := ?_) ?_ ?_
     rotate_left
     ·show Act.put _ (some 32) _ = _
      simp only [Act.put, List.setIfInBounds_toArray, List.set_cons_zero, List.set_cons_succ, i64_w, i32_w]
      rfl
     refine pure_ (i := 8) (N := some 33) (v := ?_) (a' := ?_) #[true, true, true, true, true, true, true, true, true, false, false, false, false] rfl rfl (any_of HT_.out (by kernel_rfl)) (fun _ _ _ h => h) (Or.inl ⟨by rfl, ?_⟩) ?_ ?_
     rotate_left
     ·intro w'
      go_simp
      with_reducible rfl
     rotate_left
     ·simp only [Act.put, List.setIfInBounds_toArray, List.set_cons_zero, List.set_cons_succ, i64_w, i32_w]
      rfl
     refine pure_ (i := 9) (N := some 34) (v := ?_) (a' := ?_) #[true, true, true, true, true, true, true, true, true, true, false, false, false] rfl rfl (any_of HT_.out (by kernel_rfl)) (fun _ _ _ h => h) (Or.inl ⟨by rfl, ?_⟩) ?_ ?_
     rotate_left
     ·intro w'
      go_simp
      with_reducible rfl
     rotate_left
     ·simp only [Act.put, List.setIfInBounds_toArray, List.set_cons_zero, List.set_cons_succ, i64_w, i32_w]
      rfl
     refine one_ (i := 10) (N := some 35) #[true, true, true, true, true, true, true, true, true, true, true, false, false] rfl rfl (one_of HT_.out (by kernel_rfl)) (by decide) (fun K hK => ?_)
     refine goes_ Tryd.func15 (by kernel_rfl) rfl #[] (by rfl) rfl rfl (by (try simp only [List.map_toArray, List.map_cons, List.map_nil]); first | done | rfl | (simp only [List.length_drop, List.length_take]; rfl)) ?_
     with_reducible refine (taskmasterlaw7_known.calls (hT := ?sideT) kj2  t225 _ A31.out).mono ?_
     (case sideT => first | with_reducible exact HT.out | refine TabW.below HT.out ?_; repeat (first | (with_reducible first | exact HB.out | apply below_alloc | apply pw_below_drewN | apply below_drew1 | refine below_set ?_ GE218.out | refine below_set ?_ GE219.out) | exact HB.out | exact Below.refl _ _))
     rintro e w36 ⟨rfl, hb⟩
     refine ⟨_, rfl, ?_⟩
     have n0_ := Aside0.mk (blk_below (g := gb218) (o := .cells #[.int .i64 a0_0, .slice A0_1 l0_1.length c0_1] 24 (0, 0)) (by (with_reducible repeat (first | refine blk_drewN ?_ _ | refine blk_drew ?_ | refine blk_alloc ?_ _)); exact BK218.out) hb)
     have n1_ := Aside0.mk (blk_below (g := gb219) (o := .cells #[.int .i64 a1_0, .slice A1_1 l1_1.length c1_1] 24 (0, 0)) (by (with_reducible repeat (first | refine blk_drewN ?_ _ | refine blk_drew ?_ | refine blk_alloc ?_ _)); exact BK219.out) hb)
     have n2_ := Aside0.mk (below_step (by repeat (first | (with_reducible first | exact HB.out | apply below_alloc | apply pw_below_drewN | apply below_drew1 | refine below_set ?_ GE218.out | refine below_set ?_ GE219.out) | exact HB.out)) hb)
     clear BK218
     clear BK219
     clear HB
     have BK218 := n0_
     have BK219 := n1_
     have HB := n2_
     clear n0_ n1_ n2_
     (try clear hb)
     (try clear hb2)
     (try clear hk)
     (try clear hi)
     refine hK.out _ _ ⟨(blk_cell BK218.out 0).trans rfl, (blk_cell BK218.out 1).trans rfl, (blk_cell BK219.out 0).trans rfl, (blk_cell BK219.out 1).trans rfl⟩ (fun hHeld => ?_)
     clear hK K
     refine norm_ (a' := ?_) ?_ ?_
     rotate_left
     ·show Act.put _ (some 35) _ = _
      simp only [Act.put, List.setIfInBounds_toArray, List.set_cons_zero, List.set_cons_succ, i64_w, i32_w]
      rfl
     refine pure_ (i := 11) (N := some 36) (v := ?_) (a' := ?_) #[true, true, true, true, true, true, true, true, true, true, true, true, false] rfl rfl (any_of HT_.out (by kernel_rfl)) (fun _ _ _ h => h) (Or.inl ⟨by rfl, ?_⟩) ?_ ?_
     rotate_left
     ·intro w'
      go_simp
      with_reducible rfl
     rotate_left
     ·simp only [Act.put, List.setIfInBounds_toArray, List.set_cons_zero, List.set_cons_succ, i64_w, i32_w]
      rfl
     refine pure_ (i := 12) (N := some 4) (v := ?_) (a' := ?_) #[true, true, true, true, true, true, true, true, true, true, true, true, true] rfl rfl (any_of HT_.out (by kernel_rfl)) (fun _ _ _ h => h) (Or.inl ⟨by rfl, ?_⟩) ?_ ?_
     rotate_left
     ·intro w'
      go_simp
      with_reducible rfl
     rotate_left
     ·simp only [Act.put, List.setIfInBounds_toArray, List.set_cons_zero, List.set_cons_succ, i64_w, i32_w]
      rfl
     refine done_ (done_of HT_.out (by kernel_rfl)) ?_
     try go_wp2
     go_ret
     exact ⟨by first | rfl | (simp [errW_none, errW_some] <;> rfl) | (simp [*, errW_none, errW_some] <;> rfl), by repeat (first | (with_reducible first | exact HB.out | apply below_alloc | apply pw_below_drewN | apply below_drew1 | refine below_set ?_ GE218.out | refine below_set ?_ GE219.out) | exact HB.out)⟩
    ·rw [if_neg c30] at H
     have c30b0 : ((t222.toList == t223.toList) == t224) = false := by simpa using c30
     (try (have c30b1 : decide ((t222.toList == t223.toList) = t224) = false := by simpa using c30))
     (try (have c30b2 : ((t222.toList == t223.toList) == t224) = false := by simpa using c30))
     (try (have c30b3 : ¬ ((t222.toList == t223.toList) = t224) := by simpa using c30))
     clear c30
     obtain rfl := Option.some.inj H
     try go_wp2
     have n0_ := Aside0.mk (blk_drew BK218.out)
     have n1_ := Aside0.mk (blk_drew BK219.out)
     have n2_ := Aside0.mk (below_drew1 HB.out)
     clear BK218
     clear BK219
     clear HB
     have BK218 := n0_
     have BK219 := n1_
     have HB := n2_
     clear n0_ n1_ n2_
     refine start_ (n := 13) (S := fun w' => w'.cell? ⟨gb218, 0, none⟩ = some (.int .i64 a0_0) ∧ w'.cell? ⟨gb218, 1, none⟩ = some (.slice A0_1 l0_1.length c0_1) ∧ w'.cell? ⟨gb219, 0, none⟩ = some (.int .i64 a1_0) ∧ w'.cell? ⟨gb219, 1, none⟩ = some (.slice A1_1 l1_1.length c1_1)) (ds := []) #[false, false, false, false, false, false, false, false, false, false, false, false, false] (by kernel_rfl) rfl rfl ⟨(blk_cell BK218.out 0).trans rfl, (blk_cell BK218.out 1).trans rfl, (blk_cell BK219.out 0).trans rfl, (blk_cell BK219.out 1).trans rfl⟩ (fun hHeld => ?_); refine with_tabW taskmasterlaw7_ShowUnlike.tab3 taskmasterlaw7_ShowUnlike.bits3 (fun HT_ HW_ => ?_)
     generalize wc.drew = w37 at BK218 BK219 HB hHeld ⊢
     refine take_ (i := 0) (N := some 25) (v := ?_) (a' := ?_) #[true, false, false, false, false, false, false, false, false, false, false, false, false] rfl rfl (take_ofW HT_.out HW_.out (by kernel_rfl)) (fun _ _ _ h => h) (Or.inl ⟨by rfl, ?_⟩) hHeld ?_ ?_
     rotate_left
     ·rintro w' ⟨s0, s1, s2, s3⟩
      go_simp
      with_reducible rfl
     rotate_left
     ·simp only [Act.put, List.setIfInBounds_toArray, List.set_cons_zero, List.set_cons_succ, i64_w, i32_w]
      rfl
     refine take_ (i := 2) (N := some 27) (v := ?_) (a' := ?_) #[true, false, true, false, false, false, false, false, false, false, false, false, false] rfl rfl (take_ofW HT_.out HW_.out (by kernel_rfl)) (fun _ _ _ h => h) (Or.inl ⟨by rfl, ?_⟩) hHeld ?_ ?_
     rotate_left
     ·rintro w' ⟨s0, s1, s2, s3⟩
      go_simp
      with_reducible rfl
     rotate_left
     ·simp only [Act.put, List.setIfInBounds_toArray, List.set_cons_zero, List.set_cons_succ, i64_w, i32_w]
      rfl
     refine take_ (i := 5) (N := some 30) (v := ?_) (a' := ?_) #[true, false, true, false, false, true, false, false, false, false, false, false, false] rfl rfl (take_ofW HT_.out HW_.out (by kernel_rfl)) (fun _ _ _ h => h) (Or.inl ⟨by rfl, ?_⟩) hHeld ?_ ?_
     rotate_left
     ·rintro w' ⟨s0, s1, s2, s3⟩
      go_simp
      with_reducible rfl
     rotate_left
     ·simp only [Act.put, List.setIfInBounds_toArray, List.set_cons_zero, List.set_cons_succ, i64_w, i32_w]
      rfl
     refine take_ (i := 6) (N := some 31) (v := ?_) (a' := ?_) #[true, false, true, false, false, true, true, false, false, false, false, false, false] rfl rfl (take_ofW HT_.out HW_.out (by kernel_rfl)) (fun _ _ _ h => h) (Or.inl ⟨by rfl, ?_⟩) hHeld ?_ ?_
     rotate_left
     ·rintro w' ⟨s0, s1, s2, s3⟩
      go_simp
      with_reducible rfl
     rotate_left
     ·simp only [Act.put, List.setIfInBounds_toArray, List.set_cons_zero, List.set_cons_succ, i64_w, i32_w]
      rfl
     refine one_ (i := 1) (N := some 26) #[true, true, true, false, false, true, true, false, false, false, false, false, false] rfl rfl (one_of HT_.out (by kernel_rfl)) (by decide) (fun K hK => ?_)
     refine goes_ Tryd.func13 (by kernel_rfl) rfl #[.agg #[.int .i64 a0_0, .slice A0_1 l0_1.length c0_1]] (by rfl) rfl rfl (by (try simp only [List.map_toArray, List.map_cons, List.map_nil]); first | done | rfl | (simp only [List.length_drop, List.length_take]; rfl)) ?_
     with_reducible refine (show_Text.calls (hT := ?sideT) kj2 a0_0 _ _ l0_1 t222 _ ?side1 ?side2 A27.out).mono ?_
     (case sideT => first | with_reducible exact HT.out | refine TabW.below HT.out ?_; repeat (first | (with_reducible first | exact HB.out | apply below_alloc | apply pw_below_drewN | apply below_drew1 | refine below_set ?_ GE218.out | refine below_set ?_ GE219.out) | exact HB.out | exact Below.refl _ _))
     (case side1 => repeat (first | exact (Kd.C_below HR0_1.out HB.out) | (with_reducible refine Kd.C_alloc ?_ _) | (with_reducible refine Kd.C_drewN ?_ _) | (with_reducible refine Kd.C_drew ?_)))
     (case side2 => exact HC0_1.out)
     rintro e w38 ⟨rfl, hb⟩
     refine ⟨_, rfl, ?_⟩
     have n0_ := Aside0.mk (blk_below (g := gb218) (o := .cells #[.int .i64 a0_0, .slice A0_1 l0_1.length c0_1] 24 (0, 0)) (by (with_reducible repeat (first | refine blk_drewN ?_ _ | refine blk_drew ?_ | refine blk_alloc ?_ _)); exact BK218.out) hb)
     have n1_ := Aside0.mk (blk_below (g := gb219) (o := .cells #[.int .i64 a1_0, .slice A1_1 l1_1.length c1_1] 24 (0, 0)) (by (with_reducible repeat (first | refine blk_drewN ?_ _ | refine blk_drew ?_ | refine blk_alloc ?_ _)); exact BK219.out) hb)
     have n2_ := Aside0.mk (below_step (by repeat (first | (with_reducible first | exact HB.out | apply below_alloc | apply pw_below_drewN | apply below_drew1 | refine below_set ?_ GE218.out | refine below_set ?_ GE219.out) | exact HB.out)) hb)
     clear BK218
     clear BK219
     clear HB
     have BK218 := n0_
     have BK219 := n1_
     have HB := n2_
     clear n0_ n1_ n2_
     (try clear hb)
     (try clear hb2)
     (try clear hk)
     (try clear hi)
     refine hK.out _ _ ⟨(blk_cell BK218.out 0).trans rfl, (blk_cell BK218.out 1).trans rfl, (blk_cell BK219.out 0).trans rfl, (blk_cell BK219.out 1).trans rfl⟩ (fun hHeld => ?_)
     clear hK K
     refine norm_ (a' := ?_) ?_ ?_
     rotate_left
     ·show Act.put _ (some 26) _ = _
      simp only [Act.put, List.setIfInBounds_toArray, List.set_cons_zero, List.set_cons_succ, i64_w, i32_w]
      rfl
     refine one_ (i := 3) (N := some 28) #[true, true, true, true, false, true, true, false, false, false, false, false, false] rfl rfl (one_of HT_.out (by kernel_rfl)) (by decide) (fun K hK => ?_)
     refine goes_ Tryd.func13 (by kernel_rfl) rfl #[.agg #[.int .i64 a1_0, .slice A1_1 l1_1.length c1_1]] (by rfl) rfl rfl (by (try simp only [List.map_toArray, List.map_cons, List.map_nil]); first | done | rfl | (simp only [List.length_drop, List.length_take]; rfl)) ?_
     with_reducible refine (show_Text.calls (hT := ?sideT) kj2 a1_0 _ _ l1_1 t223 _ ?side1 ?side2 A28.out).mono ?_
     (case sideT => first | with_reducible exact HT.out | refine TabW.below HT.out ?_; repeat (first | (with_reducible first | exact HB.out | apply below_alloc | apply pw_below_drewN | apply below_drew1 | refine below_set ?_ GE218.out | refine below_set ?_ GE219.out) | exact HB.out | exact Below.refl _ _))
     (case side1 => repeat (first | exact (Kd.C_below HR1_1.out HB.out) | (with_reducible refine Kd.C_alloc ?_ _) | (with_reducible refine Kd.C_drewN ?_ _) | (with_reducible refine Kd.C_drew ?_)))
     (case side2 => exact HC1_1.out)
     rintro e w39 ⟨rfl, hb⟩
     refine ⟨_, rfl, ?_⟩
     have n0_ := Aside0.mk (blk_below (g := gb218) (o := .cells #[.int .i64 a0_0, .slice A0_1 l0_1.length c0_1] 24 (0, 0)) (by (with_reducible repeat (first | refine blk_drewN ?_ _ | refine blk_drew ?_ | refine blk_alloc ?_ _)); exact BK218.out) hb)
     have n1_ := Aside0.mk (blk_below (g := gb219) (o := .cells #[.int .i64 a1_0, .slice A1_1 l1_1.length c1_1] 24 (0, 0)) (by (with_reducible repeat (first | refine blk_drewN ?_ _ | refine blk_drew ?_ | refine blk_alloc ?_ _)); exact BK219.out) hb)
     have n2_ := Aside0.mk (below_step (by repeat (first | (with_reducible first | exact HB.out | apply below_alloc | apply pw_below_drewN | apply below_drew1 | refine below_set ?_ GE218.out | refine below_set ?_ GE219.out) | exact HB.out)) hb)
     clear BK218
     clear BK219
     clear HB
     have BK218 := n0_
     have BK219 := n1_
     have HB := n2_
     clear n0_ n1_ n2_
     (try clear hb)
     (try clear hb2)
     (try clear hk)
     (try clear hi)
     refine hK.out _ _ ⟨(blk_cell BK218.out 0).trans rfl, (blk_cell BK218.out 1).trans rfl, (blk_cell BK219.out 0).trans rfl, (blk_cell BK219.out 1).trans rfl⟩ (fun hHeld => ?_)
     clear hK K
     refine norm_ (a' := ?_) ?_ ?_
     rotate_left
     ·show Act.put _ (some 28) _ = _
      simp only [Act.put, List.setIfInBounds_toArray, List.set_cons_zero, List.set_cons_succ, i64_w, i32_w]
      rfl
     refine pure_ (i := 4) (N := some 29) (v := ?_) (a' := ?_) #[true, true, true, true, true, true, true, false, false, false, false, false, false] rfl rfl (any_of HT_.out (by kernel_rfl)) (fun _ _ _ h => h) (Or.inl ⟨by rfl, ?_⟩) ?_ ?_
     rotate_left
     ·intro w'
      go_simp
      with_reducible rfl
     rotate_left
     ·simp only [Act.put, List.setIfInBounds_toArray, List.set_cons_zero, List.set_cons_succ, i64_w, i32_w]
      rfl
     refine one_ (i := 7) (N := some 32) #[true, true, true, true, true, true, true, true, false, false, false, false, false] rfl rfl (one_of HT_.out (by kernel_rfl)) (by decide) (fun K hK => ?_)
     refine goes_ Tryd.func17 (by kernel_rfl) rfl #[.agg #[.int .i64 a0_0, .slice A0_1 l0_1.length c0_1], .agg #[.int .i64 a1_0, .slice A1_1 l1_1.length c1_1]] (by rfl) rfl rfl (by (try simp only [List.map_toArray, List.map_cons, List.map_nil]); first | done | rfl | (simp only [List.length_drop, List.length_take]; rfl)) ?_
     with_reducible refine (taskmasterref5_Same.calls kj2 a0_0 _ _ l0_1 a1_0 _ _ l1_1 t224 _ ?side1 ?side2 ?side3 ?side4 A29.out).mono ?_
     (case side1 => repeat (first | exact (Kd.C_below HR0_1.out HB.out) | (with_reducible refine Kd.C_alloc ?_ _) | (with_reducible refine Kd.C_drewN ?_ _) | (with_reducible refine Kd.C_drew ?_)))
     (case side2 => exact HC0_1.out)
     (case side3 => repeat (first | exact (Kd.C_below HR1_1.out HB.out) | (with_reducible refine Kd.C_alloc ?_ _) | (with_reducible refine Kd.C_drewN ?_ _) | (with_reducible refine Kd.C_drew ?_)))
     (case side4 => exact HC1_1.out)
     rintro e w40 ⟨rfl, hb⟩
     refine ⟨_, rfl, ?_⟩
     have n0_ := Aside0.mk (blk_below (g := gb218) (o := .cells #[.int .i64 a0_0, .slice A0_1 l0_1.length c0_1] 24 (0, 0)) (by (with_reducible repeat (first | refine blk_drewN ?_ _ | refine blk_drew ?_ | refine blk_alloc ?_ _)); exact BK218.out) hb)
     have n1_ := Aside0.mk (blk_below (g := gb219) (o := .cells #[.int .i64 a1_0, .slice A1_1 l1_1.length c1_1] 24 (0, 0)) (by (with_reducible repeat (first | refine blk_drewN ?_ _ | refine blk_drew ?_ | refine blk_alloc ?_ _)); exact BK219.out) hb)
     have n2_ := Aside0.mk (below_step (by repeat (first | (with_reducible first | exact HB.out | apply below_alloc | apply pw_below_drewN | apply below_drew1 | refine below_set ?_ GE218.out | refine below_set ?_ GE219.out) | exact HB.out)) hb)
     clear BK218
     clear BK219
     clear HB
     have BK218 := n0_
     have BK219 := n1_
     have HB := n2_
     clear n0_ n1_ n2_
     (try clear hb)
     (try clear hb2)
     (try clear hk)
     (try clear hi)
     refine hK.out _ _ ⟨(blk_cell BK218.out 0).trans rfl, (blk_cell BK218.out 1).trans rfl, (blk_cell BK219.out 0).trans rfl, (blk_cell BK219.out 1).trans rfl⟩ (fun hHeld => ?_)
     clear hK K
     refine norm_ (a' := ?_) ?_ ?_
     rotate_left
     ·show Act.put _ (some 32) _ = _
      simp only [Act.put, List.setIfInBounds_toArray, List.set_cons_zero, List.set_cons_succ, i64_w, i32_w]
      rfl
     refine pure_ (i := 8) (N := some 33) (v := ?_) (a' := ?_) #[true, true, true, true, true, true, true, true, true, false, false, false, false] rfl rfl (any_of HT_.out (by kernel_rfl)) (fun _ _ _ h => h) (Or.inl ⟨by rfl, ?_⟩) ?_ ?_
     rotate_left
     ·intro w'
      go_simp
      with_reducible rfl
     rotate_left
     ·simp only [Act.put, List.setIfInBounds_toArray, List.set_cons_zero, List.set_cons_succ, i64_w, i32_w]
      rfl
     refine pure_ (i := 9) (N := some 34) (v := ?_) (a' := ?_) #[true, true, true, true, true, true, true, true, true, true, false, false, false] rfl rfl (any_of HT_.out (by kernel_rfl)) (fun _ _ _ h => h) (Or.inl ⟨by rfl, ?_⟩) ?_ ?_
     rotate_left
     ·intro w'
      go_simp
      with_reducible rfl
     rotate_left
     ·simp only [Act.put, List.setIfInBounds_toArray, List.set_cons_zero, List.set_cons_succ, i64_w, i32_w]
      rfl
     refine pure_ (i := 10) (N := some 35) (v := undef) (a' := ?_) #[true, true, true, true, true, true, true, true, true, true, true, false, false] rfl rfl (any_of HT_.out (by kernel_rfl)) (fun _ _ _ h => h) (Or.inr ⟨by rfl, rfl⟩) ?_ ?_
     rotate_left
     ·simp only [Act.put, List.setIfInBounds_toArray, List.set_cons_zero, List.set_cons_succ, i64_w, i32_w]
      rfl
     refine pure_ (i := 11) (N := some 36) (v := ?_) (a' := ?_) #[true, true, true, true, true, true, true, true, true, true, true, true, false] rfl rfl (any_of HT_.out (by kernel_rfl)) (fun _ _ _ h => h) (Or.inl ⟨by rfl, ?_⟩) ?_ ?_
     rotate_left
     ·intro w'
      go_simp
      with_reducible rfl
     rotate_left
     ·simp only [Act.put, List.setIfInBounds_toArray, List.set_cons_zero, List.set_cons_succ, i64_w, i32_w]
      rfl
     refine pure_ (i := 12) (N := some 4) (v := ?_) (a' := ?_) #[true, true, true, true, true, true, true, true, true, true, true, true, true] rfl rfl (any_of HT_.out (by kernel_rfl)) (fun _ _ _ h => h) (Or.inl ⟨by rfl, ?_⟩) ?_ ?_
     rotate_left
     ·intro w'
      go_simp
      with_reducible rfl
     rotate_left
     ·simp only [Act.put, List.setIfInBounds_toArray, List.set_cons_zero, List.set_cons_succ, i64_w, i32_w]
      rfl
     refine done_ (done_of HT_.out (by kernel_rfl)) ?_
     try go_wp2
     go_ret
     exact ⟨by first | rfl | (simp [errW_none, errW_some] <;> rfl) | (simp [*, errW_none, errW_some] <;> rfl), by repeat (first | (with_reducible first | exact HB.out | apply below_alloc | apply pw_below_drewN | apply below_drew1 | refine below_set ?_ GE218.out | refine below_set ?_ GE219.out) | exact HB.out)⟩

end Go.Proofs.YtkdndgclldlddaaDoor.QSu
namespace Go.Proofs.YtkdndgclldlddaaDoor.Pure
open Go.RowKit Go.Proofs.YtkdndgclldlddaaDoor.QSu Go.Proofs.YtkdndgclldlddaaDoorW.PrintWords Go.Proofs.YtkdndgclldlddaaDoorW.PrintLast Go.Proofs.YtkdndgclldlddaaDoorW.PrintMore
set_option linter.unusedVariables false
theorem wrapN {a : Nat} (h : a < 18446744073709551616) : IntKind.u64.wrap (a : Int) = (a : Int) := by rw [IntKind.wrap_u64]; omega
theorem wr64 (n : Int) (h0 : 0 ≤ n) (h1 : n < 2 ^ 64) : IntKind.u64.wrap n = n := by rw [IntKind.wrap_u64]; omega
theorem andN (a b : Nat) (ha : a < 18446744073709551616) (hb : b < 18446744073709551616) : Go.bits .and .u64 (a : Int) (b : Int) = ((a &&& b : Nat) : Int) := (bits_nat .u64 64 (by decide) wr64 a b ha hb).1
theorem and_lt {a b : Nat} (ha : a < 18446744073709551616) : a &&& b < 18446744073709551616 := Nat.lt_of_le_of_lt Nat.and_le_left ha
theorem evp {α : Type} {c : Prop} [Decidable c] {f g : Nat → Option α} {r : α} (h : c) (k : Ev f r) : Ev (fun n => if c then f n else g n) r := Ev.congr (fun _ => if_pos h) k
theorem evn {α : Type} {c : Prop} [Decidable c] {f g : Nat → Option α} {r : α} (h : ¬ c) (k : Ev g r) : Ev (fun n => if c then f n else g n) r := Ev.congr (fun _ => if_neg h) k
theorem evb {α β : Type} {o : Option α} {f : Nat → α → Option β} {a : α} {r : β} (h : o = some a) (k : Ev (fun n => f n a) r) : Ev (fun n => o.bind (f n)) r := Ev.congr (fun n => by rw [h]; rfl) k
theorem w64 {n : Int} (h0 : -9223372036854775808 ≤ n) (h1 : n ≤ 9223372036854775807) : wrap64 n = n := by unfold wrap64; omega
theorem wi {i : Nat} (h : i ≤ 1000000) : wrap64 ((i : Int) + 1) = ((i + 1 : Nat) : Int) := w64 (by omega) (by omega)
theorem rd_drop {l : List Int} {i : Nat} (h : i < l.length) : l.drop i = rd l (i : Int) :: l.drop (i + 1) := by
  rw [List.drop_eq_getElem_cons h]; unfold rd
  rw [Int.toNat_natCast, List.getD_eq_getElem?_getD, List.getElem?_eq_getElem h]; rfl
theorem ctz_spec {n : Nat} (h0 : n ≠ 0) (h : n < 18446744073709551616) : ∃ k m, Lib.ctz 64 n = k ∧ n = 2 ^ k * (2 * m + 1) ∧ k < 64 := by
  obtain ⟨m, h1, h2⟩ := Lib.ctzFrom_spec 64 n (by omega) h
  refine ⟨Lib.ctzFrom 64 n, m, ?_, h1, h2⟩
  unfold Lib.ctz; rw [if_neg h0]
theorem bit_of {k m : Nat} (j : Nat) : (2 ^ k * (2 * m + 1)).testBit j = (if j < k then false else (2 * m + 1).testBit (j - k)) := by
  have := Nat.testBit_two_pow_mul_add (2 * m + 1) (b := 0) (i := k) (Nat.two_pow_pos k) j
  rw [Nat.add_zero, Nat.zero_testBit] at this
  exact this
theorem tz_eq {n : Nat} (h : n < 18446744073709551616) : bits_TrailingZeros64.f (n : Int) = some ((Lib.ctz 64 n : Nat) : Int) := by
  unfold bits_TrailingZeros64.f; rw [if_pos (by omega), Int.toNat_natCast]
theorem u64_in {n : Int} (h : (Lit.int .u64 n).wf = true) : 0 ≤ n ∧ n < 18446744073709551616 := by
  simp only [Lit.wf, IntKind.min, IntKind.max, IntKind.signed, IntKind.bits, Bool.and_eq_true] at h
  simp at h
  omega
def listFrom (n : Nat) : Nat → Nat → List Int
  | 0, _ => []
  | d + 1, i => if n.testBit i then (i : Int) :: listFrom n d (i + 1) else listFrom n d (i + 1)
theorem listFrom_le (n : Nat) : ∀ (d i : Nat), (listFrom n d i).length ≤ d
  | 0, i => Nat.le_refl _
  | d + 1, i => by
    unfold listFrom
    have := listFrom_le n d (i + 1)
    split
    · rw [List.length_cons]; omega
    · omega
theorem clear_of {k m : Nat} (j : Nat) : ((2 ^ k * (2 * m + 1)) &&& (2 ^ k * (2 * m + 1) - 1)).testBit j = ((2 ^ k * (2 * m + 1)).testBit j && decide (j ≠ k)) := by
  have hp := Nat.two_pow_pos k
  have e : 2 ^ k * (2 * m + 1) - 1 = 2 ^ k * (2 * m) + (2 ^ k - 1) := by rw [Nat.mul_add, Nat.mul_one]; omega
  rw [Nat.testBit_and, bit_of, e, Nat.testBit_two_pow_mul_add (2 * m) (by omega) j]
  by_cases hj : j < k
  · rw [if_pos hj]; rfl
  · rw [if_neg hj, if_neg hj]
    by_cases hk : j = k
    · subst hk
      rw [Nat.sub_self, Nat.testBit_zero, Nat.testBit_zero]
      simp
    · obtain ⟨d, rfl⟩ : ∃ d, j = k + (d + 1) := ⟨j - k - 1, by omega⟩
      rw [show k + (d + 1) - k = d + 1 by omega, ← Nat.testBit_div_two, ← Nat.testBit_div_two, show (2 * m + 1) / 2 = m by omega, show 2 * m / 2 = m by omega]
      simp
theorem list_congr {a b : Nat} : ∀ (d i : Nat), (∀ j, i ≤ j → j < i + d → a.testBit j = b.testBit j) → listFrom a d i = listFrom b d i
  | 0, _, _ => rfl
  | d + 1, i, h => by
    unfold listFrom
    rw [h i (Nat.le_refl _) (by omega), list_congr d (i + 1) (fun j h1 h2 => h j (by omega) (by omega))]
theorem list_first {a b k : Nat} : ∀ (d i : Nat), i ≤ k → k < i + d → a.testBit k = true → b.testBit k = false → (∀ j, j < k → a.testBit j = false) → (∀ j, j ≠ k → b.testBit j = a.testBit j) → listFrom a d i = (k : Int) :: listFrom b d i
  | 0, i, h0, h1, _, _, _, _ => absurd h1 (by omega)
  | d + 1, i, h0, h1, ha, hb, hl, he => by
    by_cases hi : i = k
    · subst hi
      show (if a.testBit i = true then _ else _) = _ :: (if b.testBit i = true then _ else _)
      rw [if_pos ha, if_neg (by rw [hb]; simp), list_congr d (i + 1) (fun j h1 _ => (he j (by omega)).symm)]
    · show (if a.testBit i = true then _ else _) = _ :: (if b.testBit i = true then _ else _)
      rw [if_neg (by rw [hl i (by omega)]; simp), if_neg (by rw [he i hi, hl i (by omega)]; simp)]
      exact list_first d (i + 1) (by omega) (by omega) ha hb hl he
theorem list_zero : ∀ (d i : Nat), listFrom 0 d i = []
  | 0, _ => rfl
  | d + 1, i => by unfold listFrom; rw [if_neg (by rw [Nat.zero_testBit]; simp)]; exact list_zero d (i + 1)
theorem list_step {n : Nat} (h0 : n ≠ 0) (h : n < 18446744073709551616) : listFrom n 64 0 = ((Lib.ctz 64 n : Nat) : Int) :: listFrom (n &&& (n - 1)) 64 0 := by
  obtain ⟨k, m, e, rfl, hk⟩ := ctz_spec h0 h
  rw [e]
  have hb : (2 ^ k * (2 * m + 1)).testBit k = true := by rw [bit_of, if_neg (by omega), Nat.sub_self, Nat.testBit_zero]; simp
  refine list_first 64 0 (by omega) (by omega) hb ?_ (fun j hj => by rw [bit_of, if_pos hj]) (fun j hj => ?_)
  · rw [clear_of]; simp
  · rw [clear_of]; simp [hj]
theorem blist_loop (d : Nat) : ∀ (n : Nat) (acc : List Int), n < 18446744073709551616 → (listFrom n 64 0).length = d → acc.length + d ≤ 64 → Ev (fun k => bits_List.l0 k (n : Int) acc) (acc ++ listFrom n 64 0) := by
  induction d with
  | zero =>
    intro n acc hn hl ha
    have hz : n = 0 := by
      rcases Nat.eq_zero_or_pos n with h | h
      · exact h
      · rw [list_step (by omega) hn] at hl; simp at hl
    subst hz
    refine Ev.step (fun k => by rw [bits_List.l0]) ?_
    refine evp (show ((0 : Nat) : Int) = 0 from rfl) ?_
    rw [list_zero, List.append_nil]; exact Ev.now _
  | succ d ih =>
    intro n acc hn hl ha
    have h0 : n ≠ 0 := by
      rintro rfl
      rw [list_zero] at hl; simp at hl
    rw [list_step h0 hn] at hl ⊢
    refine Ev.step (fun k => by rw [bits_List.l0]) ?_
    refine evn (by omega) ?_
    refine evb (tz_eq hn) ?_
    refine evp (by omega) ?_
    rw [show (n : Int) - 1 = ((n - 1 : Nat) : Int) by omega, wrapN (by omega), andN n (n - 1) hn (by omega)]
    have r := ih (n &&& (n - 1)) (acc ++ [((Lib.ctz 64 n : Nat) : Int)]) (and_lt hn) (by simpa using hl) (by simp; omega)
    rw [List.append_assoc] at r; exact r
theorem blist_ev {n : Nat} (h : n < 18446744073709551616) : Ev (fun k => bits_List.f k (n : Int)) (listFrom n 64 0) := by
  have r := blist_loop (listFrom n 64 0).length n [] h rfl (by have := listFrom_le n 64 0; simpa using this)
  rw [List.nil_append] at r; exact r
end Go.Proofs.YtkdndgclldlddaaDoor.Pure
namespace Go.Proofs.YtkdndgclldlddaaDoor.RefSetN
open Go.RowKit Go.Proofs.YtkdndgclldlddaaDoor.QSu Go.Proofs.YtkdndgclldlddaaDoorW.PrintWords Go.Proofs.YtkdndgclldlddaaDoorW.PrintLast Go.Proofs.YtkdndgclldlddaaDoorW.PrintMore
set_option linter.unusedVariables false
theorem evp {α : Type} {c : Prop} [Decidable c] {f g : Nat → Option α} {r : α} (h : c) (k : Ev f r) : Ev (fun n => if c then f n else g n) r := Ev.congr (fun _ => if_pos h) k
theorem evn {α : Type} {c : Prop} [Decidable c] {f g : Nat → Option α} {r : α} (h : ¬ c) (k : Ev g r) : Ev (fun n => if c then f n else g n) r := Ev.congr (fun _ => if_neg h) k
theorem evb {α β : Type} {o : Option α} {f : Nat → α → Option β} {a : α} {r : β} (h : o = some a) (k : Ev (fun n => f n a) r) : Ev (fun n => o.bind (f n)) r := Ev.congr (fun n => by rw [h]; rfl) k
def Ends {α : Type} (g : Nat → Option α) : Prop := ∃ r, Ev g r
theorem endsNow {α : Type} (r : α) : Ends (fun _ => some r) := ⟨r, Ev.now r⟩
theorem endsStep {α : Type} {g f : Nat → Option α} (h : ∀ k, g (k + 1) = f k) (k : Ends f) : Ends g := let ⟨r, e⟩ := k; ⟨r, Ev.step h e⟩
theorem endsIf {α : Type} {c : Prop} [Decidable c] {f g : Nat → Option α} (h : c → Ends f) (k : ¬ c → Ends g) : Ends (fun n => if c then f n else g n) := by
  by_cases hc : c
  · obtain ⟨r, e⟩ := h hc; exact ⟨r, evp hc e⟩
  · obtain ⟨r, e⟩ := k hc; exact ⟨r, evn hc e⟩
theorem endsAt {α β : Type} {o : Option α} {f : Nat → α → Option β} {a : α} (h : o = some a) (k : Ends (fun n => f n a)) : Ends (fun n => o.bind (f n)) := let ⟨r, e⟩ := k; ⟨r, evb h e⟩
theorem w64 {n : Int} (h0 : -9223372036854775808 ≤ n) (h1 : n ≤ 9223372036854775807) : wrap64 n = n := by unfold wrap64; omega
theorem small_eq (c : Int) : taskmasterref4_small.f c = some (decide (97 ≤ c ∧ c ≤ 122)) := by
  unfold taskmasterref4_small.f
  by_cases h : c ≥ 97
  · rw [if_pos h]; congr 1; exact decide_eq_decide.mpr (by omega)
  · rw [if_neg h, decide_eq_false (by omega)]
theorem digit_eq (c : Int) : taskmasterref4_digit.f c = some (decide (48 ≤ c ∧ c ≤ 57)) := by
  unfold taskmasterref4_digit.f
  by_cases h : c ≥ 48
  · rw [if_pos h]; congr 1; exact decide_eq_decide.mpr (by omega)
  · rw [if_neg h, decide_eq_false (by omega)]
def okB (c : Int) : Prop := (97 ≤ c ∧ c ≤ 122) ∨ (48 ≤ c ∧ c ≤ 57) ∨ c = 95
def NameB (s : ByteArray) : Prop := s.size ≤ 12 ∧ ∀ j : Nat, j < s.size → okB (bt s (j : Int))
def NP (s : ByteArray) (r : Int × ByteArray × Int × Int × Int) : Prop := r.1 = 1 → r.2.2.2.2 = (s.size : Int) → NameB s
def EndsP {α : Type} (P : α → Prop) (g : Nat → Option α) : Prop := ∃ r, Ev g r ∧ P r
theorem endsPNow {α : Type} {P : α → Prop} (r : α) (h : P r) : EndsP P (fun _ => some r) := ⟨r, Ev.now r, h⟩
theorem endsPStep {α : Type} {P : α → Prop} {g f : Nat → Option α} (h : ∀ k, g (k + 1) = f k) (k : EndsP P f) : EndsP P g := let ⟨r, e, p⟩ := k; ⟨r, Ev.step h e, p⟩
theorem endsPIf {α : Type} {P : α → Prop} {c : Prop} [Decidable c] {f g : Nat → Option α} (h : c → EndsP P f) (k : ¬ c → EndsP P g) : EndsP P (fun n => if c then f n else g n) := by
  by_cases hc : c
  · obtain ⟨r, e, p⟩ := h hc; exact ⟨r, evp hc e, p⟩
  · obtain ⟨r, e, p⟩ := k hc; exact ⟨r, evn hc e, p⟩
theorem endsPBind {α β : Type} {P : β → Prop} {g : Nat → Option α} {f : Nat → α → Option β} (h : Ends g) (k : ∀ a, EndsP P (fun n => f n a)) : EndsP P (fun n => (g n).bind (f n)) := by
  obtain ⟨a, e⟩ := h
  obtain ⟨r, e', p⟩ := k a
  exact ⟨r, Ev.bind e e', p⟩
theorem endsPAt {α β : Type} {P : β → Prop} {o : Option α} {f : Nat → α → Option β} {a : α} (h : o = some a) (k : EndsP P (fun n => f n a)) : EndsP P (fun n => o.bind (f n)) := let ⟨r, e, p⟩ := k; ⟨r, evb h e, p⟩
theorem word_loop (s : ByteArray) (l : List ByteArray) (hl : l.length ≤ 100) (d : Nat) : ∀ i : Nat, i + d = l.length → Ends (fun k => taskmasterref4_word.l0 k s l (i : Int)) := by
  induction d with
  | zero =>
    intro i hi
    refine endsStep (fun k => by rw [taskmasterref4_word.l0]) ?_
    exact endsIf (fun h => absurd h (by omega)) (fun _ => endsNow _)
  | succ d ih =>
    intro i hi
    refine endsStep (fun k => by rw [taskmasterref4_word.l0]) ?_
    refine endsIf (fun _ => endsIf (fun _ => endsIf (fun _ => endsNow _) (fun _ => ?_)) (fun h => absurd (Int.natCast_nonneg i) h)) (fun h => absurd (show (i : Int) < (l.length : Int) by omega) h)
    rw [w64 (by omega) (by omega)]
    exact ih (i + 1) (by omega)
theorem word_ends (s : ByteArray) : Ends (fun k => taskmasterref4_word.f k s) := by
  unfold taskmasterref4_word.f
  refine endsAt (show taskmasterref4_Words.f = some _ from rfl) ?_
  exact word_loop s _ (by decide) 10 0 (by decide)
theorem np_ne {s : ByteArray} {n : Int} (h : n ≠ 1) (b : ByteArray) (x y z : Int) : NP s (n, b, x, y, z) := fun e _ => absurd e h
theorem one_j3 (s : ByteArray) (i : Int) (h0 : 0 ≤ i) (h1 : i ≤ s.size) (hall : ∀ j : Nat, (j : Int) < i → okB (bt s (j : Int))) : EndsP (NP s) (fun k => taskmasterref4_one.j3 k s i) := by
  refine endsPStep (fun k => by rw [taskmasterref4_one.j3]) ?_
  refine endsPIf (fun _ => endsPIf (fun _ => ?_) (fun h => absurd h1 h)) (fun h => absurd h0 h)
  refine endsPBind (word_ends _) (fun b => ?_)
  refine endsPIf (fun _ => endsPNow _ (np_ne (by decide) _ _ _ _)) (fun _ => endsPIf (fun _ => endsPNow _ (np_ne (by decide) _ _ _ _)) (fun h12 => endsPNow _ (fun _ hz => ?_)))
  have hz' : i = (s.size : Int) := hz
  exact ⟨by omega, fun j hj => hall j (by omega)⟩
theorem one_l1 (s : ByteArray) (hs : s.size ≤ 9223372036854775807) (d : Nat) : ∀ i : Int, 0 ≤ i → i ≤ s.size → (s.size : Int) - i = d → (∀ j : Nat, (j : Int) < i → okB (bt s (j : Int))) → EndsP (NP s) (fun k => taskmasterref4_one.l1 k s i) := by
  induction d with
  | zero =>
    intro i h0 h1 hd hall
    refine endsPStep (fun k => by rw [taskmasterref4_one.l1]) ?_
    exact endsPIf (fun h => absurd h (by omega)) (fun _ => one_j3 s i h0 h1 hall)
  | succ d ih =>
    intro i h0 h1 hd hall
    refine endsPStep (fun k => by rw [taskmasterref4_one.l1]) ?_
    have more : okB (bt s i) → EndsP (NP s) (fun k => taskmasterref4_one.l1 k s (wrap64 (i + 1))) := fun hok => by
      rw [w64 (by omega) (by omega)]; exact ih (i + 1) (by omega) (by omega) (by omega) (fun j hj => by
        by_cases q : (j : Int) = i
        · rw [q]; exact hok
        · exact hall j (by omega))
    refine endsPIf (fun _ => endsPIf (fun _ => ?_) (fun h => absurd h0 h)) (fun _ => one_j3 s i h0 h1 hall)
    refine endsPAt (small_eq (bt s i)) (endsPIf (fun hc => more (Or.inl (of_decide_eq_true hc))) (fun _ => ?_))
    exact endsPAt (digit_eq (bt s i)) (endsPIf (fun hc => more (Or.inr (Or.inl (of_decide_eq_true hc)))) (fun _ => endsPIf (fun hc => more (Or.inr (Or.inr hc))) (fun _ => one_j3 s i h0 h1 hall)))
theorem one_no (s : ByteArray) (i v : Int) (h0 : 0 < (s.size : Int)) : EndsP (NP s) (fun k => taskmasterref4_one.j1 k s i v false) := by
  refine endsPStep (fun k => by rw [taskmasterref4_one.j1]) ?_
  exact endsPIf (fun h => by cases h) (fun _ => endsPIf (fun _ => endsPNow _ (np_ne (by decide) _ _ _ _)) (fun _ => endsPIf (fun _ => endsPIf (fun _ => endsPIf (fun _ => endsPNow _ (np_ne (by decide) _ _ _ _)) (fun _ => endsPNow _ (np_ne (by decide) _ _ _ _))) (fun h => absurd h0 h)) (fun _ => endsPNow _ (np_ne (by decide) _ _ _ _))))
theorem one_l0 (s : ByteArray) (hs : s.size ≤ 9223372036854775807) (h00 : 0 < (s.size : Int)) (d : Nat) : ∀ i v : Int, 0 ≤ i → i ≤ s.size → (s.size : Int) - i = d → EndsP (NP s) (fun k => taskmasterref4_one.l0 k s i v) := by
  induction d with
  | zero =>
    intro i v h0 h1 hd
    refine endsPStep (fun k => by rw [taskmasterref4_one.l0]) ?_
    exact endsPIf (fun h => absurd h (by omega)) (fun _ => one_no s i v h00)
  | succ d ih =>
    intro i v h0 h1 hd
    refine endsPStep (fun k => by rw [taskmasterref4_one.l0]) ?_
    have more : ∀ v', EndsP (NP s) (fun k => taskmasterref4_one.l0 k s (wrap64 (i + 1)) v') := fun v' => by
      rw [w64 (by omega) (by omega)]; exact ih (i + 1) v' (by omega) (by omega) (by omega)
    refine endsPIf (fun hlt => endsPIf (fun _ => ?_) (fun h => absurd h0 h)) (fun _ => one_no s i v h00)
    refine endsPAt (digit_eq (bt s i)) ?_
    cases decide (48 ≤ bt s i ∧ bt s i ≤ 57) with
    | false => exact one_no s i v h00
    | true =>
      refine endsPStep (fun k => by rw [taskmasterref4_one.j1]) ?_
      exact endsPIf (fun _ => endsPIf (fun _ => endsPIf (fun _ => endsPIf (fun _ => more _) (fun h => absurd hlt h)) (fun h => absurd h0 h)) (fun _ => more _)) (fun h => absurd rfl h)
theorem one_ends (s : ByteArray) (hs : s.size ≤ 9223372036854775807) (h0 : 0 < (s.size : Int)) : EndsP (NP s) (fun k => taskmasterref4_one.f k s) := by
  unfold taskmasterref4_one.f
  refine endsPIf (fun _ => endsPIf (fun _ => endsPNow _ (np_ne (by decide) _ _ _ _)) (fun _ => ?_)) (fun h => absurd h0 h)
  refine endsPAt (digit_eq (bt s 0)) (endsPIf (fun _ => one_l0 s hs h0 s.size 0 0 (by omega) (by omega) (by omega)) (fun _ => ?_))
  exact endsPAt (small_eq (bt s 0)) (endsPIf (fun _ => one_l1 s hs s.size 0 (by omega) (by omega) (by omega) (fun j hj => absurd hj (by omega))) (fun _ => endsPNow _ (np_ne (by decide) _ _ _ _)))
theorem name_ends (s : ByteArray) (hs : s.size ≤ 9223372036854775807) : ∃ b, Ev (fun k => taskmasterref4_Name.f k s) b ∧ (b = true → NameB s) := by
  unfold taskmasterref4_Name.f
  by_cases hz : (s.size : Int) = 0
  · exact ⟨false, evp hz (Ev.now _), fun h => by cases h⟩
  have h0 : 0 < (s.size : Int) := by omega
  obtain ⟨r, e, p⟩ := one_ends s hs h0
  by_cases hsm : (decide (97 ≤ bt s 0 ∧ bt s 0 ≤ 122)) = true
  · by_cases hn : r.2.2.2.2 = (s.size : Int)
    · refine ⟨r.1 == 1, evn hz (evp h0 (evb (small_eq _) (evp hsm (Ev.bind e (evp hn (Ev.now _)))))), fun h => p (by simpa using h) hn⟩
    · exact ⟨false, evn hz (evp h0 (evb (small_eq _) (evp hsm (Ev.bind e (evn hn (Ev.now _)))))), fun h => by cases h⟩
  · exact ⟨false, evn hz (evp h0 (evb (small_eq _) (evn hsm (Ev.now _)))), fun h => by cases h⟩
def sum : List Int → Int
  | [] => 0
  | x :: l => x + sum l
theorem rd_drop {l : List Int} {i : Nat} (h : i < l.length) : l.drop i = rd l (i : Int) :: l.drop (i + 1) := by
  rw [List.drop_eq_getElem_cons h]; unfold rd
  rw [Int.toNat_natCast, List.getD_eq_getElem?_getD, List.getElem?_eq_getElem h]; rfl
theorem in_eq (n a b : Int) : taskmasterref5_in.f n a b = some (decide (a ≤ n ∧ n ≤ b)) := by
  unfold taskmasterref5_in.f
  by_cases h : a ≤ n
  · rw [if_pos (show n ≥ a from h)]; simp [h]
  · rw [if_neg (show ¬ n ≥ a from h)]; simp [h]
theorem sum_bound {l : List Int} (h : ∀ x ∈ l, 1 ≤ x ∧ x ≤ 10000) : (l.length : Int) ≤ sum l ∧ sum l ≤ 10000 * l.length := by
  induction l with
  | nil => simp [sum]
  | cons x l ih =>
    have h1 := ih (fun y hy => h y (List.mem_cons_of_mem _ hy))
    have h2 := h x List.mem_cons_self
    simp only [sum, List.length_cons, Int.natCast_add, Int.natCast_one]
    omega
theorem work_loop (s : ByteArray) (a1 a2 a3 a4 a5 : Int) (l : List Int) (a7 a8 : Int) (hl : l.length ≤ 8) (h : ∀ x ∈ l, 1 ≤ x ∧ x ≤ 10000) (d : Nat) : ∀ (k i : Nat) (acc : Int), i + d = l.length → d < k → 0 ≤ acc → acc ≤ 10000 * i →
    taskmasterref5_Work.l0 k acc (i : Int) s a1 a2 a3 a4 a5 l a7 a8 = some (acc + sum (l.drop i)) := by
  induction d with
  | zero =>
    intro k i acc hi hk h0 h1
    obtain ⟨k, rfl⟩ : ∃ m, k = m + 1 := ⟨k - 1, by omega⟩
    simp only [taskmasterref5_Work.l0]
    rw [if_neg (by omega), List.drop_eq_nil_of_le (by omega)]; simp [sum]
  | succ d ih =>
    intro k i acc hi hk h0 h1
    obtain ⟨k, rfl⟩ : ∃ m, k = m + 1 := ⟨k - 1, by omega⟩
    have hlt : i < l.length := by omega
    have hm : rd l (i : Int) ∈ l := by
      unfold rd; rw [Int.toNat_natCast, List.getD_eq_getElem?_getD, List.getElem?_eq_getElem hlt]; exact List.getElem_mem hlt
    have hx := h _ hm
    simp only [taskmasterref5_Work.l0]
    rw [if_pos (by omega), if_pos (by omega), w64 (n := acc + rd l (i : Int)) (by omega) (by omega), w64 (n := (i : Int) + 1) (by omega) (by omega), rd_drop hlt]
    have := ih k (i + 1) (acc + rd l (i : Int)) (by omega) (by omega) (by omega) (by omega)
    rw [show ((i + 1 : Nat) : Int) = (i : Int) + 1 by omega] at this
    rw [this]
    simp only [sum]
    rw [Int.add_assoc]
theorem work_eq (s : ByteArray) (a1 a2 a3 a4 a5 : Int) (l : List Int) (a7 a8 : Int) (hl : l.length ≤ 8) (h : ∀ x ∈ l, 1 ≤ x ∧ x ≤ 10000) (k : Nat) (hk : 8 < k) : taskmasterref5_Work.f k s a1 a2 a3 a4 a5 l a7 a8 = some (sum l) := by
  unfold taskmasterref5_Work.f
  have := work_loop s a1 a2 a3 a4 a5 l a7 a8 hl h l.length k 0 0 (by omega) (by omega) (by omega) (by omega)
  rw [List.drop_zero, Int.zero_add] at this
  exact this
def TaskOK (x : S30) (p : Int) : Prop :=
  NameB x.f0 ∧ 1 ≤ x.f6.length ∧ x.f6.length ≤ 8 ∧ Go.bits .andNot .u64 x.f8 x.f7 = 0 ∧ (∀ r ∈ x.f6, 1 ≤ r ∧ r ≤ 10000) ∧ sum x.f6 ≤ x.f2 ∧ x.f2 ≤ x.f1 ∧ x.f1 ≤ 10000 ∧
  ((x.f3 = 0 ∧ x.f4 = 0 ∧ x.f5 = 0) ∨ (x.f3 = 1 ∧ 0 ≤ x.f4 ∧ x.f4 ≤ 10000 ∧ x.f5 = 0) ∨ (x.f3 = 2 ∧ x.f4 = 0 ∧ 0 ≤ x.f5 ∧ x.f5 ≤ p))
theorem is_loop (x : S30) (p : Int) (hN : NameB x.f0) (h1 : 1 ≤ x.f6.length) (h8 : x.f6.length ≤ 8) (hb : Go.bits .andNot .u64 x.f8 x.f7 = 0) (d : Nat) : ∀ i : Nat, i + d = x.f6.length → (∀ j : Nat, j < i → 1 ≤ rd x.f6 (j : Int) ∧ rd x.f6 (j : Int) ≤ 10000) →
    ∃ b, Ev (fun k => taskmasterref5_Is.l0 k p (i : Int) x.f0 x.f1 x.f2 x.f3 x.f4 x.f5 x.f6 x.f7 x.f8) b ∧ (b = true → TaskOK x p) := by
  induction d with
  | zero =>
    intro i hi hall
    have hr : ∀ r ∈ x.f6, 1 ≤ r ∧ r ≤ 10000 := fun r hm => by
      obtain ⟨j, hj, rfl⟩ := List.mem_iff_getElem.1 hm
      have := hall j (by omega)
      unfold rd at this
      rw [Int.toNat_natCast, List.getD_eq_getElem?_getD, List.getElem?_eq_getElem hj] at this
      exact this
    have hw : Ev (fun k => taskmasterref5_Work.f k x.f0 x.f1 x.f2 x.f3 x.f4 x.f5 x.f6 x.f7 x.f8) (sum x.f6) := ⟨9, fun k hk => work_eq _ _ _ _ _ _ _ _ _ h8 hr k (by omega)⟩
    have no : Ev (fun k => taskmasterref5_Is.j2 k p true x.f0 x.f1 x.f2 x.f3 x.f4 x.f5 x.f6 x.f7 x.f8) false := Ev.step (fun k => by rw [taskmasterref5_Is.j2, if_pos rfl]) (Ev.now false)
    by_cases c1 : sum x.f6 > x.f2
    · refine ⟨false, Ev.step (fun k => by rw [taskmasterref5_Is.l0]) (evn (by omega) (Ev.bind hw (evp c1 no))), fun h => by cases h⟩
    · by_cases c2 : x.f2 > x.f1
      · refine ⟨false, Ev.step (fun k => by rw [taskmasterref5_Is.l0]) (evn (by omega) (Ev.bind hw (evn c1 (evp c2 no)))), fun h => by cases h⟩
      · by_cases c3 : x.f1 > 10000
        · refine ⟨false, Ev.step (fun k => by rw [taskmasterref5_Is.l0]) (evn (by omega) (Ev.bind hw (evn c1 (evn c2 ?_)))), fun h => by cases h⟩
          rw [decide_eq_true c3]; exact no
        · have base : ∀ {b : Bool}, Ev (fun k => taskmasterref5_Is.j2 k p false x.f0 x.f1 x.f2 x.f3 x.f4 x.f5 x.f6 x.f7 x.f8) b → Ev (fun k => taskmasterref5_Is.l0 k p (i : Int) x.f0 x.f1 x.f2 x.f3 x.f4 x.f5 x.f6 x.f7 x.f8) b := fun hb => by
            refine Ev.step (fun k => by rw [taskmasterref5_Is.l0]) (evn (by omega) (Ev.bind hw (evn c1 (evn c2 ?_))))
            rw [decide_eq_false c3]; exact hb
          have ok : ∀ (_ : (x.f3 = 0 ∧ x.f4 = 0 ∧ x.f5 = 0) ∨ (x.f3 = 1 ∧ 0 ≤ x.f4 ∧ x.f4 ≤ 10000 ∧ x.f5 = 0) ∨ (x.f3 = 2 ∧ x.f4 = 0 ∧ 0 ≤ x.f5 ∧ x.f5 ≤ p)), TaskOK x p := fun hm => ⟨hN, h1, h8, hb, hr, by omega, by omega, by omega, hm⟩
          by_cases m0 : x.f3 = 0
          · by_cases q0 : x.f4 = 0
            · refine ⟨x.f5 == 0, base (Ev.step (fun k => by rw [taskmasterref5_Is.j2, if_neg (by simp), if_pos m0, if_pos q0]) (Ev.now _)), fun h => ok (Or.inl ⟨m0, q0, by simpa using h⟩)⟩
            · exact ⟨false, base (Ev.step (fun k => by rw [taskmasterref5_Is.j2, if_neg (by simp), if_pos m0, if_neg q0]) (Ev.now _)), fun h => by cases h⟩
          · by_cases m1 : x.f3 = 1
            · by_cases q0 : 0 ≤ x.f4 ∧ x.f4 ≤ 10000
              · refine ⟨x.f5 == 0, base (Ev.step (fun k => by rw [taskmasterref5_Is.j2, if_neg (by simp), if_neg m0, if_pos m1, in_eq, decide_eq_true q0, Option.bind_some, if_pos rfl]) (Ev.now _)), fun h => ok (Or.inr (Or.inl ⟨m1, q0.1, q0.2, by simpa using h⟩))⟩
              · exact ⟨false, base (Ev.step (fun k => by rw [taskmasterref5_Is.j2, if_neg (by simp), if_neg m0, if_pos m1, in_eq, decide_eq_false q0, Option.bind_some, if_neg (by simp)]) (Ev.now _)), fun h => by cases h⟩
            · by_cases m2 : x.f3 = 2
              · by_cases q0 : x.f4 = 0
                · by_cases t0 : x.f5 ≥ 0
                  · refine ⟨decide (x.f5 ≤ p), base (Ev.step (fun k => by rw [taskmasterref5_Is.j2, if_neg (by simp), if_neg m0, if_neg m1, if_pos m2, if_pos q0, if_pos t0]) (Ev.now _)), fun h => ok (Or.inr (Or.inr ⟨m2, q0, t0, of_decide_eq_true h⟩))⟩
                  · exact ⟨false, base (Ev.step (fun k => by rw [taskmasterref5_Is.j2, if_neg (by simp), if_neg m0, if_neg m1, if_pos m2, if_pos q0, if_neg t0]) (Ev.now _)), fun h => by cases h⟩
                · exact ⟨false, base (Ev.step (fun k => by rw [taskmasterref5_Is.j2, if_neg (by simp), if_neg m0, if_neg m1, if_pos m2, if_neg q0]) (Ev.now _)), fun h => by cases h⟩
              · exact ⟨false, base (Ev.step (fun k => by rw [taskmasterref5_Is.j2, if_neg (by simp), if_neg m0, if_neg m1, if_neg m2]) (Ev.now _)), fun h => by cases h⟩
  | succ d ih =>
    intro i hi hall
    by_cases c : 1 ≤ rd x.f6 (i : Int) ∧ rd x.f6 (i : Int) ≤ 10000
    · obtain ⟨b, e, hb'⟩ := ih (i + 1) (by omega) (fun j hj => by
        by_cases hji : j = i
        · subst hji; exact c
        · exact hall j (by omega))
      refine ⟨b, Ev.step (fun k => by rw [taskmasterref5_Is.l0]) (evp (by omega) (evp (by omega) (evb (in_eq _ _ _) (evp (decide_eq_true c) ?_)))), hb'⟩
      rw [w64 (by omega) (by omega)]; exact e
    · have hc : ¬ (decide (1 ≤ rd x.f6 (i : Int) ∧ rd x.f6 (i : Int) ≤ 10000) = true) := fun h => c (of_decide_eq_true h)
      exact ⟨false, Ev.step (fun k => by rw [taskmasterref5_Is.l0]) (evp (by omega) (evp (by omega) (evb (in_eq _ _ _) (evn hc (Ev.now false))))), fun h => by cases h⟩
theorem is_ends (x : S30) (p : Int) (hs : x.f0.size ≤ 9223372036854775807) : ∃ b, Ev (fun k => taskmasterref5_Is.f k x.f0 x.f1 x.f2 x.f3 x.f4 x.f5 x.f6 x.f7 x.f8 p) b ∧ (b = true → TaskOK x p) := by
  unfold taskmasterref5_Is.f
  obtain ⟨n, hn, hN⟩ := name_ends x.f0 hs
  have no : Ev (fun k => taskmasterref5_Is.j0 k p true x.f0 x.f1 x.f2 x.f3 x.f4 x.f5 x.f6 x.f7 x.f8) false := Ev.step (fun k => by rw [taskmasterref5_Is.j0, if_pos rfl]) (Ev.now false)
  by_cases c0 : n = true
  · by_cases c1 : (x.f6.length : Int) < 1
    · exact ⟨false, Ev.bind hn (evp c0 (evp c1 no)), fun h => by cases h⟩
    · by_cases c2 : (x.f6.length : Int) > 8
      · exact ⟨false, Ev.bind hn (evp c0 (evn c1 (evp c2 no))), fun h => by cases h⟩
      · by_cases c3 : Go.bits .andNot .u64 x.f8 x.f7 = 0
        · obtain ⟨b, e, hb⟩ := is_loop x p (hN c0) (by omega) (by omega) c3 x.f6.length 0 (by omega) (fun j hj => absurd hj (Nat.not_lt_zero _))
          refine ⟨b, Ev.bind hn (evp c0 (evn c1 (evn c2 (Ev.step (fun k => by rw [taskmasterref5_Is.j0, if_neg (by rw [c3]; simp)]; rfl) e)))), hb⟩
        · refine ⟨false, Ev.bind hn (evp c0 (evn c1 (evn c2 ?_))), fun h => by cases h⟩
          rw [show (Go.bits .andNot .u64 x.f8 x.f7 != 0) = true by simpa using c3]; exact no
  · exact ⟨false, Ev.bind hn (evn c0 no), fun h => by cases h⟩
def SetOK (r : Int) (l : List S30) : Prop := 0 ≤ r ∧ r ≤ 10000 ∧ 1 ≤ l.length ∧ l.length ≤ 8 ∧ ∀ i : Int, 0 ≤ i → i < l.length → TaskOK (rd_T30 l i) i
theorem all_loops (r : Int) (l : List S30) (h0 : 0 ≤ r) (h1 : r ≤ 10000) (h2 : 1 ≤ l.length) (h8 : l.length ≤ 8) (hs : ∀ y ∈ l, y.f0.size ≤ 9223372036854775807) (d : Nat) : ∀ i : Nat, i + d = l.length → (∀ j : Int, 0 ≤ j → j < i → TaskOK (rd_T30 l j) j) →
    ∃ b, Ev (fun k => taskmasterref5_All.l0 k (i : Int) r l) b ∧ (b = true → SetOK r l) := by
  induction d with
  | zero =>
    intro i hi hall
    exact ⟨true, Ev.step (fun k => by rw [taskmasterref5_All.l0]) (evn (by omega) (Ev.now true)), fun _ => ⟨h0, h1, h2, h8, fun j a b => hall j a (by omega)⟩⟩
  | succ d ih =>
    intro i hi hall
    have hlt : i < l.length := by omega
    have hm : rd_T30 l (i : Int) ∈ l := by
      unfold rd_T30; rw [Int.toNat_natCast, List.getD_eq_getElem?_getD, List.getElem?_eq_getElem hlt]; exact List.getElem_mem hlt
    obtain ⟨t, ht, hok⟩ := is_ends (rd_T30 l (i : Int)) (i : Int) (hs _ hm)
    by_cases c : t = true
    · obtain ⟨b, e, hb⟩ := ih (i + 1) (by omega) (fun j a q => by
        by_cases hji : j = i
        · subst hji; exact hok c
        · exact hall j a (by omega))
      have inner : ∀ d' j : Nat, j + d' = i → ∃ b', Ev (fun k => taskmasterref5_All.l1 k (i : Int) (j : Int) r l) b' ∧ (b' = true → SetOK r l) := by
        intro d'
        induction d' with
        | zero =>
          intro j hj
          refine ⟨b, Ev.step (fun k => by rw [taskmasterref5_All.l1]) (evn (by omega) ?_), hb⟩
          rw [w64 (by omega) (by omega)]; exact e
        | succ d' ih' =>
          intro j hj
          by_cases q : ((rd_T30 l (j : Int)).f0).toList = ((rd_T30 l (i : Int)).f0).toList
          · exact ⟨false, Ev.step (fun k => by rw [taskmasterref5_All.l1]) (evp (by omega) (evp (by omega) (evp (by omega) (evp (by omega) (evp (by omega) (evp q (Ev.now false))))))), fun h => by cases h⟩
          · obtain ⟨b', e', hb'⟩ := ih' (j + 1) (by omega)
            refine ⟨b', Ev.step (fun k => by rw [taskmasterref5_All.l1]) (evp (by omega) (evp (by omega) (evp (by omega) (evp (by omega) (evp (by omega) (evn q ?_)))))), hb'⟩
            rw [w64 (by omega) (by omega)]; exact e'
      obtain ⟨b', e', hb'⟩ := inner i 0 (by omega)
      exact ⟨b', Ev.step (fun k => by rw [taskmasterref5_All.l0]) (evp (by omega) (evp (by omega) (Ev.bind ht (evp c e')))), hb'⟩
    · exact ⟨false, Ev.step (fun k => by rw [taskmasterref5_All.l0]) (evp (by omega) (evp (by omega) (Ev.bind ht (evn c (Ev.now false))))), fun h => by cases h⟩
theorem all_ends (r : Int) (l : List S30) (hs : ∀ y ∈ l, y.f0.size ≤ 9223372036854775807) : ∃ b, Ev (fun k => taskmasterref5_All.f k r l) b ∧ (b = true → SetOK r l) := by
  unfold taskmasterref5_All.f
  have no : Ev (fun k => taskmasterref5_All.j0 k true r l) false := Ev.step (fun k => by rw [taskmasterref5_All.j0, if_pos rfl]) (Ev.now false)
  by_cases c0 : 0 ≤ r ∧ r ≤ 10000
  · by_cases c1 : (l.length : Int) < 1
    · exact ⟨false, evb (in_eq _ _ _) (evp (decide_eq_true c0) (evp c1 no)), fun h => by cases h⟩
    · by_cases c2 : (l.length : Int) > 8
      · refine ⟨false, evb (in_eq _ _ _) (evp (decide_eq_true c0) (evn c1 ?_)), fun h => by cases h⟩
        rw [decide_eq_true c2]; exact no
      · obtain ⟨b, e, hb⟩ := all_loops r l c0.1 c0.2 (by omega) (by omega) hs l.length 0 (by omega) (fun j a q => absurd q (by omega))
        refine ⟨b, evb (in_eq _ _ _) (evp (decide_eq_true c0) (evn c1 ?_)), hb⟩
        rw [decide_eq_false c2]
        exact Ev.step (fun k => by rw [taskmasterref5_All.j0, if_neg (by simp)]; rfl) e
  · have hc : ¬ (decide (0 ≤ r ∧ r ≤ 10000) = true) := fun h => c0 (of_decide_eq_true h)
    exact ⟨false, evb (in_eq _ _ _) (evn hc no), fun h => by cases h⟩
end Go.Proofs.YtkdndgclldlddaaDoor.RefSetN
namespace Go.Proofs.YtkdndgclldlddaaDoor.QSu
open Go.RowKit Go.Proofs.YtkdndgclldlddaaDoorW.PrintWords Go.Proofs.YtkdndgclldlddaaDoorW.PrintLast Go.Proofs.YtkdndgclldlddaaDoorW.PrintMore
attribute [local go_sem] max2_int min2_int max_two min_two max_three min_three max_four min_four
set_option linter.unusedVariables false
set_option linter.unusedSimpArgs false

end Go.Proofs.YtkdndgclldlddaaDoor.QSu
namespace Go.Proofs.YtkdndgclldlddaaDoor.Pure
open Go.RowKit Go.Proofs.YtkdndgclldlddaaDoor.QSu Go.Proofs.YtkdndgclldlddaaDoorW.PrintWords Go.Proofs.YtkdndgclldlddaaDoorW.PrintLast Go.Proofs.YtkdndgclldlddaaDoorW.PrintMore
set_option linter.unusedVariables false
set_option linter.unusedSimpArgs false
def B (l : List UInt8) : ByteArray := ⟨l.toArray⟩
theorem B_app (a b : List UInt8) : B a ++ B b = B (a ++ b) := by
  apply ByteArray.ext
  simp [B]
theorem B_size (a : List UInt8) : (B a).size = a.length := by simp [B, ByteArray.size]
theorem B_data (a : List UInt8) : (B a).data.toList = a := rfl
theorem size_of (s : ByteArray) : s.data.toList.length = s.size := Array.length_toList
theorem dd_len (u : Nat) (h : u < 18446744073709551616) : (Lib.decDigits u).length ≤ 20 := by rw [Lib.decDigits_length]; exact Lib.nDigits_le20 u h
theorem itoa_nat (n : Nat) : Lib.itoa (n : Int) = Lib.decDigits n := by unfold Lib.itoa; rw [if_neg (by omega)]; simp
theorem num_eq {n : Int} (h0 : 0 ≤ n) (h1 : n ≤ 9223372036854775807) : show_num.f n = some (B (Lib.itoa n)) := by
  unfold show_num.f strconv_FormatInt_49.f
  rw [if_pos ⟨rfl, by omega, h1⟩]; rfl
theorem it_len {n : Int} (h0 : 0 ≤ n) (h1 : n ≤ 9223372036854775807) : (Lib.itoa n).length ≤ 20 := by
  obtain ⟨m, rfl⟩ := Int.eq_ofNat_of_zero_le h0
  rw [itoa_nat]; exact dd_len m (by omega)
def tl (r : List (List UInt8)) : List UInt8 := (r.map ([32] ++ ·)).flatten
theorem tl_join (x : List UInt8) (r : List (List UInt8)) : Lib.join (x :: r) [32] = x ++ tl r := Lib.join_cons x r [32]
theorem tl_app (a b : List (List UInt8)) : tl (a ++ b) = tl a ++ tl b := by simp [tl]
theorem tl_cons (x : List UInt8) (r : List (List UInt8)) : tl (x :: r) = 32 :: (x ++ tl r) := by simp [tl]
theorem tl_nil : tl [] = [] := rfl
theorem tl_len (r : List (List UInt8)) (h : ∀ x ∈ r, x.length ≤ 30) : (tl r).length ≤ 31 * r.length := by
  induction r with
  | nil => simp [tl]
  | cons x r ih =>
    rw [tl_cons, List.length_cons, List.length_append, List.length_cons]
    have := h x List.mem_cons_self
    have := ih (fun y hy => h y (List.mem_cons_of_mem _ hy))
    omega
def setL (w : List UInt8) (x : Nat) : List (List UInt8) := if x = 0 then [] else w :: (listFrom x 64 0).map Lib.itoa
theorem mem_list (s : Nat) : ∀ (d i : Nat) (x : Int), x ∈ listFrom s d i → 0 ≤ x ∧ x < ((i + d : Nat) : Int)
  | 0, i, x, h => by cases h
  | d + 1, i, x, h => by
    unfold listFrom at h
    split at h
    · rcases List.mem_cons.mp h with rfl | h
      · omega
      · have := mem_list s d (i + 1) x h; omega
    · have := mem_list s d (i + 1) x h; omega
theorem sets_loop (l : List Int) (hl : l.length ≤ 64) (hm : ∀ x ∈ l, 0 ≤ x ∧ x < 64) (d : Nat) : ∀ (i : Nat) (acc : List ByteArray), i + d = l.length → acc.length ≤ i + 1 → Ev (fun k => show_sets.l0 k acc l (l.length : Int) (i : Int)) (acc ++ (l.drop i).map (fun x => B (Lib.itoa x))) := by
  induction d with
  | zero =>
    intro i acc hi ha
    refine Ev.step (fun k => by rw [show_sets.l0]) (evn (by omega) ?_)
    rw [List.drop_eq_nil_of_le (by omega), List.map_nil, List.append_nil]
    exact Ev.now _
  | succ d ih =>
    intro i acc hi ha
    have hil : i < l.length := by omega
    have hx := hm (rd l (i : Int)) (List.mem_of_mem_drop (i := i) (by rw [rd_drop hil]; exact List.mem_cons_self))
    refine Ev.step (fun k => by rw [show_sets.l0]) (evp (by omega) (evp (by omega) (evp (by omega) ?_)))
    refine evb (num_eq hx.1 (by omega)) (evp (by omega) ?_)
    rw [wi (by omega), rd_drop hil, List.map_cons]
    have := ih (i + 1) (acc ++ [B (Lib.itoa (rd l (i : Int)))]) (by omega) (by rw [List.length_append, List.length_singleton]; omega)
    rw [List.append_assoc] at this
    exact this
theorem sets_ev (w : List UInt8) {x : Nat} (hx : x < 18446744073709551616) : Ev (fun k => show_sets.f k (B w) (x : Int)) ((setL w x).map B) := by
  unfold show_sets.f setL
  by_cases h : x = 0
  · subst h; exact evp rfl (Ev.now _)
  · rw [if_neg h]
    refine evn (by omega) (Ev.bind (blist_ev hx) ?_)
    have := sets_loop (listFrom x 64 0) (listFrom_le x 64 0) (fun y hy => by have := mem_list x 64 0 y hy; omega) (listFrom x 64 0).length 0 [B w] (by omega) (by simp)
    rw [List.drop_zero] at this
    rw [List.map_cons, List.map_map]
    exact this
theorem setL_len (w : List UInt8) (x : Nat) : (setL w x).length ≤ 65 := by
  unfold setL
  split
  · simp
  · rw [List.length_cons, List.length_map]; have := listFrom_le x 64 0; omega
theorem setL_mem {w : List UInt8} (hw : w.length ≤ 10) (x : Nat) : ∀ y ∈ setL w x, y.length ≤ 30 := by
  intro y hy
  unfold setL at hy
  split at hy
  · cases hy
  · rcases List.mem_cons.mp hy with rfl | hy
    · omega
    · obtain ⟨z, hz, rfl⟩ := List.mem_map.mp hy
      have := mem_list x 64 0 z hz
      have := it_len (n := z) this.1 (by omega)
      omega
abbrev Tk := S30
abbrev rdT (l : List Tk) (i : Int) : Tk := rd_T30 l i
def TB (x : Tk) : Prop := x.f0.size ≤ 12 ∧ (0 ≤ x.f1 ∧ x.f1 ≤ 10000) ∧ (0 ≤ x.f2 ∧ x.f2 ≤ 10000) ∧ (x.f3 = 0 ∨ (x.f3 = 1 ∧ 0 ≤ x.f4 ∧ x.f4 ≤ 10000) ∨ (x.f3 = 2 ∧ 0 ≤ x.f5 ∧ x.f5 ≤ 10000)) ∧ x.f6.length ≤ 8 ∧ (∀ r ∈ x.f6, 1 ≤ r ∧ r ≤ 10000) ∧
  (0 ≤ x.f7 ∧ x.f7 < 18446744073709551616) ∧ (0 ≤ x.f8 ∧ x.f8 < 18446744073709551616)
def wTask : List UInt8 := [116, 97, 115, 107]
def wPeriod : List UInt8 := [112, 101, 114, 105, 111, 100]
def wDeadline : List UInt8 := [100, 101, 97, 100, 108, 105, 110, 101]
def wRegions : List UInt8 := [114, 101, 103, 105, 111, 110, 115]
def wEcb : List UInt8 := [101, 99, 98]
def wUcb : List UInt8 := [117, 99, 98]
def wFixed : List UInt8 := [102, 105, 120, 101, 100]
def wFloat : List UInt8 := [102, 108, 111, 97, 116]
def wThresh : List UInt8 := [116, 104, 114, 101, 115, 104]
def modeL (x : Tk) : List UInt8 := if x.f3 = 1 then wFloat ++ 32 :: Lib.itoa x.f4 else if x.f3 = 2 then wThresh ++ 32 :: Lib.itoa x.f5 else wFixed
def headL (x : Tk) : List (List UInt8) := [x.f0.data.toList, wPeriod, Lib.itoa x.f1, wDeadline, Lib.itoa x.f2, modeL x]
def restL (x : Tk) : List (List UInt8) := x.f6.map Lib.itoa ++ setL wEcb x.f7.toNat ++ setL wUcb x.f8.toNat
def taskL (x : Tk) : List UInt8 := wTask ++ tl (headL x) ++ tl [wRegions] ++ tl (restL x) ++ [59]
theorem mode_len {x : Tk} (h : TB x) : (modeL x).length ≤ 27 := by
  unfold modeL
  obtain ⟨_, _, _, hm, _⟩ := h
  rcases hm with hm | hm | hm
  · rw [hm, if_neg (by decide), if_neg (by decide)]; decide
  · rw [if_pos hm.1]; have := it_len hm.2.1 (by omega); simp [wFloat]; omega
  · rw [hm.1, if_neg (by decide), if_pos rfl]; have := it_len hm.2.1 (by omega); simp [wThresh]; omega
theorem head_mem {x : Tk} (h : TB x) : ∀ y ∈ headL x, y.length ≤ 30 := by
  have hm := mode_len h
  have h1 := it_len h.2.1.1 (by have := h.2.1.2; omega)
  have h2 := it_len h.2.2.1.1 (by have := h.2.2.1.2; omega)
  have h0 := h.1
  rw [← size_of] at h0
  intro y hy
  simp only [headL, List.mem_cons, List.not_mem_nil, or_false] at hy
  rcases hy with rfl | rfl | rfl | rfl | rfl | rfl
  · omega
  · decide
  · omega
  · decide
  · omega
  · omega
theorem reg_mem {x : Tk} (h : TB x) : ∀ y ∈ x.f6.map Lib.itoa, y.length ≤ 30 := by
  intro y hy
  obtain ⟨r, hr, rfl⟩ := List.mem_map.mp hy
  have := h.2.2.2.2.2.1 r hr
  have := it_len (n := r) (by omega) (by omega)
  omega
theorem rest_mem {x : Tk} (h : TB x) : ∀ y ∈ restL x, y.length ≤ 30 := by
  intro y hy
  simp only [restL, List.mem_append] at hy
  rcases hy with (hy | hy) | hy
  · exact reg_mem h y hy
  · exact setL_mem (by decide) _ y hy
  · exact setL_mem (by decide) _ y hy
theorem rest_len {x : Tk} (h : TB x) : (restL x).length ≤ 138 := by
  have h1 := setL_len wEcb x.f7.toNat
  have h2 := setL_len wUcb x.f8.toNat
  have h3 := h.2.2.2.2.1
  simp only [restL, List.length_append, List.length_map]
  omega
theorem task_len {x : Tk} (h : TB x) : (taskL x).length ≤ 6000 := by
  have h1 := tl_len _ (head_mem h)
  have h2 := tl_len _ (rest_mem h)
  have h3 := rest_len h
  have h4 : (headL x).length = 6 := rfl
  have h5 : (tl [wRegions]).length = 8 := rfl
  have h6 : wTask.length = 4 := rfl
  simp only [taskL, List.length_append, h5, h6, List.length_singleton]
  omega
theorem mode_eq {x : Tk} (h : TB x) : show_mode.f x.f0 x.f1 x.f2 x.f3 x.f4 x.f5 x.f6 x.f7 x.f8 = some (B (modeL x)) := by
  unfold show_mode.f modeL
  obtain ⟨_, _, _, hm, _⟩ := h
  rcases hm with hm | hm | hm
  · rw [hm, if_neg (by decide), if_neg (by decide), if_neg (by decide), if_neg (by decide)]; rfl
  · have hl := it_len hm.2.1 (by omega)
    rw [if_pos hm.1, if_pos hm.1, num_eq hm.2.1 (by omega), Option.bind_some, if_pos (by rw [B_size]; omega), show (⟨#[102, 108, 111, 97, 116, 32]⟩ : ByteArray) = B [102, 108, 111, 97, 116, 32] from rfl, B_app]
    rfl
  · have hl := it_len hm.2.1 (by omega)
    rw [hm.1, if_neg (by decide), if_pos rfl, num_eq hm.2.1 (by omega), Option.bind_some, if_pos (by rw [B_size]; omega), if_neg (by decide), if_pos rfl, show (⟨#[116, 104, 114, 101, 115, 104, 32]⟩ : ByteArray) = B [116, 104, 114, 101, 115, 104, 32] from rfl, B_app]
    rfl
theorem map_data (m : List (List UInt8)) : (m.map B).map (fun x => x.data.toList) = m := by
  rw [List.map_map]
  conv => rhs; rw [← List.map_id m]
  rfl
theorem join_eq (m : List (List UInt8)) (hm : ∀ y ∈ m, y.length ≤ 30) (hl : m.length ≤ 1000) : strings_Join.f ((wTask :: m).map B) (⟨#[32]⟩ : ByteArray) = some (B (wTask ++ tl m)) := by
  unfold strings_Join.f
  have h1 := tl_len m hm
  have e : Lib.join (((wTask :: m).map B).map (fun x => x.data.toList)) ((⟨#[32]⟩ : ByteArray).data.toList) = wTask ++ tl m := by
    rw [map_data]; exact tl_join wTask m
  rw [e, if_pos ⟨by simp, by rw [List.length_map, List.length_cons]; omega, by rw [List.length_append]; have : wTask.length = 4 := rfl; omega⟩]
  rfl
theorem task_loop {x : Tk} (h : TB x) (d : Nat) : ∀ (i : Nat) (m : List (List UInt8)), i + d = x.f6.length → m.length ≤ 8 + i → (∀ y ∈ m, y.length ≤ 30) →
    Ev (fun k => show_Task.l0 k ((wTask :: m).map B) x.f6 (x.f6.length : Int) (i : Int) x.f0 x.f1 x.f2 x.f3 x.f4 x.f5 x.f6 x.f7 x.f8) (B (wTask ++ tl (m ++ ((x.f6.drop i).map Lib.itoa ++ setL wEcb x.f7.toNat ++ setL wUcb x.f8.toNat)) ++ [59])) := by
  have h8 := h.2.2.2.2.1
  have h7 := h.2.2.2.2.2.2
  induction d with
  | zero =>
    intro i m hi hm hy
    refine Ev.step (fun k => by rw [show_Task.l0]) (evn (by omega) ?_)
    have he := sets_ev wEcb (x := x.f7.toNat) (by omega)
    have hu := sets_ev wUcb (x := x.f8.toNat) (by omega)
    rw [Int.toNat_of_nonneg h7.1.1] at he
    rw [Int.toNat_of_nonneg h7.2.1] at hu
    have l1 := setL_len wEcb x.f7.toNat
    have l2 := setL_len wUcb x.f8.toNat
    refine Ev.bind he (evp (by simp only [List.length_map, List.length_cons]; omega) (evb rfl ?_))
    refine Ev.bind hu (evp (by simp only [List.length_append, List.length_map, List.length_cons]; omega) ?_)
    rw [← List.map_append, ← List.map_append]
    have hj := join_eq (m ++ setL wEcb x.f7.toNat ++ setL wUcb x.f8.toNat) (fun y hm' => by
      simp only [List.mem_append] at hm'
      rcases hm' with (hm' | hm') | hm'
      · exact hy y hm'
      · exact setL_mem (by decide) _ y hm'
      · exact setL_mem (by decide) _ y hm') (by simp only [List.length_append]; omega)
    refine evb hj ?_
    have hl := tl_len (m ++ setL wEcb x.f7.toNat ++ setL wUcb x.f8.toNat) (fun y hm' => by
      simp only [List.mem_append] at hm'
      rcases hm' with (hm' | hm') | hm'
      · exact hy y hm'
      · exact setL_mem (by decide) _ y hm'
      · exact setL_mem (by decide) _ y hm')
    refine evp (by rw [B_size]; simp only [List.length_append] at hl ⊢; have : wTask.length = 4 := rfl; omega) ?_
    rw [show (⟨#[59]⟩ : ByteArray) = B [59] from rfl, B_app, List.drop_eq_nil_of_le (by omega), List.map_nil, List.nil_append, List.append_assoc m]
    exact Ev.now _
  | succ d ih =>
    intro i m hi hm hy
    have hil : i < x.f6.length := by omega
    have hr := h.2.2.2.2.2.1 (rd x.f6 (i : Int)) (List.mem_of_mem_drop (i := i) (by rw [rd_drop hil]; exact List.mem_cons_self))
    refine Ev.step (fun k => by rw [show_Task.l0]) (evp (by omega) (evp (by omega) (evp (by omega) ?_)))
    refine evb (num_eq (n := rd x.f6 (i : Int)) (by omega) (by omega)) (evp (by simp only [List.length_map, List.length_cons]; omega) ?_)
    rw [wi (by omega), rd_drop hil, List.map_cons]
    have hl := it_len (n := rd x.f6 (i : Int)) (by omega) (by omega)
    have := ih (i + 1) (m ++ [Lib.itoa (rd x.f6 (i : Int))]) (by omega) (by rw [List.length_append, List.length_singleton]; omega) (fun y hm' => by
      rcases List.mem_append.mp hm' with hm' | hm'
      · exact hy y hm'
      · rw [List.mem_singleton.mp hm']; omega)
    rw [← List.cons_append, List.map_append, List.append_assoc m] at this
    exact this
theorem task_ev {x : Tk} (h : TB x) : Ev (fun k => show_Task.f k x.f0 x.f1 x.f2 x.f3 x.f4 x.f5 x.f6 x.f7 x.f8) (B (taskL x)) := by
  unfold show_Task.f
  have b1 := h.2.1
  have b2 := h.2.2.1
  refine evb (num_eq b1.1 (by omega)) (evb (num_eq b2.1 (by omega)) (evb (mode_eq h) ?_))
  have hl := task_loop h x.f6.length 0 (headL x ++ [wRegions]) (by omega) (by simp [headL]) (fun y hy => by
    rcases List.mem_append.mp hy with hy | hy
    · exact head_mem h y hy
    · rw [List.mem_singleton.mp hy]; decide)
  have e : wTask ++ tl (headL x ++ [wRegions] ++ ((x.f6.drop 0).map Lib.itoa ++ setL wEcb x.f7.toNat ++ setL wUcb x.f8.toNat)) ++ [59] = taskL x := by
    rw [List.drop_zero, tl_app, tl_app]
    simp only [taskL, restL, List.append_assoc]
  rw [e] at hl
  exact hl
def linesL (l : List Tk) : List UInt8 := (l.map (fun x => taskL x ++ [10])).flatten
def wReload : List UInt8 := [114, 101, 108, 111, 97, 100, 32]
def textL (r : Int) (l : List Tk) : List UInt8 := wReload ++ Lib.itoa r ++ [59, 10] ++ linesL l
theorem rdT_drop {l : List Tk} {i : Nat} (h : i < l.length) : l.drop i = rdT l (i : Int) :: l.drop (i + 1) := by
  rw [List.drop_eq_getElem_cons h]
  unfold rdT rd_T30
  rw [Int.toNat_natCast, List.getD_eq_getElem?_getD, List.getElem?_eq_getElem h]; rfl
theorem lines_cons (x : Tk) (l : List Tk) : linesL (x :: l) = taskL x ++ [10] ++ linesL l := by simp [linesL]
theorem text_loop (l : List Tk) (hl : l.length ≤ 8) (hb : ∀ i : Nat, i < l.length → TB (rdT l (i : Int))) (d : Nat) : ∀ (i : Nat) (L : List UInt8), i + d = l.length → L.length + 6001 * d ≤ 60000 →
    Ev (fun k => show_Text.l0 k (B L) l (l.length : Int) (i : Int)) (B (L ++ linesL (l.drop i))) := by
  induction d with
  | zero =>
    intro i L hi hL
    refine Ev.step (fun k => by rw [show_Text.l0]) (evn (by omega) ?_)
    rw [List.drop_eq_nil_of_le (by omega), show linesL [] = [] from rfl, List.append_nil]
    exact Ev.now _
  | succ d ih =>
    intro i L hi hL
    have hil : i < l.length := by omega
    have hx := hb i hil
    have hlen := task_len hx
    have hlen' : (taskL (rd_T30 l (i : Int))).length ≤ 6000 := hlen
    refine Ev.step (fun k => by rw [show_Text.l0]) (evp (by omega) (evp (by omega) (evp (by omega) ?_)))
    refine Ev.bind (task_ev hx) (evp (by rw [B_size]; omega) ?_)
    rw [show (⟨#[10]⟩ : ByteArray) = B [10] from rfl, B_app]
    refine evp (by rw [B_size, B_size, List.length_append, List.length_singleton]; omega) ?_
    rw [B_app, wi (by omega), rdT_drop hil, lines_cons]
    have := ih (i + 1) (L ++ (taskL (rdT l (i : Int)) ++ [10])) (by omega) (by rw [List.length_append, List.length_append, List.length_singleton]; omega)
    rw [List.append_assoc] at this
    exact this
theorem text_ev (r : Int) (h0 : 0 ≤ r) (h1 : r ≤ 10000) (l : List Tk) (hl : l.length ≤ 8) (hb : ∀ i : Nat, i < l.length → TB (rdT l (i : Int))) : Ev (fun k => show_Text.f k r l) (B (textL r l)) := by
  have hn := it_len h0 (by omega)
  unfold show_Text.f
  refine evb (num_eq h0 (by omega)) (evp (by rw [B_size]; omega) ?_)
  rw [show (⟨#[114, 101, 108, 111, 97, 100, 32]⟩ : ByteArray) = B wReload from rfl, show (⟨#[59, 10]⟩ : ByteArray) = B [59, 10] from rfl, B_app]
  have h7 : wReload.length = 7 := rfl
  refine evp (by rw [B_size, List.length_append]; omega) ?_
  rw [B_app]
  have := text_loop l hl hb l.length 0 (wReload ++ Lib.itoa r ++ [59, 10]) (by omega) (by simp only [List.length_append, List.length_cons, List.length_nil]; omega)
  rw [List.drop_zero] at this
  exact this
theorem tb_of {r : Int} {l : List Tk} (h : RefSetN.SetOK r l) (hu : ∀ y ∈ l, (0 ≤ y.f7 ∧ y.f7 < 18446744073709551616) ∧ (0 ≤ y.f8 ∧ y.f8 < 18446744073709551616)) : ∀ i : Nat, i < l.length → TB (rdT l (i : Int)) := by
  intro i hi
  obtain ⟨_, _, _, h8, ht⟩ := h
  have hx := ht (i : Int) (by omega) (by omega)
  have hm : rdT l (i : Int) ∈ l := List.mem_of_mem_drop (i := i) (by rw [rdT_drop hi]; exact List.mem_cons_self)
  have hy := hu _ hm
  obtain ⟨hN, h1, h2, _, h4, h5, h6, h7, h9⟩ := hx
  have hs := RefSetN.sum_bound h4
  have e1 : 0 ≤ (rd_T30 l (i : Int)).f1 := by omega
  have e2 : 0 ≤ (rd_T30 l (i : Int)).f2 := by omega
  have e3 : (rd_T30 l (i : Int)).f2 ≤ 10000 := by omega
  refine ⟨hN.1, ⟨e1, h7⟩, ⟨e2, e3⟩, ?_, h2, h4, hy.1, hy.2⟩
  rcases h9 with h9 | h9 | h9
  · exact Or.inl h9.1
  · exact Or.inr (Or.inl ⟨h9.1, h9.2.1, h9.2.2.1⟩)
  · exact Or.inr (Or.inr ⟨h9.1, h9.2.2.1, Int.le_trans h9.2.2.2 (by omega)⟩)
theorem split_at {α : Type} (P : α → Prop) : ∀ (a a' s s' : List α), (∀ x ∈ a, P x) → (∀ x ∈ a', P x) → (∀ x, s.head? = some x → ¬ P x) → (∀ x, s'.head? = some x → ¬ P x) → a ++ s = a' ++ s' → a = a' ∧ s = s'
  | [], [], s, s', _, _, _, _, h => ⟨rfl, h⟩
  | [], x :: a', s, s', _, h2, h3, _, h => by
    simp only [List.nil_append, List.cons_append] at h
    exact absurd (h2 x List.mem_cons_self) (h3 x (by rw [h]; rfl))
  | x :: a, [], s, s', h1, _, _, h4, h => by
    simp only [List.nil_append, List.cons_append] at h
    exact absurd (h1 x List.mem_cons_self) (h4 x (by rw [← h]; rfl))
  | x :: a, y :: a', s, s', h1, h2, h3, h4, h => by
    simp only [List.cons_append, List.cons.injEq] at h
    obtain ⟨rfl, h⟩ := h
    obtain ⟨e1, e2⟩ := split_at P a a' s s' (fun z hz => h1 z (List.mem_cons_of_mem _ hz)) (fun z hz => h2 z (List.mem_cons_of_mem _ hz)) h3 h4 h
    exact ⟨by rw [e1], e2⟩
def okC (c : UInt8) : Prop := c ≠ 32 ∧ c ≠ 59 ∧ c ≠ 10
def okW (w : List UInt8) : Prop := ∀ c ∈ w, okC c
theorem tl_inj : ∀ (r r' : List (List UInt8)), (∀ w ∈ r, okW w) → (∀ w ∈ r', okW w) → tl r ++ [59] = tl r' ++ [59] → r = r'
  | [], [], _, _, _ => rfl
  | [], x :: r', _, _, h => by
    rw [tl_nil, tl_cons] at h
    simp at h
  | x :: r, [], _, _, h => by
    rw [tl_nil, tl_cons] at h
    simp at h
  | x :: r, y :: r', h1, h2, h => by
    rw [tl_cons, tl_cons] at h
    simp only [List.cons_append, List.cons.injEq, true_and, List.append_assoc] at h
    have head : ∀ (q : List (List UInt8)) (c : UInt8), (tl q ++ [59]).head? = some c → ¬ okC c := fun q c hc => by
      cases q with
      | nil =>
        rw [tl_nil] at hc
        simp at hc
        subst hc
        exact fun z => z.2.1 rfl
      | cons z q =>
        rw [tl_cons] at hc
        simp at hc
        subst hc
        exact fun z => z.1 rfl
    obtain ⟨e1, e2⟩ := split_at okC x y _ _ (h1 x List.mem_cons_self) (h2 y List.mem_cons_self) (head r) (head r') h
    rw [e1, tl_inj r r' (fun w hw => h1 w (List.mem_cons_of_mem _ hw)) (fun w hw => h2 w (List.mem_cons_of_mem _ hw)) e2]
def isD (c : UInt8) : Prop := 48 ≤ c.toNat ∧ c.toNat ≤ 57
theorem isD_of {k : Nat} (h : k < 10) : isD (UInt8.ofNat (48 + k)) := by
  unfold isD
  rw [UInt8.toNat_ofNat']
  omega
theorem isD_ok {c : UInt8} (h : isD c) : okC c := by
  unfold isD at h
  refine ⟨?_, ?_, ?_⟩ <;> (rintro rfl; simp at h)
theorem dd_isD (n : Nat) : ∀ c ∈ Lib.decDigits n, isD c := by
  induction n using Nat.strongRecOn with
  | _ n ih =>
    intro c hc
    rw [Lib.decDigits] at hc
    by_cases h : n < 10
    · rw [dif_pos h] at hc
      rw [List.mem_singleton.mp hc]; exact isD_of h
    · rw [dif_neg h] at hc
      rcases List.mem_append.mp hc with hc | hc
      · exact ih (n / 10) (by omega) c hc
      · rw [List.mem_singleton.mp hc]; exact isD_of (by omega)
theorem dd_ne (n : Nat) : Lib.decDigits n ≠ [] := by
  rw [Lib.decDigits]
  split
  · simp
  · simp
def valL (l : List UInt8) : Nat := l.foldl (fun v c => 10 * v + (c.toNat - 48)) 0
theorem val_dd (n : Nat) : valL (Lib.decDigits n) = n := by
  induction n using Nat.strongRecOn with
  | _ n ih =>
    rw [Lib.decDigits]
    by_cases h : n < 10
    · rw [dif_pos h]
      simp only [valL, List.foldl_cons, List.foldl_nil, UInt8.toNat_ofNat']
      omega
    · rw [dif_neg h]
      have := ih (n / 10) (by omega)
      unfold valL at this ⊢
      rw [List.foldl_append, this]
      simp only [List.foldl_cons, List.foldl_nil, UInt8.toNat_ofNat']
      omega
theorem it_isD {n : Int} (h : 0 ≤ n) : ∀ c ∈ Lib.itoa n, isD c := by
  obtain ⟨m, rfl⟩ := Int.eq_ofNat_of_zero_le h
  rw [itoa_nat]; exact dd_isD m
theorem it_ok {n : Int} (h : 0 ≤ n) : okW (Lib.itoa n) := fun c hc => isD_ok (it_isD h c hc)
theorem it_inj {n m : Int} (h : 0 ≤ n) (h' : 0 ≤ m) (e : Lib.itoa n = Lib.itoa m) : n = m := by
  obtain ⟨a, rfl⟩ := Int.eq_ofNat_of_zero_le h
  obtain ⟨b, rfl⟩ := Int.eq_ofNat_of_zero_le h'
  rw [itoa_nat, itoa_nat] at e
  have := congrArg valL e
  rw [val_dd, val_dd] at this
  rw [this]
theorem map_inj : ∀ (a b : List Int), (∀ x ∈ a, 0 ≤ x) → (∀ x ∈ b, 0 ≤ x) → a.map Lib.itoa = b.map Lib.itoa → a = b
  | [], [], _, _, _ => rfl
  | [], x :: b, _, _, h => by simp at h
  | x :: a, [], _, _, h => by simp at h
  | x :: a, y :: b, h1, h2, h => by
    simp only [List.map_cons, List.cons.injEq] at h
    rw [it_inj (h1 x List.mem_cons_self) (h2 y List.mem_cons_self) h.1, map_inj a b (fun z hz => h1 z (List.mem_cons_of_mem _ hz)) (fun z hz => h2 z (List.mem_cons_of_mem _ hz)) h.2]
theorem mem_ge (s : Nat) : ∀ (d i : Nat) (x : Int), x ∈ listFrom s d i → (i : Int) ≤ x
  | 0, i, x, h => by cases h
  | d + 1, i, x, h => by
    unfold listFrom at h
    split at h
    · rcases List.mem_cons.mp h with rfl | h
      · omega
      · have := mem_ge s d (i + 1) x h; omega
    · have := mem_ge s d (i + 1) x h; omega
theorem list_inj (a b : Nat) : ∀ (d i : Nat), listFrom a d i = listFrom b d i → ∀ j, i ≤ j → j < i + d → a.testBit j = b.testBit j
  | 0, i, _, j, h1, h2 => absurd h2 (by omega)
  | d + 1, i, h, j, h1, h2 => by
    unfold listFrom at h
    by_cases ha : a.testBit i = true
    · by_cases hb : b.testBit i = true
      · rw [if_pos ha, if_pos hb] at h
        by_cases q : j = i
        · rw [q, ha, hb]
        · exact list_inj a b d (i + 1) (List.cons.inj h).2 j (by omega) (by omega)
      · rw [if_pos ha, if_neg hb] at h
        have := mem_ge b d (i + 1) (i : Int) (by rw [← h]; exact List.mem_cons_self)
        omega
    · by_cases hb : b.testBit i = true
      · rw [if_neg ha, if_pos hb] at h
        have := mem_ge a d (i + 1) (i : Int) (by rw [h]; exact List.mem_cons_self)
        omega
      · rw [if_neg ha, if_neg hb] at h
        by_cases q : j = i
        · rw [q, Bool.eq_false_iff.mpr ha, Bool.eq_false_iff.mpr hb]
        · exact list_inj a b d (i + 1) h j (by omega) (by omega)
theorem bits_inj {a b : Nat} (ha : a < 18446744073709551616) (hb : b < 18446744073709551616) (h : listFrom a 64 0 = listFrom b 64 0) : a = b := by
  refine Nat.eq_of_testBit_eq (fun j => ?_)
  by_cases hj : j < 64
  · exact list_inj a b 64 0 h j (by omega) (by omega)
  · have hp : 18446744073709551616 ≤ 2 ^ j := Nat.pow_le_pow_right (n := 2) (i := 64) (by decide) (by omega)
    rw [Nat.testBit_lt_two_pow (Nat.lt_of_lt_of_le ha hp), Nat.testBit_lt_two_pow (Nat.lt_of_lt_of_le hb hp)]
def numW (w : List UInt8) : Prop := ∃ c r, w = c :: r ∧ isD c
theorem it_num {n : Int} (h : 0 ≤ n) : numW (Lib.itoa n) := by
  have hd := it_isD h
  obtain ⟨m, rfl⟩ := Int.eq_ofNat_of_zero_le h
  rw [itoa_nat] at hd ⊢
  cases hz : Lib.decDigits m with
  | nil => exact absurd hz (dd_ne m)
  | cons c r => exact ⟨c, r, rfl, hd c (by rw [hz]; exact List.mem_cons_self)⟩
theorem map_num {l : List Int} (h : ∀ x ∈ l, 0 ≤ x) : ∀ w ∈ l.map Lib.itoa, numW w := by
  intro w hw
  obtain ⟨x, hx, rfl⟩ := List.mem_map.mp hw
  exact it_num (h x hx)
theorem not_num_ecb : ¬ numW wEcb := by
  rintro ⟨c, r, e, h⟩
  injection e with e1 e2
  subst e1
  exact absurd h (by unfold isD; decide)
theorem not_num_ucb : ¬ numW wUcb := by
  rintro ⟨c, r, e, h⟩
  injection e with e1 e2
  subst e1
  exact absurd h (by unfold isD; decide)
theorem set_head {w : List UInt8} (x : Nat) (y : List UInt8) (h : (setL w x).head? = some y) : y = w := by
  unfold setL at h
  split at h
  · cases h
  · simpa using h.symm
theorem ucb_inj {u u' : Nat} (hu : u < 18446744073709551616) (hu' : u' < 18446744073709551616) (h : setL wUcb u = setL wUcb u') : u = u' := by
  unfold setL at h
  by_cases a : u = 0
  · by_cases b : u' = 0
    · rw [a, b]
    · rw [if_pos a, if_neg b] at h; cases h
  · by_cases b : u' = 0
    · rw [if_neg a, if_pos b] at h; cases h
    · rw [if_neg a, if_neg b] at h
      have e := (List.cons.inj h).2
      exact bits_inj hu hu' (map_inj _ _ (fun x hx => (mem_list u 64 0 x hx).1) (fun x hx => (mem_list u' 64 0 x hx).1) e)
theorem sets_inj {e u e' u' : Nat} (he : e < 18446744073709551616) (he' : e' < 18446744073709551616) (hu : u < 18446744073709551616) (hu' : u' < 18446744073709551616) (h : setL wEcb e ++ setL wUcb u = setL wEcb e' ++ setL wUcb u') : e = e' ∧ u = u' := by
  have eq0 : ∀ {x y z : Nat}, z ≠ 0 → setL wUcb x ≠ setL wEcb z ++ setL wUcb y := fun {x y z} hz q => by
    unfold setL at q
    rw [if_neg hz] at q
    by_cases a : x = 0
    · rw [if_pos a] at q; cases q
    · rw [if_neg a] at q
      exact absurd (List.cons.inj q).1 (by decide)
  by_cases a : e = 0
  · by_cases b : e' = 0
    · subst a; subst b
      exact ⟨rfl, ucb_inj hu hu' h⟩
    · subst a
      exact absurd h (eq0 b)
  · by_cases b : e' = 0
    · subst b
      exact absurd h.symm (eq0 a)
    · have x1 : setL wEcb e = wEcb :: (listFrom e 64 0).map Lib.itoa := by unfold setL; rw [if_neg a]
      have x2 : setL wEcb e' = wEcb :: (listFrom e' 64 0).map Lib.itoa := by unfold setL; rw [if_neg b]
      rw [x1, x2, List.cons_append, List.cons_append] at h
      have h' := (List.cons.inj h).2
      obtain ⟨m1, m2⟩ := split_at numW _ _ _ _ (map_num (fun x hx => (mem_list e 64 0 x hx).1)) (map_num (fun x hx => (mem_list e' 64 0 x hx).1)) (fun y hy => by rw [set_head u y hy]; exact not_num_ucb) (fun y hy => by rw [set_head u' y hy]; exact not_num_ucb) h'
      exact ⟨bits_inj he he' (map_inj _ _ (fun x hx => (mem_list e 64 0 x hx).1) (fun x hx => (mem_list e' 64 0 x hx).1) m1), ucb_inj hu hu' m2⟩
theorem rest_head (e u : Nat) (y : List UInt8) (h : (setL wEcb e ++ setL wUcb u).head? = some y) : ¬ numW y := by
  by_cases a : e = 0
  · rw [show setL wEcb e = [] by unfold setL; rw [if_pos a], List.nil_append] at h
    rw [set_head u y h]; exact not_num_ucb
  · rw [show setL wEcb e = wEcb :: (listFrom e 64 0).map Lib.itoa by unfold setL; rw [if_neg a]] at h
    simp at h
    rw [← h]; exact not_num_ecb
def TT (x : Tk) : Prop := TB x ∧ RefSetN.NameB x.f0 ∧ ((x.f3 = 0 ∧ x.f4 = 0 ∧ x.f5 = 0) ∨ (x.f3 = 1 ∧ 0 ≤ x.f4 ∧ x.f5 = 0) ∨ (x.f3 = 2 ∧ x.f4 = 0 ∧ 0 ≤ x.f5))
def modeW (x : Tk) : List (List UInt8) := if x.f3 = 1 then [wFloat, Lib.itoa x.f4] else if x.f3 = 2 then [wThresh, Lib.itoa x.f5] else [wFixed]
def wordsL (x : Tk) : List (List UInt8) := [x.f0.data.toList, wPeriod, Lib.itoa x.f1, wDeadline, Lib.itoa x.f2] ++ (modeW x ++ (wRegions :: restL x))
theorem words_eq (x : Tk) : taskL x = wTask ++ (tl (wordsL x) ++ [59]) := by
  have hm : tl (modeW x) = tl [modeL x] := by
    unfold modeW modeL
    by_cases c1 : x.f3 = 1
    · rw [if_pos c1, if_pos c1]; simp [tl]
    · rw [if_neg c1, if_neg c1]
      by_cases c2 : x.f3 = 2
      · rw [if_pos c2, if_pos c2]; simp [tl]
      · rw [if_neg c2, if_neg c2]
  have hh : tl (headL x) = tl [x.f0.data.toList, wPeriod, Lib.itoa x.f1, wDeadline, Lib.itoa x.f2] ++ tl [modeL x] := by
    rw [← tl_app]; rfl
  unfold taskL wordsL
  rw [hh, ← hm, show wRegions :: restL x = [wRegions] ++ restL x from rfl]
  simp only [tl_app, List.append_assoc]
theorem name_ok {s : ByteArray} (h : RefSetN.NameB s) : okW s.data.toList := by
  intro c hc
  obtain ⟨j, hj, rfl⟩ := List.getElem_of_mem hc
  have hjs : j < s.size := by rw [← size_of]; exact hj
  have := h.2 j hjs
  have e : bt s (j : Int) = ((s.data.toList[j]).toNat : Int) := by
    unfold bt
    rw [dif_pos (show (j : Int).toNat < s.size by rw [Int.toNat_natCast]; exact hjs)]
    rfl
  rw [e] at this
  generalize s.data.toList[j] = c at this
  unfold RefSetN.okB at this
  refine ⟨?_, ?_, ?_⟩ <;> (rintro rfl; simp at this)
theorem w_ok : okW wPeriod ∧ okW wDeadline ∧ okW wRegions ∧ okW wFixed ∧ okW wFloat ∧ okW wThresh ∧ okW wEcb ∧ okW wUcb := by
  refine ⟨?_, ?_, ?_, ?_, ?_, ?_, ?_, ?_⟩ <;>
    (intro c hc
     simp only [wPeriod, wDeadline, wRegions, wFixed, wFloat, wThresh, wEcb, wUcb, List.mem_cons, List.not_mem_nil, or_false] at hc
     rcases hc with rfl | rfl | rfl | rfl | rfl | rfl | rfl | rfl <;> (unfold okC; decide) )
theorem setL_ok {w : List UInt8} (hw : okW w) (x : Nat) : ∀ y ∈ setL w x, okW y := by
  intro y hy
  unfold setL at hy
  split at hy
  · cases hy
  · rcases List.mem_cons.mp hy with rfl | hy
    · exact hw
    · obtain ⟨z, hz, rfl⟩ := List.mem_map.mp hy
      exact it_ok (mem_list x 64 0 z hz).1
theorem words_ok {x : Tk} (h : TT x) : ∀ y ∈ wordsL x, okW y := by
  obtain ⟨k1, k2, k3, k4, k5, k6, k7, k8⟩ := w_ok
  obtain ⟨hb, hn, hm⟩ := h
  intro y hy
  simp only [wordsL, restL, List.mem_append, List.mem_cons, List.not_mem_nil, or_false] at hy
  rcases hy with (rfl | rfl | rfl | rfl | rfl) | hy | rfl | (hy | hy) | hy
  · exact name_ok hn
  · exact k1
  · exact it_ok hb.2.1.1
  · exact k2
  · exact it_ok hb.2.2.1.1
  · unfold modeW at hy
    rcases hm with hm | hm | hm
    · rw [hm.1, if_neg (by decide), if_neg (by decide)] at hy
      rw [List.mem_singleton.mp hy]; exact k4
    · rw [if_pos hm.1] at hy
      simp only [List.mem_cons, List.not_mem_nil, or_false] at hy
      rcases hy with rfl | rfl
      · exact k5
      · exact it_ok hm.2.1
    · rw [hm.1, if_neg (by decide), if_pos rfl] at hy
      simp only [List.mem_cons, List.not_mem_nil, or_false] at hy
      rcases hy with rfl | rfl
      · exact k6
      · exact it_ok hm.2.2
  · exact k3
  · obtain ⟨r, hr, rfl⟩ := List.mem_map.mp hy
    exact it_ok (by have := hb.2.2.2.2.2.1 r hr; omega)
  · exact setL_ok k7 _ y hy
  · exact setL_ok k8 _ y hy
theorem mode_tells {x y : Tk} (hx : TT x) (hy : TT y) {s s' : List (List UInt8)} (h : modeW x ++ (wRegions :: s) = modeW y ++ (wRegions :: s')) : x.f3 = y.f3 ∧ x.f4 = y.f4 ∧ x.f5 = y.f5 ∧ s = s' := by
  have mx := hx.2.2
  have my := hy.2.2
  unfold modeW at h
  rcases mx with mx | mx | mx <;> rcases my with my | my | my
  · rw [mx.1, my.1] at h
    simp only [if_neg (show ¬ (0 : Int) = 1 by decide), if_neg (show ¬ (0 : Int) = 2 by decide), List.cons_append, List.nil_append, List.cons.injEq, true_and] at h
    exact ⟨by omega, by omega, by omega, h⟩
  · rw [mx.1, my.1] at h
    simp only [if_neg (show ¬ (0 : Int) = 1 by decide), if_neg (show ¬ (0 : Int) = 2 by decide), if_pos, List.cons_append, List.nil_append, List.cons.injEq] at h
    exact absurd h.1 (by decide)
  · rw [mx.1, my.1] at h
    simp only [if_neg (show ¬ (0 : Int) = 1 by decide), if_neg (show ¬ (0 : Int) = 2 by decide), if_neg (show ¬ (2 : Int) = 1 by decide), if_pos, List.cons_append, List.nil_append, List.cons.injEq] at h
    exact absurd h.1 (by decide)
  · rw [mx.1, my.1] at h
    simp only [if_neg (show ¬ (0 : Int) = 1 by decide), if_neg (show ¬ (0 : Int) = 2 by decide), if_pos, List.cons_append, List.nil_append, List.cons.injEq] at h
    exact absurd h.1 (by decide)
  · rw [mx.1, my.1] at h
    simp only [if_pos, List.cons_append, List.nil_append, List.cons.injEq, true_and] at h
    exact ⟨by omega, it_inj mx.2.1 my.2.1 h.1, by omega, h.2⟩
  · rw [mx.1, my.1] at h
    simp only [if_neg (show ¬ (2 : Int) = 1 by decide), if_pos, List.cons_append, List.nil_append, List.cons.injEq] at h
    exact absurd h.1 (by decide)
  · rw [mx.1, my.1] at h
    simp only [if_neg (show ¬ (0 : Int) = 1 by decide), if_neg (show ¬ (0 : Int) = 2 by decide), if_neg (show ¬ (2 : Int) = 1 by decide), if_pos, List.cons_append, List.nil_append, List.cons.injEq] at h
    exact absurd h.1 (by decide)
  · rw [mx.1, my.1] at h
    simp only [if_neg (show ¬ (2 : Int) = 1 by decide), if_pos, List.cons_append, List.nil_append, List.cons.injEq] at h
    exact absurd h.1 (by decide)
  · rw [mx.1, my.1] at h
    simp only [if_neg (show ¬ (2 : Int) = 1 by decide), if_pos, List.cons_append, List.nil_append, List.cons.injEq, true_and] at h
    exact ⟨by omega, by omega, it_inj mx.2.2 my.2.2 h.1, h.2⟩
theorem task_tells {x y : Tk} (hx : TT x) (hy : TT y) (h : taskL x = taskL y) : x = y := by
  rw [words_eq, words_eq] at h
  have hw := tl_inj _ _ (words_ok hx) (words_ok hy) (List.append_cancel_left h)
  unfold wordsL at hw
  simp only [List.cons_append, List.nil_append, List.cons.injEq, true_and] at hw
  obtain ⟨h0, h1, h2, h3⟩ := hw
  have bx := hx.1
  have by_ := hy.1
  have e1 := it_inj bx.2.1.1 by_.2.1.1 h1
  have e2 := it_inj bx.2.2.1.1 by_.2.2.1.1 h2
  obtain ⟨e3, e4, e5, h4⟩ := mode_tells hx hy h3
  unfold restL at h4
  rw [List.append_assoc, List.append_assoc] at h4
  have px := bx.2.2.2.2.2.1
  have py := by_.2.2.2.2.2.1
  obtain ⟨h6, h7⟩ := split_at numW _ _ _ _ (map_num (fun r hr => by have := px r hr; omega)) (map_num (fun r hr => by have := py r hr; omega)) (rest_head _ _) (rest_head _ _) h4
  have e6 := map_inj _ _ (fun r hr => by have := px r hr; omega) (fun r hr => by have := py r hr; omega) h6
  have ux := bx.2.2.2.2.2.2
  have uy := by_.2.2.2.2.2.2
  obtain ⟨e7, e8⟩ := sets_inj (by omega) (by omega) (by omega) (by omega) h7
  have e0 : x.f0 = y.f0 := ByteArray.ext (Array.toList_inj.mp h0)
  have e7' : x.f7 = y.f7 := by omega
  have e8' : x.f8 = y.f8 := by omega
  cases x
  cases y
  simp only at e0 e1 e2 e3 e4 e5 e6 e7' e8'
  subst e0; subst e1; subst e2; subst e3; subst e4; subst e5; subst e6; subst e7'; subst e8'
  rfl
theorem task_line {x : Tk} (h : TT x) : ∀ c ∈ taskL x, c ≠ 10 := by
  intro c hc
  rw [words_eq] at hc
  rcases List.mem_append.mp hc with hc | hc
  · simp only [wTask, List.mem_cons, List.not_mem_nil, or_false] at hc
    rcases hc with rfl | rfl | rfl | rfl <;> decide
  · rcases List.mem_append.mp hc with hc | hc
    · simp only [tl, List.mem_flatten, List.mem_map] at hc
      obtain ⟨l, ⟨w, hw, rfl⟩, hc⟩ := hc
      rcases List.mem_append.mp hc with hc | hc
      · rw [List.mem_singleton.mp hc]; decide
      · exact (words_ok h w hw c hc).2.2
    · rw [List.mem_singleton.mp hc]; decide
theorem lines_tell : ∀ (l l' : List Tk), (∀ x ∈ l, TT x) → (∀ x ∈ l', TT x) → linesL l = linesL l' → l = l'
  | [], [], _, _, _ => rfl
  | [], y :: l', _, _, h => by
    rw [lines_cons] at h
    simp [linesL] at h
  | x :: l, [], _, _, h => by
    rw [lines_cons] at h
    simp [linesL] at h
  | x :: l, y :: l', hx, hy, h => by
    rw [lines_cons, lines_cons, List.append_assoc, List.append_assoc] at h
    obtain ⟨e1, e2⟩ := split_at (fun c : UInt8 => c ≠ 10) _ _ _ _ (task_line (hx x List.mem_cons_self)) (task_line (hy y List.mem_cons_self)) (fun c hc => by
      simp at hc
      intro q
      exact q hc.symm) (fun c hc => by
      simp at hc
      intro q
      exact q hc.symm) h
    simp only [List.singleton_append, List.cons.injEq, true_and] at e2
    rw [task_tells (hx x List.mem_cons_self) (hy y List.mem_cons_self) e1, lines_tell l l' (fun z hz => hx z (List.mem_cons_of_mem _ hz)) (fun z hz => hy z (List.mem_cons_of_mem _ hz)) e2]
theorem text_tells {r r' : Int} {l l' : List Tk} (hr : 0 ≤ r) (hr' : 0 ≤ r') (hl : ∀ x ∈ l, TT x) (hl' : ∀ x ∈ l', TT x) (h : textL r l = textL r' l') : r = r' ∧ l = l' := by
  unfold textL at h
  rw [List.append_assoc, List.append_assoc, List.append_assoc, List.append_assoc] at h
  obtain ⟨e1, e2⟩ := split_at isD _ _ _ _ (it_isD hr) (it_isD hr') (fun c hc => by
      simp at hc
      rw [← hc]; unfold isD; decide) (fun c hc => by
      simp at hc
      rw [← hc]; unfold isD; decide) (List.append_cancel_left h)
  have e3 : linesL l = linesL l' := by simpa using e2
  exact ⟨it_inj hr hr' e1, lines_tell l l' hl hl' e3⟩
theorem tt_of {r : Int} {l : List Tk} (h : RefSetN.SetOK r l) (hu : ∀ y ∈ l, (0 ≤ y.f7 ∧ y.f7 < 18446744073709551616) ∧ (0 ≤ y.f8 ∧ y.f8 < 18446744073709551616)) : ∀ x ∈ l, TT x := by
  intro x hx
  obtain ⟨i, hi, e⟩ := List.getElem_of_mem hx
  have hb := tb_of h hu i hi
  have ht := h.2.2.2.2 (i : Int) (by omega) (by omega)
  have ex : rdT l (i : Int) = x := by
    unfold rdT rd_T30
    rw [Int.toNat_natCast, List.getD_eq_getElem?_getD, List.getElem?_eq_getElem hi]
    exact e
  rw [ex] at hb
  have ht' : RefSetN.TaskOK x (i : Int) := by rw [← ex]; exact ht
  obtain ⟨hN, _, _, _, _, _, _, _, h9⟩ := ht'
  refine ⟨hb, hN, ?_⟩
  rcases h9 with h9 | h9 | h9
  · exact Or.inl h9
  · exact Or.inr (Or.inl ⟨h9.1, h9.2.1, h9.2.2.2⟩)
  · exact Or.inr (Or.inr ⟨h9.1, h9.2.1, h9.2.2.1⟩)
end Go.Proofs.YtkdndgclldlddaaDoor.Pure
namespace Go.Proofs.YtkdndgclldlddaaDoor.Open
open Go.RowKit Go.Proofs.YtkdndgclldlddaaDoorW.PrintWords Go.Proofs.YtkdndgclldlddaaDoorW.PrintLast Go.WideShapes
set_option linter.unusedVariables false
structure Opens (P : Program) {α : Type} (k : Kd α) (t : TypeId) (W : α → Prop) : Prop where
  out : ∀ {H : Type} {enc : TypeId × Value → H} {w : World} {base : Nat} {spare : Nat → Bool} {held : Bool} {fuel : Nat} {cs : List Value} {x : DataW H × List MemPlace},
    DataW.trod enc P w base spare held fuel t cs = some x → ∃ a : α, k.K w a cs ∧ W a
theorem opens_int {P : Program} {t : TypeId} {k : IntKind} (ht : P.underlying t = some (.int k)) : Opens P (Kd.int k) t (fun n => (Lit.int k n).wf = true) := by
  refine ⟨fun {H enc w base spare held fuel cs x} h => ?_⟩
  obtain ⟨n, rfl, _, hw⟩ := DataW.trod_int ht h
  exact ⟨n, rfl, hw⟩
theorem opens_string {P : Program} {t : TypeId} (ht : P.underlying t = some .string) : Opens P Kd.string t (fun s => s.size ≤ maxLen) := by
  refine ⟨fun {H enc w base spare held fuel cs x} h => ?_⟩
  obtain ⟨s, rfl, _, hs⟩ := DataW.trod_string ht h
  exact ⟨s, rfl, hs⟩
theorem addr_add (a : Addr) (i j : Nat) : (a.add i).add j = a.add (i + j) := Go.Deep.add_add a i j
theorem opens_slice {P : Program} {α : Type} [Inhabited α] {d : Kd α} {t e : TypeId} {W : α → Prop} (ht : P.underlying t = some (.slice e)) (hs : P.cellsOf e = d.sz) (hd : Opens P d e W) :
    Opens P (Kd.slice e d) t (fun xs => ∀ x ∈ xs, W x) := by
  refine ⟨fun {H enc w base spare held fuel cs x} h => ?_⟩
  rcases Go.Deep.open_slice ht h with ⟨rfl, _⟩ | ⟨a, len, cap, m, n, D, Pl, rfl, hb, hl, hc, hm, _, hel⟩
  · exact ⟨[], ⟨none, 0, rfl, Nat.le_refl _, rfl, Nat.zero_le _, fun h => absurd h (Nat.lt_irrefl _)⟩, fun x hx => absurd hx (List.not_mem_nil)⟩
  · have hlm : len ≤ m := by rw [hm]; split <;> omega
    have each : ∀ i, i < len → ∃ y : α, (∃ cs', w.cells? base (a.add (i * P.cellsOf e)) (P.cellsOf e) = some cs' ∧ d.K w y cs') ∧ W y := fun i hi => by
      obtain ⟨cs', h1, h2⟩ := hel i (by omega)
      obtain ⟨y, hy, hw⟩ := hd.out h2
      exact ⟨y, ⟨cs', h1, hy⟩, hw⟩
    obtain ⟨f, hf⟩ := Go.Deep.choose_lt each
    have hlen : ((List.range len).map f).length = len := by simp
    refine ⟨(List.range len).map f, ⟨some a, cap, by rw [hlen], by rw [hlen]; exact hl, rfl, ?_, ?_⟩, ?_⟩
    · rw [hlen]; unfold maxLen at hc; omega
    · intro _
      refine ⟨a, rfl, fun j p hp => ?_⟩
      obtain ⟨hj, rfl⟩ := List.getElem?_eq_some_iff.1 hp
      rw [hlen] at hj
      obtain ⟨⟨cs', h1, h2⟩, _⟩ := hf j hj
      obtain ⟨_, h4, h5⟩ := World.cells?_some h1
      refine ⟨cs', by rw [h4, hs], by simpa using h2, fun i u hu => ?_⟩
      have hi : i < cs'.length := by
        by_cases q : i < cs'.length
        · exact q
        · rw [List.getElem?_eq_none (by omega)] at hu; cases hu
      have := h5 i (by omega)
      rw [addr_add, hs] at this
      rw [this]; exact hu
    · intro x hx
      obtain ⟨i, hi, rfl⟩ := List.mem_map.1 hx
      exact (hf i (List.mem_range.1 hi)).2
structure OpensFrom (P : Program) (fs : Array Field) (i : Nat) (off : Nat) {α : Type} (k : Kd α) (W : α → Prop) : Prop where
  out : ∀ {H : Type} {enc : TypeId × Value → H} {w : World} {base : Nat} {spare : Nat → Bool} {held : Bool} {n : Nat} {cs : List Value} {xs : List (DataW H × List MemPlace)},
    xs.length = fs.size → cs.length = off + k.sz →
    (∀ (j : Nat) (f : Field), fs[j]? = some f → DataW.trod enc P w base spare held n f.type ((cs.drop f.offset).take (P.cellsOf f.type)) = xs[j]?) → ∃ a : α, k.K w a (cs.drop off) ∧ W a
theorem opensFrom_last {P : Program} {fs : Array Field} {i off : Nat} {α : Type} {k : Kd α} {W : α → Prop} (f : Field) (hf : fs[i]? = some f) (ho : f.offset = off) (hs : P.cellsOf f.type = k.sz) (hd : Opens P k f.type W) : OpensFrom P fs i off k W := by
  refine ⟨fun {H enc w base spare held n cs xs} hx hl h => ?_⟩
  have hi : i < xs.length := by
    rw [hx]
    by_cases q : i < fs.size
    · exact q
    · rw [Array.getElem?_eq_none (by omega)] at hf; cases hf
  have h1 := h i f hf
  rw [List.getElem?_eq_getElem hi, ho, hs, List.take_of_length_le (by simp; omega)] at h1
  exact hd.out h1
theorem opensFrom_cons {P : Program} {fs : Array Field} {i off : Nat} {α β : Type} {k : Kd α} {l : Kd β} {W : α → Prop} {V : β → Prop} (f : Field) (hf : fs[i]? = some f) (ho : f.offset = off) (hs : P.cellsOf f.type = k.sz)
    (hd : Opens P k f.type W) (hr : OpensFrom P fs (i + 1) (off + k.sz) l V) : OpensFrom P fs i off (Kd.pair k l) (fun x => W x.1 ∧ V x.2) := by
  refine ⟨fun {H enc w base spare held n cs xs} hx hl h => ?_⟩
  have hi : i < xs.length := by
    rw [hx]
    by_cases q : i < fs.size
    · exact q
    · rw [Array.getElem?_eq_none (by omega)] at hf; cases hf
  have hl' : cs.length = off + (k.sz + l.sz) := hl
  have h1 := h i f hf
  rw [List.getElem?_eq_getElem hi, ho, hs] at h1
  obtain ⟨a, ka, wa⟩ := hd.out h1
  obtain ⟨b, kb, wb⟩ := hr.out hx (by omega) h
  refine ⟨(a, b), ⟨_, _, ?_, ka, kb⟩, wa, wb⟩
  rw [← List.drop_drop, List.take_append_drop]
theorem opens_struct {P : Program} {t : TypeId} {fs : Array Field} {α β : Type} {k : Kd α} {g : β → α} {W : α → Prop} {V : β → Prop} (ht : P.underlying t = some (.struct fs)) (hs : P.cellsOf t = k.sz) (hd : OpensFrom P fs 0 0 k W)
    (inv : α → β) (hg : ∀ a, g (inv a) = a) (hW : ∀ a, W a → V (inv a)) : Opens P (Kd.iso k g) t V := by
  refine ⟨fun {H enc w base spare held fuel cs x} h => ?_⟩
  obtain ⟨xs, n, _, _, hl, hx, hall⟩ := DataW.trod_struct ht h
  obtain ⟨a, ka, wa⟩ := hd.out hx (by rw [hl, hs]; omega) hall
  exact ⟨inv a, by show k.K w (g (inv a)) cs; rw [hg]; simpa using ka, hW a wa⟩
theorem arg_struct {P : Program} {H : Type} {enc : TypeId × Value → H} {w : World} {base : Nat} {spare : Nat → Bool} {held : Bool} {α : Type} {d : Kd α} {t : TypeId} {fs : Array Field} {W : α → Prop} {v : Value} {x : DataW H} {ps : List MemPlace} {r : Reach} {b0 : Nat}
    (ht : P.underlying t = some (.struct fs)) (hv : Value.okWide P w r b0 t v) (ho : Opens P d t W) (h : DataW.Trod enc P w base spare held t v x ps) :
    ∃ (a : α) (cs : List Value), v = .agg cs.toArray ∧ d.K w a cs ∧ W a := by
  obtain ⟨fuel, hf⟩ := h
  obtain ⟨cs, rfl, _⟩ := okWide_struct ht hv
  obtain ⟨a, ha, hw⟩ := ho.out hf
  exact ⟨a, cs.toList, by simp, ha, hw⟩
end Go.Proofs.YtkdndgclldlddaaDoor.Open
namespace Go.Proofs.YtkdndgclldlddaaDoor.QSu
open Go.RowKit Go.Proofs.YtkdndgclldlddaaDoorW.PrintWords Go.Proofs.YtkdndgclldlddaaDoorW.PrintLast Go.Proofs.YtkdndgclldlddaaDoor.Open
set_option linter.unusedVariables false
instance : Inhabited S30 := ⟨z30⟩
def wf30 (x : S30) : Prop := ((x.f0).size ≤ maxLen) ∧ ((Lit.int .i64 x.f1).wf = true) ∧ ((Lit.int .i64 x.f2).wf = true) ∧ ((Lit.int .i64 x.f3).wf = true) ∧ ((Lit.int .i64 x.f4).wf = true) ∧ ((Lit.int .i64 x.f5).wf = true) ∧ (∀ y ∈ x.f6, (Lit.int .i64 y).wf = true) ∧ ((Lit.int .u64 x.f7).wf = true) ∧ ((Lit.int .u64 x.f8).wf = true)
theorem opens30 : Opens Tryd.prog k30 30 wf30 :=
  opens_struct Tryd.underlying30 (by kernel_rfl) (opensFrom_cons _ rfl rfl (by kernel_rfl) (opens_string Tryd.underlying9) (opensFrom_cons _ rfl rfl (by kernel_rfl) (opens_int Tryd.underlying2) (opensFrom_cons _ rfl rfl (by kernel_rfl) (opens_int Tryd.underlying2) (opensFrom_cons _ rfl rfl (by kernel_rfl) (opens_int Tryd.underlying3) (opensFrom_cons _ rfl rfl (by kernel_rfl) (opens_int Tryd.underlying2) (opensFrom_cons _ rfl rfl (by kernel_rfl) (opens_int Tryd.underlying3) (opensFrom_cons _ rfl rfl (by kernel_rfl) (opens_slice Tryd.underlying27 (by kernel_rfl) (opens_int Tryd.underlying2)) (opensFrom_cons _ rfl rfl (by kernel_rfl) (opens_int Tryd.underlying28) (opensFrom_last _ rfl rfl (by kernel_rfl) (opens_int Tryd.underlying28)))))))))) (fun a => ⟨a.1, a.2.1, a.2.2.1, a.2.2.2.1, a.2.2.2.2.1, a.2.2.2.2.2.1, a.2.2.2.2.2.2.1, a.2.2.2.2.2.2.2.1, a.2.2.2.2.2.2.2.2⟩) (fun _ => rfl) (fun _ h => h)
structure S24 where
  f0 : Int
  f1 : (List S30)
def z24 : S24 := ⟨0, []⟩
def k24 : Kd S24 := Kd.iso (Kd.pair (Kd.int .i64) (Kd.slice 30 k30)) (fun x : S24 => (x.f0, x.f1))
theorem k24_open {w : World} {x : S24} {cs : List Value} (h : k24.K w x cs) : ∃ A1 c1, cs = [.int .i64 x.f0, .slice A1 x.f1.length c1] ∧ x.f1.length ≤ c1 ∧ Kd.C k30 w A1 x.f1.length x.f1 := by
  obtain ⟨_, _, rfl, rfl, ⟨A1, c1, rfl, l1, g1⟩⟩ := h
  exact ⟨A1, c1, rfl, l1, g1⟩
instance : Inhabited S24 := ⟨z24⟩
def wf24 (x : S24) : Prop := ((Lit.int .i64 x.f0).wf = true) ∧ (∀ y ∈ x.f1, wf30 y)
theorem opens24 : Opens Tryd.prog k24 24 wf24 :=
  opens_struct Tryd.underlying24 (by kernel_rfl) (opensFrom_cons _ rfl rfl (by kernel_rfl) (opens_int Tryd.underlying2) (opensFrom_last _ rfl rfl (by kernel_rfl) (opens_slice Tryd.underlying22 (by kernel_rfl) opens30))) (fun a => ⟨a.1, a.2⟩) (fun _ => rfl) (fun _ h => h)
end Go.Proofs.YtkdndgclldlddaaDoor.QSu
namespace Go.Proofs.YtkdndgclldlddaaDoor.Pure
open Go.RowKit Go.Proofs.YtkdndgclldlddaaDoor.QSu Go.Proofs.YtkdndgclldlddaaDoorW.PrintWords Go.Proofs.YtkdndgclldlddaaDoorW.PrintLast Go.Proofs.YtkdndgclldlddaaDoorW.PrintMore
set_option linter.unusedVariables false
set_option linter.unusedSimpArgs false
def tA : Tk := ⟨(⟨#[97]⟩ : ByteArray), 5, 5, 0, 0, 0, [2, 1], 0, 0⟩
theorem tA_ok : TB tA := by
  refine ⟨by decide, by decide, by decide, Or.inl rfl, by decide, ?_, by decide, by decide⟩
  intro r hr
  simp only [tA, List.mem_cons, List.not_mem_nil, or_false] at hr
  rcases hr with rfl | rfl <;> decide
theorem it_small {n : Nat} (h : n < 10) : Lib.itoa (n : Int) = [UInt8.ofNat (48 + n)] := by rw [itoa_nat, Lib.decDigits_one h]
theorem known7 : Ev (fun k => taskmasterlaw7_known.f k) true := by
  unfold taskmasterlaw7_known.f
  have ht := task_ev tA_ok
  have e : (B (taskL tA)) = B [116, 97, 115, 107, 32, 97, 32, 112, 101, 114, 105, 111, 100, 32, 53, 32, 100, 101, 97, 100, 108, 105, 110, 101, 32, 53, 32, 102, 105, 120, 101, 100, 32, 114, 101, 103, 105, 111, 110, 115, 32, 50, 32, 49, 59] := by
    have h5 : Lib.itoa 5 = [53] := it_small (n := 5) (by decide)
    have h2 : Lib.itoa 2 = [50] := it_small (n := 2) (by decide)
    have h1 : Lib.itoa 1 = [49] := it_small (n := 1) (by decide)
    have hl : taskL tA = [116, 97, 115, 107, 32, 97, 32, 112, 101, 114, 105, 111, 100, 32, 53, 32, 100, 101, 97, 100, 108, 105, 110, 101, 32, 53, 32, 102, 105, 120, 101, 100, 32, 114, 101, 103, 105, 111, 110, 115, 32, 50, 32, 49, 59] := by
      have hm : modeL tA = wFixed := by
        unfold modeL
        rw [if_neg (show ¬ tA.f3 = 1 by decide), if_neg (show ¬ tA.f3 = 2 by decide)]
      simp only [taskL, headL, restL, hm]
      simp only [tA, tl_cons, tl_nil, tl_app, h5, h2, h1, List.map_cons, List.map_nil, setL, Int.toNat_zero, if_pos, List.append_nil]
      rfl
    rw [hl]
  rw [e] at ht
  refine Ev.bind ht ?_
  show Ev (fun _ => some ((B _).toList == _)) true
  have e2 : (B [116, 97, 115, 107, 32, 97, 32, 112, 101, 114, 105, 111, 100, 32, 53, 32, 100, 101, 97, 100, 108, 105, 110, 101, 32, 53, 32, 102, 105, 120, 101, 100, 32, 114, 101, 103, 105, 111, 110, 115, 32, 50, 32, 49, 59]).toList = [116, 97, 115, 107, 32, 97, 32, 112, 101, 114, 105, 111, 100, 32, 53, 32, 100, 101, 97, 100, 108, 105, 110, 101, 32, 53, 32, 102, 105, 120, 101, 100, 32, 114, 101, 103, 105, 111, 110, 115, 32, 50, 32, 49, 59] := by decide +kernel
  rw [e2]
  exact Ev.now true
theorem u_of {x : S24} (w0 : wf24 x) : (∀ y ∈ x.f1, y.f0.size ≤ 9223372036854775807) ∧ ∀ y ∈ x.f1, (0 ≤ y.f7 ∧ y.f7 < 18446744073709551616) ∧ (0 ≤ y.f8 ∧ y.f8 < 18446744073709551616) := by
  refine ⟨fun y hy => (w0.2 y hy).1, fun y hy => ?_⟩
  obtain ⟨_, _, _, _, _, _, _, h7, h8⟩ := w0.2 y hy
  exact ⟨u64_in h7, u64_in h8⟩
def diffB (x y : Tk) : Bool := if x.f0.toList = y.f0.toList then if x.f1 = y.f1 then if x.f2 = y.f2 then if x.f3 = y.f3 then if x.f4 = y.f4 then if x.f5 = y.f5 then if x.f7 = y.f7 then if x.f8 = y.f8 then !decide (x.f6 = y.f6) else true else true else true else true else true else true else true else true
theorem diff_eq {x y : Tk} (hx : x.f6.length ≤ 1000) (hy : y.f6.length ≤ 1000) : ref5_differ.f x.f0 x.f1 x.f2 x.f3 x.f4 x.f5 x.f6 x.f7 x.f8 y.f0 y.f1 y.f2 y.f3 y.f4 y.f5 y.f6 y.f7 y.f8 = some (diffB x y) := by
  unfold ref5_differ.f diffB
  rw [if_pos ⟨hx, hy⟩]
theorem diff_self (x : Tk) : diffB x x = false := by
  unfold diffB
  simp
theorem diff_none {x y : Tk} (h : diffB x y = false) : x = y := by
  have hx := differ_false (show ref5_differ.f x.f0 x.f1 x.f2 x.f3 x.f4 x.f5 [] x.f7 x.f8 y.f0 y.f1 y.f2 y.f3 y.f4 y.f5 [] y.f7 y.f8 = some false by
    unfold ref5_differ.f
    rw [if_pos ⟨by simp, by simp⟩]
    unfold diffB at h
    split at h
    · split at h
      · split at h
        · split at h
          · split at h
            · split at h
              · split at h
                · split at h
                  · simp_all
                  · cases h
                · cases h
              · cases h
            · cases h
          · cases h
        · cases h
      · cases h
    · cases h)
  obtain ⟨e0, e1, e2, e3, e4, e5, e7, e8, _⟩ := hx
  have e6 : x.f6 = y.f6 := by
    unfold diffB at h
    rw [if_pos e0, if_pos e1, if_pos e2, if_pos e3, if_pos e4, if_pos e5, if_pos e7, if_pos e8] at h
    simpa using h
  have e0' : x.f0 = y.f0 := by
    rw [ByteArray.toList_eq, ByteArray.toList_eq] at e0
    exact ByteArray.ext (Array.toList_inj.mp e0)
  cases x
  cases y
  simp only at e0' e1 e2 e3 e4 e5 e6 e7 e8
  subst e0'; subst e1; subst e2; subst e3; subst e4; subst e5; subst e6; subst e7; subst e8
  rfl
theorem same_loop (r r' : Int) (l l' : List Tk) (hl : l.length ≤ 8) (e : l.length = l'.length) (h6 : ∀ x ∈ l, x.f6.length ≤ 1000) (h6' : ∀ x ∈ l', x.f6.length ≤ 1000) (d : Nat) : ∀ i : Nat, i + d = l.length → ∃ b, Ev (fun k => taskmasterref5_Same.l0 k (i : Int) r l r' l') b ∧ (b = true ↔ l.drop i = l'.drop i) := by
  induction d with
  | zero =>
    intro i hi
    refine ⟨true, Ev.step (fun k => by rw [taskmasterref5_Same.l0]) (evn (by omega) (Ev.now _)), ?_⟩
    rw [List.drop_eq_nil_of_le (by omega), List.drop_eq_nil_of_le (by omega)]
    simp
  | succ d ih =>
    intro i hi
    have h1 : i < l.length := by omega
    have h2 : i < l'.length := by omega
    have m1 : rdT l (i : Int) ∈ l := List.mem_of_mem_drop (i := i) (by rw [rdT_drop h1]; exact List.mem_cons_self)
    have m2 : rdT l' (i : Int) ∈ l' := List.mem_of_mem_drop (i := i) (by rw [rdT_drop h2]; exact List.mem_cons_self)
    have hd := diff_eq (h6 _ m1) (h6' _ m2)
    rw [rdT_drop h1, rdT_drop h2]
    cases hb : diffB (rdT l (i : Int)) (rdT l' (i : Int)) with
    | true =>
      rw [hb] at hd
      refine ⟨false, Ev.step (fun k => by rw [taskmasterref5_Same.l0]) (evp (by omega) (evp (by omega) (evp (by omega) (evb hd (evp rfl (Ev.now _)))))), ?_⟩
      refine ⟨fun z => (by cases z), fun z => ?_⟩
      have := (List.cons.inj z).1
      rw [this, diff_self] at hb
      cases hb
    | false =>
      rw [hb] at hd
      obtain ⟨b, eb, hb2⟩ := ih (i + 1) (by omega)
      refine ⟨b, Ev.step (fun k => by rw [taskmasterref5_Same.l0]) ?_, ?_⟩
      · refine evp (by omega) (evp (by omega) (evp (by omega) (evb hd ?_)))
        refine evn (by simp) ?_
        rw [wi (by omega)]; exact eb
      · rw [hb2, diff_none hb]
        simp
theorem same_ev (r r' : Int) (l l' : List Tk) (hl : l.length ≤ 8) (h6 : ∀ x ∈ l, x.f6.length ≤ 1000) (h6' : ∀ x ∈ l', x.f6.length ≤ 1000) : ∃ b, Ev (fun k => taskmasterref5_Same.f k r l r' l') b ∧ (b = true ↔ r = r' ∧ l = l') := by
  unfold taskmasterref5_Same.f
  have no : Ev (fun k => taskmasterref5_Same.j0 k true r l r' l') false := Ev.step (fun k => by rw [taskmasterref5_Same.j0, if_pos rfl]) (Ev.now false)
  by_cases c : r = r'
  · by_cases q : (l.length : Int) = (l'.length : Int)
    · obtain ⟨b, e, hb⟩ := same_loop r r' l l' hl (by omega) h6 h6' l.length 0 (by omega)
      refine ⟨b, evp c ?_, ?_⟩
      · rw [show ((l.length : Int) != (l'.length : Int)) = false by simpa using q]
        exact Ev.step (fun k => by rw [taskmasterref5_Same.j0, if_neg (by simp)]; rfl) e
      · rw [hb, List.drop_zero, List.drop_zero]
        exact ⟨fun z => ⟨c, z⟩, fun z => z.2⟩
    · refine ⟨false, evp c ?_, ⟨fun z => (by cases z), fun z => absurd (congrArg (fun m : List Tk => (m.length : Int)) z.2) q⟩⟩
      rw [show ((l.length : Int) != (l'.length : Int)) = true by simpa using q]
      exact no
  · exact ⟨false, evn c no, ⟨fun z => (by cases z), fun z => absurd z.1 c⟩⟩
theorem ShowUnlike (a0 : S24) (a1 : S24) (w0 : wf24 a0) (w1 : wf24 a1) : ∃ k : Nat, taskmasterlaw7_ShowUnlike.f k a0.f0 a0.f1 a1.f0 a1.f1 = some true := by
  refine Ev.rounds ?_
  unfold taskmasterlaw7_ShowUnlike.f
  have yes : Ev (fun k => taskmasterlaw7_ShowUnlike.j0 k true a0.f0 a0.f1 a1.f0 a1.f1) true := Ev.step (fun k => by rw [taskmasterlaw7_ShowUnlike.j0, if_pos rfl]) (Ev.now true)
  by_cases c0 : (a0.f1.length : Int) > 10
  · exact evp c0 yes
  refine evn c0 ?_
  by_cases c1 : (a1.f1.length : Int) > 10
  · exact evp c1 yes
  refine evn c1 ?_
  have hu := u_of w0
  have hu' := u_of w1
  obtain ⟨b, hb, hok⟩ := RefSetN.all_ends a0.f0 a0.f1 hu.1
  obtain ⟨b', hb', hok'⟩ := RefSetN.all_ends a1.f0 a1.f1 hu'.1
  refine Ev.bind hb ?_
  cases b with
  | false => exact evn (by simp) yes
  | true =>
    refine evp rfl (Ev.bind hb' ?_)
    cases b' with
    | false => exact yes
    | true =>
      have hs := hok rfl
      have hs' := hok' rfl
      have t := tt_of hs hu.2
      have t' := tt_of hs' hu'.2
      obtain ⟨b, eb, hb2⟩ := same_ev a0.f0 a1.f0 a0.f1 a1.f1 hs.2.2.2.1 (fun x hx => by have := (t x hx).1.2.2.2.2.1; omega) (fun x hx => by have := (t' x hx).1.2.2.2.2.1; omega)
      refine Ev.step (fun k => by rw [taskmasterlaw7_ShowUnlike.j0]) ?_
      refine evn (by simp) ?_
      refine Ev.bind (text_ev a0.f0 hs.1 hs.2.1 a0.f1 hs.2.2.2.1 (tb_of hs hu.2)) (Ev.bind (text_ev a1.f0 hs'.1 hs'.2.1 a1.f1 hs'.2.2.2.1 (tb_of hs' hu'.2)) (Ev.bind eb ?_))
      refine evp ?_ (Ev.bind known7 (Ev.now true))
      rw [ByteArray.toList_eq, ByteArray.toList_eq, B_data, B_data]
      by_cases q : a0.f0 = a1.f0 ∧ a0.f1 = a1.f1
      · rw [hb2.mpr q, q.1, q.2]
        simp
      · have hne : textL a0.f0 a0.f1 ≠ textL a1.f0 a1.f1 := fun z => q (text_tells hs.1 hs'.1 t t' z)
        rw [show (textL a0.f0 a0.f1 == textL a1.f0 a1.f1) = false by simpa using hne]
        cases b with
        | false => rfl
        | true => exact absurd (hb2.mp rfl) q
end Go.Proofs.YtkdndgclldlddaaDoor.Pure
namespace Go.Proofs.YtkdndgclldlddaaDoor.QSu
open Go.RowKit
set_option linter.unusedVariables false
abbrev laidL : List (String × DataW Unit) := [("math/bits.deBruijn32tab", Rows.laid_math_bits_deBruijn32tab), ("math/bits.deBruijn64tab", Rows.laid_math_bits_deBruijn64tab), ("internal/strconv.uint64pow10", Rows.laid_internal_strconv_uint64pow10)]
def tabZ : List Int := List.map Int.ofNat Lib.deBruijn64tab
theorem vars_tail {W : World} {x : String × DataW Unit} {r : List (String × DataW Unit)} {ps : List MemPlace} (h : DataW.LaidVars Tryd.prog W (x :: r) ps) : ∃ q, DataW.LaidVars Tryd.prog W r q := by
  obtain ⟨_, _, _, _, _, q, _, _, _, _, h2, _⟩ := h
  exact ⟨q, h2⟩
theorem tab_of_vars {W : World} {name : String} {k : IntKind} {zs : List Int} {rest : List (String × DataW Unit)} {ps : List MemPlace} {g : Nat} {t e : TypeId} {n : Nat}
    (hg : Tryd.prog.globalNamed name = some g) (hty : (Tryd.prog.globals[g]?).map (·.type) = some t) (ht : Tryd.prog.underlying t = some (.array n e)) (he : Tryd.prog.underlying e = some (.int k)) (hce : Tryd.prog.cellsOf e = 1) (hct : Tryd.prog.cellsOf t = n)
    (h : DataW.LaidVars Tryd.prog W ((name, Lib.tabData k zs) :: rest) ps) : Lib.TabIs Tryd.prog W name k zs := by
  obtain ⟨g', t', cs, fuel, p, q, hg', ht', hvar, hd, _, _⟩ := h
  obtain rfl := Option.some.inj (hg.symm.trans hg')
  obtain rfl := Option.some.inj (hty.symm.trans ht')
  unfold Lib.TabIs
  rw [hvar, ← Lib.cells_of_tab ht he hce hct hd]
theorem laid_eq : (laidL : List (String × DataW Unit)) = [("math/bits.deBruijn32tab", Rows.laid_math_bits_deBruijn32tab), ("math/bits.deBruijn64tab", Lib.tabData .u8 tabZ), ("internal/strconv.uint64pow10", Lib.tabData .u64 Lib.pow10Tab)] := by rfl
theorem gTab : Tryd.prog.globalNamed "math/bits.deBruijn64tab" = some 0 := by kernel_rfl
theorem tTab : (Tryd.prog.globals[0]?).map (·.type) = some 118 := by kernel_rfl
theorem tPow : (Tryd.prog.globals[2]?).map (·.type) = some 130 := by kernel_rfl
theorem tab_of_laid {W : World} (h : laidMetH Tryd.prog laidL W) : TabW W := by
  rw [MakeChecks.laidMetH_plain _ _ _ (by kernel_rfl), laid_eq] at h
  obtain ⟨ps, hv, _⟩ := h
  obtain ⟨q1, h1⟩ := vars_tail hv
  obtain ⟨q2, h2⟩ := vars_tail h1
  have ht : Lib.TabIs Tryd.prog W "math/bits.deBruijn64tab" .u8 tabZ := tab_of_vars (e := 5) (n := 64) gTab tTab (by kernel_rfl) (by kernel_rfl) (by kernel_rfl) (by kernel_rfl) h1
  have hp : Lib.TabIs Tryd.prog W "internal/strconv.uint64pow10" .u64 Lib.pow10Tab := tab_of_vars (e := 28) (n := 20) gPow tPow (by kernel_rfl) (by kernel_rfl) (by kernel_rfl) (by kernel_rfl) h2
  have all : TabAt 0 Lib.deBruijn64tab W := fun j hj => by
    have hl : tabZ.length = 64 := by decide
    have hj' : j < 64 := hj
    rw [ht.cell gTab j (by omega)]
    have e : tabZ.getD j 0 = ((Lib.deBruijn64tab.getD j 0 : Nat) : Int) := (show ∀ j, j < 64 → tabZ.getD j 0 = ((Lib.deBruijn64tab.getD j 0 : Nat) : Int) by decide) j hj'
    rw [e]
  exact ⟨⟨World.block_lt_of_cell? W _ (all 0 (by decide)), all⟩, hp⟩
theorem door_met (os : Os) (args : Array Value) : laidMetH Tryd.prog laidL ((World.doorLaid Tryd.prog 14 os).forCall (fun _ _ => 0) ⟨#[], args, []⟩).memory :=
  laidMetH_of_parts3 (fuel := 8) (laidMet_of_run' 8 (by kernel_rfl) (by kernel_rfl)) (by kernel_rfl) (by kernel_rfl)
end Go.Proofs.YtkdndgclldlddaaDoor.QSu
namespace Go.Proofs.YtkdndgclldlddaaDoor.showUnlike
open Go.ChangeShapes Go.WideShapes Go.ChangeAt Go.RowKit
open Go.ChangeMaps (open_string shut_string)
open Go.Proofs.YtkdndgclldlddaaDoorW.PrintWords Go.Proofs.YtkdndgclldlddaaDoorW.PrintLast Go.Proofs.YtkdndgclldlddaaDoor.QSu Go.Proofs.YtkdndgclldlddaaDoor.Open
set_option linter.unusedVariables false
theorem own : ownKnob Tryd.prog.godebug = none := by kernel_rfl
theorem laidOut : laidOutB Tryd.prog = true := by kernel_rfl
set_option maxRecDepth 100000 in
theorem lifted (os : Os) (started : os.Started) (H : Type) (enc : TypeId × Value → H) :
    ReturnsInHanded {} Tryd.checked os 5 .any (fun w args => (Rows.showUnlikeSpec.pre enc Tryd.prog Tryd.f5 [] false w args ∧ laidMetH Tryd.prog laidL w) ∧ sizedMet enc Tryd.prog Tryd.f5 (OpenSpec.ofChange Rows.showUnlikeSpec) false w args) (Rows.showUnlikeSpec.post enc Tryd.prog Tryd.f5 false true false false) := by
  refine returnsInHanded_of_change_and (C := Tryd.checked) (X := fun w _ => laidMetH Tryd.prog laidL w) (fun _ _ _ hh h => h.of_heap hh) own started (by kernel_rfl) Tryd.func5
    (ChangeSpec.witness_shaped (enc := enc) (C := Tryd.checked) (os := os) (X := fun w _ => laidMetH Tryd.prog laidL w) false (World.doorLaid Tryd.prog 14 os) #[.agg #[.int .i64 0, .slice none 0 0], .agg #[.int .i64 0, .slice none 0 0]] 8 rfl (World.shaped_of_RefB (by kernel_rfl) (by kernel_rfl)) (by kernel_rfl) (by kernel_rfl) (by kernel_rfl) (door_met os _)) ?_
  intro W base args ds gs before hval0 hW hcnd hsz0 hL _
  have hTab := tab_of_laid hL
  clear hL
  have hsz : (DataW.weightsEach Tryd.prog (Tryd.f5.params.toList ++ Rows.showUnlikeSpec.plain.varTypes Tryd.prog) (ds ++ gs)).all (· ≤ reachBytes) = true := hsz0
  have hval : ∀ (j : Nat) t v, Tryd.f5.params[j]? = some t → args[j]? = some v → Value.okWide Tryd.prog W .any base t v := hval0
  have hW' := hW
  obtain ⟨p, q, hA0, hV, rfl, hfz, hnd⟩ := hW
  have hA : DataW.TrodAll enc Tryd.prog W 0 (fun _ => true) true Tryd.f5.params.toList args.toList ds p := hA0
  rw [Tryd.params5] at hA hval hsz
  obtain ⟨v0, vs0, d0, ds0, p0, q0, hargs, rfl, rfl, h0, r0⟩ := trodAll_cons hA
  obtain ⟨v1, vs1, d1, ds1, p1, q1, rfl, rfl, rfl, h1, r1⟩ := trodAll_cons r0
  obtain ⟨rfl, rfl, rfl⟩ := trodAll_nil r1
  obtain rfl : args = #[v0, v1] := by cases args; simp_all
  obtain ⟨rfl, rfl⟩ := trodVars_none hV
  have k0 := h0
  have lt0 : ∀ x ∈ p0, x.block < W.heap.size := by obtain ⟨m, hm⟩ := k0; exact DataW.trod_lt m _ _ _ hm
  obtain ⟨a0, cs0, rfl, hk0, hw0⟩ := arg_struct Tryd.underlying24 (hval 0 24 v0 rfl rfl) opens24 h0
  obtain ⟨A0_1, c0_1, rfl, hc0_1, hr0_1⟩ := k24_open hk0
  have k1 := h1
  have lt1 : ∀ x ∈ p1, x.block < W.heap.size := by obtain ⟨m, hm⟩ := k1; exact DataW.trod_lt m _ _ _ hm
  obtain ⟨a1, cs1, rfl, hk1, hw1⟩ := arg_struct Tryd.underlying24 (hval 1 24 v1 rfl rfl) opens24 h1
  obtain ⟨A1_1, c1_1, rfl, hc1_1, hr1_1⟩ := k24_open hk1
  clear hA0 hval0 hsz0 hsz
  obtain ⟨k, hk⟩ := Pure.ShowUnlike a0 a1 hw0 hw1
  refine (taskmasterlaw7_ShowUnlike.calls (w := W) (h := hk) (hT := hTab) (hc0_1 := hc0_1) (hc1_1 := hc1_1) (hr0_1 := hr0_1) (hr1_1 := hr1_1)).mono fun e W' ⟨he, bel0⟩ => ?_
  have bel : Below W.heap.size W W' := bel0
  subst he
  exact ⟨_, rfl, _, _, _, [], _, [], hW', trodAll_mk1 (shut_bool Tryd.underlying4 _), (trodAll_cons_mk (Below.trod laidOut (by kernel_rfl) (of_decide_eq_true (by kernel_rfl)) k0 bel lt0) (trodAll_cons_mk (Below.trod laidOut (by kernel_rfl) (of_decide_eq_true (by kernel_rfl)) k1 bel lt1) trodAll_mk0)), rfl, bel.frame _, fun h => by cases h⟩
theorem over : Rows.showUnlikeRow.holds Tryd.pinned (OpenSpec.ofChange Rows.showUnlikeSpec) :=
  OpenClaim.holds_of_wide 5 Tryd.f5 rfl rfl rfl rfl rfl rfl rfl ⟨rfl, rfl, rfl, rfl, rfl⟩ rfl rfl rfl rfl rfl (by kernel_rfl) Tryd.func5 (by kernel_rfl)
    (of_decide_eq_true (by kernel_rfl)) (by unfold Func.isWrapper; first | (rw [if_pos (by decide +kernel)]; kernel_rfl) | (rw [if_neg (by decide +kernel)]; exact ⟨rfl, rfl⟩))
    (fun os started H enc _ => lifted os started H enc)
theorem proved : Rows.ShowUnlikeSaid := over
end Go.Proofs.YtkdndgclldlddaaDoor.showUnlike
namespace Go.Proofs.YtkdndgclldlddaaDoor
theorem showUnlike_holds : Rows.ShowUnlikeCardSaid :=
  Claim7.holds_tied_plain_at .later [] [.data, .data, .data] true Rows.showUnlikeCard.stood.harness Rows.showUnlikeCard.stood.looks
    showUnlike.proved (fun _ h => by cases h) (by kernel_rfl) (fun _ h => by cases h) showUnlike_row_tie rfl ⟨rfl, rfl⟩ (by kernel_rfl) rfl
    (fun f fn hf hfn => by
      obtain rfl : f = 5 := Option.some.inj ((show Tryd.prog.funcNamed "taskmaster/taskmasterlaw7.ShowUnlike" = some 5 by kernel_rfl).symm.trans hf) |>.symm
      obtain rfl : fn = Tryd.f5 := (Option.some.inj (Tryd.func5.symm.trans hfn)).symm
      exact ⟨by kernel_rfl, fun j t ht => by
        rw [Tryd.params5] at ht
        have hm : t ∈ [24, 24] := by simpa using Array.mem_of_getElem? ht
        have hall : ([24, 24].all fun u => !Tryd.prog.wantsStandIn u) = true := by kernel_rfl
        exact (show Tryd.prog.wantsStandIn t = false by simpa using List.all_eq_true.1 hall t hm)⟩)
    (by kernel_rfl)
end Go.Proofs.YtkdndgclldlddaaDoor

/- What is proved: contracts and plain facts on the way to the row RowTopCut, and, in the last text, the row itself; conditions as each theorem names them. -/
import Derived.ChangeArms
import Derived.Deep.Slices
import Derived.DataReads
import Derived.WideShapes
import Derived.KernelRfl
import Derived.Test.YtaofmmnfenlofaaGreatDoorRows
import Derived.LaidMore
import Derived.MakeChecks
import Derived.Lib.LaidTab
import Derived.ProofKit
import Derived.Shelf.Vars
import Derived.Handed
import Derived.Lay
import Derived.WalkKit
import Derived.OpenShut
import Derived.ShutString
import Derived.ChangeOld
import Derived.Below
import Derived.SizedLaws
import Derived.Test.YtaofmmnfenlofaaGreatDoorTie
import Derived.Test.YtaofmmnfenlofaaGreatDoorCards
import Derived.SevenTiedAt
import Derived.Stop.Joined
import Derived.Test.YtaofmmnfenlofaaGreatDoorSkCut1
import Derived.Test.YtaofmmnfenlofaaGreatDoorSkCut2
import Derived.Test.YtaofmmnfenlofaaGreatDoorSkCut3
import Derived.Test.YtaofmmnfenlofaaGreatDoorSkCut4
import Derived.Test.YtaofmmnfenlofaaGreatDoorSkCut5
namespace Go.Proofs.YtaofmmnfenlofaaGreatDoor.QTc
open Go.RowKit Go.Proofs.YtaofmmnfenlofaaGreatDoorW.PrintWords Go.Proofs.YtaofmmnfenlofaaGreatDoorW.PrintLast Go.Proofs.YtaofmmnfenlofaaGreatDoorW.PrintMore
attribute [local go_sem] max2_int min2_int max_two min_two max_three min_three max_four min_four
set_option linter.unusedVariables false
set_option linter.unusedSimpArgs false
mutual
def taskmasterref5_Is.j0 : Nat → Int → Bool → ByteArray → Int → Int → Int → Int → Int → List Int → Int → Int → Option (Bool)
 | 0, _, _, _, _, _, _, _, _, _, _, _ => none
 | k + 1, x1, x29, x377000, x377001, x377002, x377003, x377004, x377005, x377006, x377007, x377008 => if x29 = true then (some false) else (taskmasterref5_Is.l0 k x1 0 x377000 x377001 x377002 x377003 x377004 x377005 x377006 x377007 x377008)
def taskmasterref5_Is.l0 : Nat → Int → Int → ByteArray → Int → Int → Int → Int → Int → List Int → Int → Int → Option (Bool)
 | 0, _, _, _, _, _, _, _, _, _, _, _ => none
 | k + 1, x1, x5, x377000, x377001, x377002, x377003, x377004, x377005, x377006, x377007, x377008 => if x5 < (x377006.length : Int) then (if 0 ≤ x5 then ((taskmasterref5_in.f (rd x377006 x5) 1 10000).bind fun t379 => (if t379 = true then (taskmasterref5_Is.l0 k x1 (wrap64 (x5 + 1)) x377000 x377001 x377002 x377003 x377004 x377005 x377006 x377007 x377008) else (some false))) else (none)) else ((taskmasterref5_Work.f k x377000 x377001 x377002 x377003 x377004 x377005 x377006 x377007 x377008).bind fun t380 => (if t380 > x377002 then (taskmasterref5_Is.j2 k x1 true x377000 x377001 x377002 x377003 x377004 x377005 x377006 x377007 x377008) else (if x377002 > x377001 then (taskmasterref5_Is.j2 k x1 true x377000 x377001 x377002 x377003 x377004 x377005 x377006 x377007 x377008) else (taskmasterref5_Is.j2 k x1 (decide (x377001 > 10000)) x377000 x377001 x377002 x377003 x377004 x377005 x377006 x377007 x377008))))
def taskmasterref5_Is.j2 : Nat → Int → Bool → ByteArray → Int → Int → Int → Int → Int → List Int → Int → Int → Option (Bool)
 | 0, _, _, _, _, _, _, _, _, _, _, _ => none
 | k + 1, x1, x60, x377000, x377001, x377002, x377003, x377004, x377005, x377006, x377007, x377008 => if x60 = true then (some false) else (if x377003 = 0 then (if x377004 = 0 then (some (x377005 == 0)) else (some false)) else (if x377003 = 1 then ((taskmasterref5_in.f x377004 0 10000).bind fun t381 => (if t381 = true then (some (x377005 == 0)) else (some false))) else (if x377003 = 2 then (if x377004 = 0 then (if x377005 ≥ 0 then (some (decide (x377005 ≤ x1))) else (some false)) else (some false)) else (some false))))
end
def taskmasterref5_Is.f (k : Nat) (a0_0 : ByteArray) (a0_1 : Int) (a0_2 : Int) (a0_3 : Int) (a0_4 : Int) (a0_5 : Int) (l0_6 : List Int) (a0_7 : Int) (a0_8 : Int) (a1 : Int) : Option (Bool) := (taskmasterref4_Name.f k a0_0).bind fun t377 => (if t377 = true then (if (l0_6.length : Int) < 1 then (taskmasterref5_Is.j0 k a1 true a0_0 a0_1 a0_2 a0_3 a0_4 a0_5 l0_6 a0_7 a0_8) else (if (l0_6.length : Int) > 8 then (taskmasterref5_Is.j0 k a1 true a0_0 a0_1 a0_2 a0_3 a0_4 a0_5 l0_6 a0_7 a0_8) else (taskmasterref5_Is.j0 k a1 ((Go.bits .andNot .u64 a0_8 a0_7) != 0) a0_0 a0_1 a0_2 a0_3 a0_4 a0_5 l0_6 a0_7 a0_8))) else (taskmasterref5_Is.j0 k a1 true a0_0 a0_1 a0_2 a0_3 a0_4 a0_5 l0_6 a0_7 a0_8))
def taskmasterref5_Is.T8 : Bool × List (List Nat × List Nat) := (true, [([], []), ([0], [0]), ([], []), ([2], [2]), ([1, 3], [1, 3]), ([4, 1], [4]), ([5], [5]), ([6, 5], [5, 6]), ([5], [5]), ([8, 5], [5, 8]), ([7, 9, 5], [5, 7, 9]), ([5, 10], [5, 10]), ([11, 5], [11]), ([12], [12]), ([13, 12], [12, 13]), ([14, 12], [12, 14]), ([12, 15], [12, 15])])
def taskmasterref5_Is.B8 : List Nat := [0, 1, 0, 4, 15, 31, 63, 127, 63, 319, 1023, 2047, 4095, 8191, 16383, 32767, 65535]
theorem taskmasterref5_Is.tab8 : rtab .any (opsOf Tryz.f29 8) = taskmasterref5_Is.T8 := by kernel_rfl
theorem taskmasterref5_Is.bits8 : waitsOk taskmasterref5_Is.T8.2 taskmasterref5_Is.B8 = true := by kernel_rfl
set_option maxHeartbeats 8000000 in
set_option maxRecDepth 100000 in
theorem taskmasterref5_Is.calls (k : Nat) (a0_0 : ByteArray) (a0_1 : Int) (a0_2 : Int) (a0_3 : Int) (a0_4 : Int) (a0_5 : Int) (A0_6 : Option Addr) (c0_6 : Nat) (l0_6 : List Int) (a0_7 : Int) (a0_8 : Int) (a1 : Int) (r : Bool) (w : World) (hr0_6 : Kd.C (Kd.int .i64) w A0_6 l0_6.length l0_6) (hc0_6 : l0_6.length ≤ c0_6) (h : taskmasterref5_Is.f k a0_0 a0_1 a0_2 a0_3 a0_4 a0_5 l0_6 a0_7 a0_8 a1 = some r) :
  Calls Tryz.prog 29 #[.agg #[.string a0_0, .int .i64 a0_1, .int .i64 a0_2, .int .i64 a0_3, .int .i64 a0_4, .int .i64 a0_5, .slice A0_6 l0_6.length c0_6, .int .u64 a0_7, .int .u64 a0_8], .int .i64 a1] w fun e w' => e = .returned (.bool r) ∧ Below w.heap.size w w' := by
 have hu46 := Tryz.underlying46
 have HR0_6 := Aside0.mk hr0_6
 have HC0_6 := Aside0.mk hc0_6
 clear hr0_6 hc0_6
 have HB := Aside0.mk (Below.refl w.heap.size w)
 have H : ((taskmasterref4_Name.f k a0_0).bind fun t377 => (if t377 = true then (if (l0_6.length : Int) < 1 then (taskmasterref5_Is.j0 k a1 true a0_0 a0_1 a0_2 a0_3 a0_4 a0_5 l0_6 a0_7 a0_8) else (if (l0_6.length : Int) > 8 then (taskmasterref5_Is.j0 k a1 true a0_0 a0_1 a0_2 a0_3 a0_4 a0_5 l0_6 a0_7 a0_8) else (taskmasterref5_Is.j0 k a1 ((Go.bits .andNot .u64 a0_8 a0_7) != 0) a0_0 a0_1 a0_2 a0_3 a0_4 a0_5 l0_6 a0_7 a0_8))) else (taskmasterref5_Is.j0 k a1 true a0_0 a0_1 a0_2 a0_3 a0_4 a0_5 l0_6 a0_7 a0_8))) = some r := h
 clear h
 have HC3 := Aside0.mk H
 clear H
 go_enter Tryz.func29, Tryz.ntmps29
 go_upto_region 1 with (first | ((with_reducible refine gate_dst (N := 2) rfl ?_); (try (refine gate_guard (by rfl) ?_; dsimp only)); refine box_event ?hg (N := 2) ?hd (cs := #[.string a0_0, .int .i64 a0_1, .int .i64 a0_2, .int .i64 a0_3, .int .i64 a0_4, .int .i64 a0_5, .slice A0_6 l0_6.length c0_6, .int .u64 a0_7, .int .u64 a0_8]) (t := 46) ?hr ?_; (case hd => rfl); (case hg => rfl); (case hr => first | (go_simp; done) | (go_simp; rfl)); intro gb376 hg w4 hbox hb; have n0_ := Aside0.mk (below_step (by repeat (first | (with_reducible first | exact HB.out | apply below_alloc | apply pw_below_drewN | apply below_drew1) | exact HB.out)) hb); have n1_ := Aside0.mk (hbox); have n2_ := Aside0.mk ((by rw [hg]; exact (below_size (by repeat (first | (with_reducible first | exact HB.out | apply below_alloc | apply pw_below_drewN | apply below_drew1) | exact HB.out))) : w.heap.size ≤ gb376)); have n3_ := Aside0.mk ((by rw [hg]; exact (below_size (by repeat (first | (with_reducible first | exact HB.out | apply below_alloc | apply pw_below_drewN | apply below_drew1) | exact HB.out))) : w.heap.size ≤ gb376)); clear HB; have HB := n0_; have BK376 := n1_; have GW376 := n2_; have GE376 := n3_; clear n0_ n1_ n2_ n3_; clear hb hbox hg))
 (try simp only [Act.put, List.setIfInBounds_toArray, List.set_cons_zero, List.set_cons_succ])
 go_cut [29] (fun v29 wc => ∃ (kq : Nat) (x29_2 : Bool), v29 = .bool x29_2 ∧ Aside0 (taskmasterref5_Is.j0 kq a1 x29_2 a0_0 a0_1 a0_2 a0_3 a0_4 a0_5 l0_6 a0_7 a0_8 = some r) ∧ Aside0 (kq ≤ k) ∧ Aside0 (wc.heap[gb376]? = some (.cells #[.string a0_0, .int .i64 a0_1, .int .i64 a0_2, .int .i64 a0_3, .int .i64 a0_4, .int .i64 a0_5, (.slice A0_6 l0_6.length c0_6), .int .u64 a0_7, .int .u64 a0_8] 46 (0, 0))) ∧ Aside0 (Below w.heap.size w wc))
 case first =>
  have H := HC3.out
  clear HC3
  replace H := Option.bind_eq_some_iff.mp H
  obtain ⟨t377, A50, H⟩ := H
  replace H : (if t377 = true then (if (l0_6.length : Int) < 1 then (taskmasterref5_Is.j0 k a1 true a0_0 a0_1 a0_2 a0_3 a0_4 a0_5 l0_6 a0_7 a0_8) else (if (l0_6.length : Int) > 8 then (taskmasterref5_Is.j0 k a1 true a0_0 a0_1 a0_2 a0_3 a0_4 a0_5 l0_6 a0_7 a0_8) else (taskmasterref5_Is.j0 k a1 ((Go.bits .andNot .u64 a0_8 a0_7) != 0) a0_0 a0_1 a0_2 a0_3 a0_4 a0_5 l0_6 a0_7 a0_8))) else (taskmasterref5_Is.j0 k a1 true a0_0 a0_1 a0_2 a0_3 a0_4 a0_5 l0_6 a0_7 a0_8)) = some r := H
  have A5 := Aside0.mk A50
  clear A50
  by_cases c6 : t377 = true
  ·subst c6
   have H1 : (if (l0_6.length : Int) < 1 then (taskmasterref5_Is.j0 k a1 true a0_0 a0_1 a0_2 a0_3 a0_4 a0_5 l0_6 a0_7 a0_8) else (if (l0_6.length : Int) > 8 then (taskmasterref5_Is.j0 k a1 true a0_0 a0_1 a0_2 a0_3 a0_4 a0_5 l0_6 a0_7 a0_8) else (taskmasterref5_Is.j0 k a1 ((Go.bits .andNot .u64 a0_8 a0_7) != 0) a0_0 a0_1 a0_2 a0_3 a0_4 a0_5 l0_6 a0_7 a0_8))) = some r := by rw [if_pos rfl] at H; exact H
   clear H
   have H := H1
   clear H1
   by_cases c7 : (l0_6.length : Int) < 1
   ·rw [if_pos c7] at H
    have c7b0 : decide ((l0_6.length : Int) < 1) = true := decide_eq_true c7
    have c7b1 : decide (l0_6.length < 1) = true := decide_eq_true (by omega)
    clear c7
    (first | rw [c7b0] | (simp only [i64_w, i32_w]; rw [c7b0]) | skip)
    have H' := Aside0.mk H
    clear H
    obtain ⟨hcz8_0, hcz8_1, hcz8_2, hcz8_3, hcz8_4, hcz8_5, hcz8_6, hcz8_7, hcz8_8, hfz8_0, hfz8_1, hfz8_2, hfz8_3, hfz8_4, hfz8_5, hfz8_6, hfz8_7, hfz8_8⟩ := cells9 BK376.out
    go_wp2_with (first | ((with_reducible refine gate_callee (f := 56) rfl ?_); refine goesL_ (some 8) rfl rfl Tryz.func56 (by kernel_rfl) rfl #[.string a0_0] rfl (by (try simp only [List.map_toArray, List.map_cons, List.map_nil]); first | done | rfl | (simp only [List.length_drop, List.length_take]; rfl)) ?_; (with_reducible refine (taskmasterref4_Name.calls k a0_0 true _ A5.out).mono ?_); rintro e w9 ⟨rfl, hb⟩; refine ⟨_, rfl, ?_⟩; have n0_ := Aside0.mk (blk_below (g := gb376) (o := .cells #[.string a0_0, .int .i64 a0_1, .int .i64 a0_2, .int .i64 a0_3, .int .i64 a0_4, .int .i64 a0_5, .slice A0_6 l0_6.length c0_6, .int .u64 a0_7, .int .u64 a0_8] 46 (0, 0)) (by (with_reducible repeat (first | refine blk_drewN ?_ _ | refine blk_drew ?_ | refine blk_alloc ?_ _)); exact BK376.out) hb); have n1_ := Aside0.mk (below_step (by repeat (first | (with_reducible first | exact HB.out | apply below_alloc | apply pw_below_drewN | apply below_drew1 | refine below_set ?_ GE376.out) | exact HB.out)) hb); clear BK376; clear HB; have BK376 := n0_; have HB := n1_; clear n0_ n1_; (try clear hb); (try clear hb2); (try clear hk); (try clear hi); have hcz10_0 : w9.cell? ⟨gb376, 0, none⟩ = some (.string a0_0) := (blk_cell BK376.out 0).trans rfl; have hcz10_1 : w9.cell? ⟨gb376, 1, none⟩ = some (.int .i64 a0_1) := (blk_cell BK376.out 1).trans rfl; have hcz10_2 : w9.cell? ⟨gb376, 2, none⟩ = some (.int .i64 a0_2) := (blk_cell BK376.out 2).trans rfl; have hcz10_3 : w9.cell? ⟨gb376, 3, none⟩ = some (.int .i64 a0_3) := (blk_cell BK376.out 3).trans rfl; have hcz10_4 : w9.cell? ⟨gb376, 4, none⟩ = some (.int .i64 a0_4) := (blk_cell BK376.out 4).trans rfl; have hcz10_5 : w9.cell? ⟨gb376, 5, none⟩ = some (.int .i64 a0_5) := (blk_cell BK376.out 5).trans rfl; have hcz10_6 : w9.cell? ⟨gb376, 6, none⟩ = some (.slice A0_6 l0_6.length c0_6) := (blk_cell BK376.out 6).trans rfl; have hcz10_7 : w9.cell? ⟨gb376, 7, none⟩ = some (.int .u64 a0_7) := (blk_cell BK376.out 7).trans rfl; have hcz10_8 : w9.cell? ⟨gb376, 8, none⟩ = some (.int .u64 a0_8) := (blk_cell BK376.out 8).trans rfl; have hfz10_0 := blk_frozen BK376.out 0; have hfz10_1 := blk_frozen BK376.out 1; have hfz10_2 := blk_frozen BK376.out 2; have hfz10_3 := blk_frozen BK376.out 3; have hfz10_4 := blk_frozen BK376.out 4; have hfz10_5 := blk_frozen BK376.out 5; have hfz10_6 := blk_frozen BK376.out 6; have hfz10_7 := blk_frozen BK376.out 7; have hfz10_8 := blk_frozen BK376.out 8))
    go_meet
    case rel => exact ⟨_, (true), (by first | rfl | (simp; done) | (simp [*]; done)), H', ⟨by first | omega | exact Nat.le_refl _⟩, ⟨by (with_reducible repeat (first | refine blk_drewN ?_ _ | refine blk_drew ?_ | refine blk_alloc ?_ _)); exact BK376.out⟩, ⟨by repeat (first | (with_reducible first | exact HB.out | apply below_alloc | apply pw_below_drewN | apply below_drew1 | refine below_set ?_ GE376.out) | exact HB.out)⟩⟩
   ·rw [if_neg c7] at H
    have c7b0 : decide ((l0_6.length : Int) < 1) = false := decide_eq_false c7
    have c7b1 : decide (l0_6.length < 1) = false := decide_eq_false (by omega)
    clear c7
    (first | rw [c7b0] | (simp only [i64_w, i32_w]; rw [c7b0]) | skip)
    by_cases c11 : (l0_6.length : Int) > 8
    ·rw [if_pos c11] at H
     have c11b0 : decide (8 < (l0_6.length : Int)) = true := decide_eq_true c11
     have c11b1 : decide (8 < l0_6.length) = true := decide_eq_true (by omega)
     clear c11
     have H' := Aside0.mk H
     clear H
     obtain ⟨hcz12_0, hcz12_1, hcz12_2, hcz12_3, hcz12_4, hcz12_5, hcz12_6, hcz12_7, hcz12_8, hfz12_0, hfz12_1, hfz12_2, hfz12_3, hfz12_4, hfz12_5, hfz12_6, hfz12_7, hfz12_8⟩ := cells9 BK376.out
     go_wp2_with (first | ((with_reducible refine gate_callee (f := 56) rfl ?_); refine goesL_ (some 8) rfl rfl Tryz.func56 (by kernel_rfl) rfl #[.string a0_0] rfl (by (try simp only [List.map_toArray, List.map_cons, List.map_nil]); first | done | rfl | (simp only [List.length_drop, List.length_take]; rfl)) ?_; (with_reducible refine (taskmasterref4_Name.calls k a0_0 true _ A5.out).mono ?_); rintro e w13 ⟨rfl, hb⟩; refine ⟨_, rfl, ?_⟩; have n0_ := Aside0.mk (blk_below (g := gb376) (o := .cells #[.string a0_0, .int .i64 a0_1, .int .i64 a0_2, .int .i64 a0_3, .int .i64 a0_4, .int .i64 a0_5, .slice A0_6 l0_6.length c0_6, .int .u64 a0_7, .int .u64 a0_8] 46 (0, 0)) (by (with_reducible repeat (first | refine blk_drewN ?_ _ | refine blk_drew ?_ | refine blk_alloc ?_ _)); exact BK376.out) hb); have n1_ := Aside0.mk (below_step (by repeat (first | (with_reducible first | exact HB.out | apply below_alloc | apply pw_below_drewN | apply below_drew1 | refine below_set ?_ GE376.out) | exact HB.out)) hb); clear BK376; clear HB; have BK376 := n0_; have HB := n1_; clear n0_ n1_; (try clear hb); (try clear hb2); (try clear hk); (try clear hi); have hcz14_0 : w13.cell? ⟨gb376, 0, none⟩ = some (.string a0_0) := (blk_cell BK376.out 0).trans rfl; have hcz14_1 : w13.cell? ⟨gb376, 1, none⟩ = some (.int .i64 a0_1) := (blk_cell BK376.out 1).trans rfl; have hcz14_2 : w13.cell? ⟨gb376, 2, none⟩ = some (.int .i64 a0_2) := (blk_cell BK376.out 2).trans rfl; have hcz14_3 : w13.cell? ⟨gb376, 3, none⟩ = some (.int .i64 a0_3) := (blk_cell BK376.out 3).trans rfl; have hcz14_4 : w13.cell? ⟨gb376, 4, none⟩ = some (.int .i64 a0_4) := (blk_cell BK376.out 4).trans rfl; have hcz14_5 : w13.cell? ⟨gb376, 5, none⟩ = some (.int .i64 a0_5) := (blk_cell BK376.out 5).trans rfl; have hcz14_6 : w13.cell? ⟨gb376, 6, none⟩ = some (.slice A0_6 l0_6.length c0_6) := (blk_cell BK376.out 6).trans rfl; have hcz14_7 : w13.cell? ⟨gb376, 7, none⟩ = some (.int .u64 a0_7) := (blk_cell BK376.out 7).trans rfl; have hcz14_8 : w13.cell? ⟨gb376, 8, none⟩ = some (.int .u64 a0_8) := (blk_cell BK376.out 8).trans rfl; have hfz14_0 := blk_frozen BK376.out 0; have hfz14_1 := blk_frozen BK376.out 1; have hfz14_2 := blk_frozen BK376.out 2; have hfz14_3 := blk_frozen BK376.out 3; have hfz14_4 := blk_frozen BK376.out 4; have hfz14_5 := blk_frozen BK376.out 5; have hfz14_6 := blk_frozen BK376.out 6; have hfz14_7 := blk_frozen BK376.out 7; have hfz14_8 := blk_frozen BK376.out 8))
     go_meet
     case rel => exact ⟨_, (true), (by first | rfl | (simp; done) | (simp [*]; done)), H', ⟨by first | omega | exact Nat.le_refl _⟩, ⟨by (with_reducible repeat (first | refine blk_drewN ?_ _ | refine blk_drew ?_ | refine blk_alloc ?_ _)); exact BK376.out⟩, ⟨by repeat (first | (with_reducible first | exact HB.out | apply below_alloc | apply pw_below_drewN | apply below_drew1 | refine below_set ?_ GE376.out) | exact HB.out)⟩⟩
    ·rw [if_neg c11] at H
     have c11b0 : decide (8 < (l0_6.length : Int)) = false := decide_eq_false c11
     have c11b1 : decide (8 < l0_6.length) = false := decide_eq_false (by omega)
     clear c11
     have H' := Aside0.mk H
     clear H
     obtain ⟨hcz15_0, hcz15_1, hcz15_2, hcz15_3, hcz15_4, hcz15_5, hcz15_6, hcz15_7, hcz15_8, hfz15_0, hfz15_1, hfz15_2, hfz15_3, hfz15_4, hfz15_5, hfz15_6, hfz15_7, hfz15_8⟩ := cells9 BK376.out
     go_wp2_with (first | ((with_reducible refine gate_callee (f := 56) rfl ?_); refine goesL_ (some 8) rfl rfl Tryz.func56 (by kernel_rfl) rfl #[.string a0_0] rfl (by (try simp only [List.map_toArray, List.map_cons, List.map_nil]); first | done | rfl | (simp only [List.length_drop, List.length_take]; rfl)) ?_; (with_reducible refine (taskmasterref4_Name.calls k a0_0 true _ A5.out).mono ?_); rintro e w16 ⟨rfl, hb⟩; refine ⟨_, rfl, ?_⟩; have n0_ := Aside0.mk (blk_below (g := gb376) (o := .cells #[.string a0_0, .int .i64 a0_1, .int .i64 a0_2, .int .i64 a0_3, .int .i64 a0_4, .int .i64 a0_5, .slice A0_6 l0_6.length c0_6, .int .u64 a0_7, .int .u64 a0_8] 46 (0, 0)) (by (with_reducible repeat (first | refine blk_drewN ?_ _ | refine blk_drew ?_ | refine blk_alloc ?_ _)); exact BK376.out) hb); have n1_ := Aside0.mk (below_step (by repeat (first | (with_reducible first | exact HB.out | apply below_alloc | apply pw_below_drewN | apply below_drew1 | refine below_set ?_ GE376.out) | exact HB.out)) hb); clear BK376; clear HB; have BK376 := n0_; have HB := n1_; clear n0_ n1_; (try clear hb); (try clear hb2); (try clear hk); (try clear hi); have hcz17_0 : w16.cell? ⟨gb376, 0, none⟩ = some (.string a0_0) := (blk_cell BK376.out 0).trans rfl; have hcz17_1 : w16.cell? ⟨gb376, 1, none⟩ = some (.int .i64 a0_1) := (blk_cell BK376.out 1).trans rfl; have hcz17_2 : w16.cell? ⟨gb376, 2, none⟩ = some (.int .i64 a0_2) := (blk_cell BK376.out 2).trans rfl; have hcz17_3 : w16.cell? ⟨gb376, 3, none⟩ = some (.int .i64 a0_3) := (blk_cell BK376.out 3).trans rfl; have hcz17_4 : w16.cell? ⟨gb376, 4, none⟩ = some (.int .i64 a0_4) := (blk_cell BK376.out 4).trans rfl; have hcz17_5 : w16.cell? ⟨gb376, 5, none⟩ = some (.int .i64 a0_5) := (blk_cell BK376.out 5).trans rfl; have hcz17_6 : w16.cell? ⟨gb376, 6, none⟩ = some (.slice A0_6 l0_6.length c0_6) := (blk_cell BK376.out 6).trans rfl; have hcz17_7 : w16.cell? ⟨gb376, 7, none⟩ = some (.int .u64 a0_7) := (blk_cell BK376.out 7).trans rfl; have hcz17_8 : w16.cell? ⟨gb376, 8, none⟩ = some (.int .u64 a0_8) := (blk_cell BK376.out 8).trans rfl; have hfz17_0 := blk_frozen BK376.out 0; have hfz17_1 := blk_frozen BK376.out 1; have hfz17_2 := blk_frozen BK376.out 2; have hfz17_3 := blk_frozen BK376.out 3; have hfz17_4 := blk_frozen BK376.out 4; have hfz17_5 := blk_frozen BK376.out 5; have hfz17_6 := blk_frozen BK376.out 6; have hfz17_7 := blk_frozen BK376.out 7; have hfz17_8 := blk_frozen BK376.out 8))
     go_meet
     case rel => exact ⟨_, (((Go.bits .andNot .u64 a0_8 a0_7) != 0)), (by first | rfl | (simp; done) | (simp [*]; done)), H', ⟨by first | omega | exact Nat.le_refl _⟩, ⟨by (with_reducible repeat (first | refine blk_drewN ?_ _ | refine blk_drew ?_ | refine blk_alloc ?_ _)); exact BK376.out⟩, ⟨by repeat (first | (with_reducible first | exact HB.out | apply below_alloc | apply pw_below_drewN | apply below_drew1 | refine below_set ?_ GE376.out) | exact HB.out)⟩⟩
  ·replace c6 := Bool.eq_false_iff.mpr c6
   subst c6
   have H1 : (taskmasterref5_Is.j0 k a1 true a0_0 a0_1 a0_2 a0_3 a0_4 a0_5 l0_6 a0_7 a0_8) = some r := by rw [if_neg (show ¬ (false = true) by decide)] at H; exact H
   clear H
   have H := H1
   clear H1
   have H' := Aside0.mk H
   clear H
   obtain ⟨hcz18_0, hcz18_1, hcz18_2, hcz18_3, hcz18_4, hcz18_5, hcz18_6, hcz18_7, hcz18_8, hfz18_0, hfz18_1, hfz18_2, hfz18_3, hfz18_4, hfz18_5, hfz18_6, hfz18_7, hfz18_8⟩ := cells9 BK376.out
   go_wp2_with (first | ((with_reducible refine gate_callee (f := 56) rfl ?_); refine goesL_ (some 8) rfl rfl Tryz.func56 (by kernel_rfl) rfl #[.string a0_0] rfl (by (try simp only [List.map_toArray, List.map_cons, List.map_nil]); first | done | rfl | (simp only [List.length_drop, List.length_take]; rfl)) ?_; (with_reducible refine (taskmasterref4_Name.calls k a0_0 false _ A5.out).mono ?_); rintro e w19 ⟨rfl, hb⟩; refine ⟨_, rfl, ?_⟩; have n0_ := Aside0.mk (blk_below (g := gb376) (o := .cells #[.string a0_0, .int .i64 a0_1, .int .i64 a0_2, .int .i64 a0_3, .int .i64 a0_4, .int .i64 a0_5, .slice A0_6 l0_6.length c0_6, .int .u64 a0_7, .int .u64 a0_8] 46 (0, 0)) (by (with_reducible repeat (first | refine blk_drewN ?_ _ | refine blk_drew ?_ | refine blk_alloc ?_ _)); exact BK376.out) hb); have n1_ := Aside0.mk (below_step (by repeat (first | (with_reducible first | exact HB.out | apply below_alloc | apply pw_below_drewN | apply below_drew1 | refine below_set ?_ GE376.out) | exact HB.out)) hb); clear BK376; clear HB; have BK376 := n0_; have HB := n1_; clear n0_ n1_; (try clear hb); (try clear hb2); (try clear hk); (try clear hi)))
   go_meet
   case rel => exact ⟨_, (true), (by first | rfl | (simp; done) | (simp [*]; done)), H', ⟨by first | omega | exact Nat.le_refl _⟩, ⟨by (with_reducible repeat (first | refine blk_drewN ?_ _ | refine blk_drew ?_ | refine blk_alloc ?_ _)); exact BK376.out⟩, ⟨by repeat (first | (with_reducible first | exact HB.out | apply below_alloc | apply pw_below_drewN | apply below_drew1 | refine below_set ?_ GE376.out) | exact HB.out)⟩⟩
 case rest =>
  clear HC3
  try clear c1
  try clear c2
  try clear p2
  try clear c5
  try clear c6
  try clear c7
  try clear c7b0
  try clear c7b1
  try clear c11
  try clear c11b0
  try clear c11b1
  try clear hcz10_0
  try clear hcz10_1
  try clear hcz10_2
  try clear hcz10_3
  try clear hcz10_4
  try clear hcz10_5
  try clear hcz10_6
  try clear hcz10_7
  try clear hcz10_8
  try clear hcz12_0
  try clear hcz12_1
  try clear hcz12_2
  try clear hcz12_3
  try clear hcz12_4
  try clear hcz12_5
  try clear hcz12_6
  try clear hcz12_7
  try clear hcz12_8
  try clear hcz14_0
  try clear hcz14_1
  try clear hcz14_2
  try clear hcz14_3
  try clear hcz14_4
  try clear hcz14_5
  try clear hcz14_6
  try clear hcz14_7
  try clear hcz14_8
  try clear hcz15_0
  try clear hcz15_1
  try clear hcz15_2
  try clear hcz15_3
  try clear hcz15_4
  try clear hcz15_5
  try clear hcz15_6
  try clear hcz15_7
  try clear hcz15_8
  try clear hcz17_0
  try clear hcz17_1
  try clear hcz17_2
  try clear hcz17_3
  try clear hcz17_4
  try clear hcz17_5
  try clear hcz17_6
  try clear hcz17_7
  try clear hcz17_8
  try clear hcz18_0
  try clear hcz18_1
  try clear hcz18_2
  try clear hcz18_3
  try clear hcz18_4
  try clear hcz18_5
  try clear hcz18_6
  try clear hcz18_7
  try clear hcz18_8
  try clear hcz8_0
  try clear hcz8_1
  try clear hcz8_2
  try clear hcz8_3
  try clear hcz8_4
  try clear hcz8_5
  try clear hcz8_6
  try clear hcz8_7
  try clear hcz8_8
  try clear hfz10_0
  try clear hfz10_1
  try clear hfz10_2
  try clear hfz10_3
  try clear hfz10_4
  try clear hfz10_5
  try clear hfz10_6
  try clear hfz10_7
  try clear hfz10_8
  try clear hfz12_0
  try clear hfz12_1
  try clear hfz12_2
  try clear hfz12_3
  try clear hfz12_4
  try clear hfz12_5
  try clear hfz12_6
  try clear hfz12_7
  try clear hfz12_8
  try clear hfz14_0
  try clear hfz14_1
  try clear hfz14_2
  try clear hfz14_3
  try clear hfz14_4
  try clear hfz14_5
  try clear hfz14_6
  try clear hfz14_7
  try clear hfz14_8
  try clear hfz15_0
  try clear hfz15_1
  try clear hfz15_2
  try clear hfz15_3
  try clear hfz15_4
  try clear hfz15_5
  try clear hfz15_6
  try clear hfz15_7
  try clear hfz15_8
  try clear hfz17_0
  try clear hfz17_1
  try clear hfz17_2
  try clear hfz17_3
  try clear hfz17_4
  try clear hfz17_5
  try clear hfz17_6
  try clear hfz17_7
  try clear hfz17_8
  try clear hfz18_0
  try clear hfz18_1
  try clear hfz18_2
  try clear hfz18_3
  try clear hfz18_4
  try clear hfz18_5
  try clear hfz18_6
  try clear hfz18_7
  try clear hfz18_8
  try clear hfz8_0
  try clear hfz8_1
  try clear hfz8_2
  try clear hfz8_3
  try clear hfz8_4
  try clear hfz8_5
  try clear hfz8_6
  try clear hfz8_7
  try clear hfz8_8
  obtain ⟨kq, x29_2, rfl, HA, HJ2, BK376, HB⟩ := hcut
  cases kq with
  | zero => exact absurd HA.out (by simp [taskmasterref5_Is.j0])
  | succ kj2 =>
   have H := HA.out
   clear HA
   simp only [taskmasterref5_Is.j0] at H
   by_cases c20 : x29_2 = true
   ·subst c20
    have H1 : (some false) = some r := by rw [if_pos rfl] at H; exact H
    clear H
    have H := H1
    clear H1
    obtain rfl := Option.some.inj H
    go_wp2
    go_ret
    exact ⟨by first | rfl | (simp [errW_none, errW_some] <;> rfl) | (simp [*, errW_none, errW_some] <;> rfl), by repeat (first | (with_reducible first | exact HB.out | apply below_alloc | apply pw_below_drewN | apply below_drew1 | refine below_set ?_ GE376.out) | exact HB.out)⟩
   ·replace c20 := Bool.eq_false_iff.mpr c20
    subst c20
    have H1 : (taskmasterref5_Is.l0 kj2 a1 0 a0_0 a0_1 a0_2 a0_3 a0_4 a0_5 l0_6 a0_7 a0_8) = some r := by rw [if_neg (show ¬ (false = true) by decide)] at H; exact H
    clear H
    have H := H1
    clear H1
    have H' := Aside0.mk H
    clear H
    go_wp2
    go_loopg [5] kj2 (fun kq v5 w' => ∃ (x5_2 : Int), v5 = .int .i64 x5_2 ∧ Aside0 (taskmasterref5_Is.l0 kq a1 x5_2 a0_0 a0_1 a0_2 a0_3 a0_4 a0_5 l0_6 a0_7 a0_8 = some r) ∧ Aside0 (kq ≤ kj2) ∧ Aside0 (w'.heap[gb376]? = some (.cells #[.string a0_0, .int .i64 a0_1, .int .i64 a0_2, .int .i64 a0_3, .int .i64 a0_4, .int .i64 a0_5, (.slice A0_6 l0_6.length c0_6), .int .u64 a0_7, .int .u64 a0_8] 46 (0, 0))) ∧ Aside0 (Below w.heap.size w w'))
    case atStart => exact ⟨(0), (by first | rfl | (simp; done) | (simp [*]; done)), H', ⟨Nat.le_refl _⟩, ⟨by (with_reducible repeat (first | refine blk_drewN ?_ _ | refine blk_drew ?_ | refine blk_alloc ?_ _)); exact BK376.out⟩, ⟨by repeat (first | (with_reducible first | exact HB.out | apply below_alloc | apply pw_below_drewN | apply below_drew1 | refine below_set ?_ GE376.out) | exact HB.out)⟩⟩
    case round =>
     clear H'
     try clear c1
     try clear c2
     try clear p2
     try clear c5
     try clear c6
     try clear c7
     try clear c7b0
     try clear c7b1
     try clear c11
     try clear c11b0
     try clear c11b1
     try clear c20
     try clear hcz10_0
     try clear hcz10_1
     try clear hcz10_2
     try clear hcz10_3
     try clear hcz10_4
     try clear hcz10_5
     try clear hcz10_6
     try clear hcz10_7
     try clear hcz10_8
     try clear hcz12_0
     try clear hcz12_1
     try clear hcz12_2
     try clear hcz12_3
     try clear hcz12_4
     try clear hcz12_5
     try clear hcz12_6
     try clear hcz12_7
     try clear hcz12_8
     try clear hcz14_0
     try clear hcz14_1
     try clear hcz14_2
     try clear hcz14_3
     try clear hcz14_4
     try clear hcz14_5
     try clear hcz14_6
     try clear hcz14_7
     try clear hcz14_8
     try clear hcz15_0
     try clear hcz15_1
     try clear hcz15_2
     try clear hcz15_3
     try clear hcz15_4
     try clear hcz15_5
     try clear hcz15_6
     try clear hcz15_7
     try clear hcz15_8
     try clear hcz17_0
     try clear hcz17_1
     try clear hcz17_2
     try clear hcz17_3
     try clear hcz17_4
     try clear hcz17_5
     try clear hcz17_6
     try clear hcz17_7
     try clear hcz17_8
     try clear hcz18_0
     try clear hcz18_1
     try clear hcz18_2
     try clear hcz18_3
     try clear hcz18_4
     try clear hcz18_5
     try clear hcz18_6
     try clear hcz18_7
     try clear hcz18_8
     try clear hcz8_0
     try clear hcz8_1
     try clear hcz8_2
     try clear hcz8_3
     try clear hcz8_4
     try clear hcz8_5
     try clear hcz8_6
     try clear hcz8_7
     try clear hcz8_8
     try clear hfz10_0
     try clear hfz10_1
     try clear hfz10_2
     try clear hfz10_3
     try clear hfz10_4
     try clear hfz10_5
     try clear hfz10_6
     try clear hfz10_7
     try clear hfz10_8
     try clear hfz12_0
     try clear hfz12_1
     try clear hfz12_2
     try clear hfz12_3
     try clear hfz12_4
     try clear hfz12_5
     try clear hfz12_6
     try clear hfz12_7
     try clear hfz12_8
     try clear hfz14_0
     try clear hfz14_1
     try clear hfz14_2
     try clear hfz14_3
     try clear hfz14_4
     try clear hfz14_5
     try clear hfz14_6
     try clear hfz14_7
     try clear hfz14_8
     try clear hfz15_0
     try clear hfz15_1
     try clear hfz15_2
     try clear hfz15_3
     try clear hfz15_4
     try clear hfz15_5
     try clear hfz15_6
     try clear hfz15_7
     try clear hfz15_8
     try clear hfz17_0
     try clear hfz17_1
     try clear hfz17_2
     try clear hfz17_3
     try clear hfz17_4
     try clear hfz17_5
     try clear hfz17_6
     try clear hfz17_7
     try clear hfz17_8
     try clear hfz18_0
     try clear hfz18_1
     try clear hfz18_2
     try clear hfz18_3
     try clear hfz18_4
     try clear hfz18_5
     try clear hfz18_6
     try clear hfz18_7
     try clear hfz18_8
     try clear hfz8_0
     try clear hfz8_1
     try clear hfz8_2
     try clear hfz8_3
     try clear hfz8_4
     try clear hfz8_5
     try clear hfz8_6
     try clear hfz8_7
     try clear hfz8_8
     try clear p2
     obtain ⟨x5_2, rfl, HA, HK2, BK376, HB⟩ := hrel
     cases gk with
     | zero => exact absurd HA.out (by simp [taskmasterref5_Is.l0])
     | succ k2 =>
      have H := HA.out
      clear HA
      simp only [taskmasterref5_Is.l0] at H
      by_cases c21 : x5_2 < (l0_6.length : Int)
      ·rw [if_pos c21] at H
       have c21b0 : decide (x5_2 < (l0_6.length : Int)) = true := decide_eq_true c21
       clear c21
       by_cases c22 : 0 ≤ x5_2
       ·rw [if_pos c22] at H
        have c22b0 : decide (0 ≤ x5_2) = true := decide_eq_true c22
        clear c22
        replace H := Option.bind_eq_some_iff.mp H
        obtain ⟨t379, A230, H⟩ := H
        replace H : (if t379 = true then (taskmasterref5_Is.l0 k2 a1 (wrap64 (x5_2 + 1)) a0_0 a0_1 a0_2 a0_3 a0_4 a0_5 l0_6 a0_7 a0_8) else (some false)) = some r := H
        have A23 := Aside0.mk A230
        clear A230
        by_cases c24 : t379 = true
        ·subst c24
         have H1 : (taskmasterref5_Is.l0 k2 a1 (wrap64 (x5_2 + 1)) a0_0 a0_1 a0_2 a0_3 a0_4 a0_5 l0_6 a0_7 a0_8) = some r := by rw [if_pos rfl] at H; exact H
         clear H
         have H := H1
         clear H1
         have H' := Aside0.mk H
         clear H
         obtain ⟨hcz25_0, hcz25_1, hcz25_2, hcz25_3, hcz25_4, hcz25_5, hcz25_6, hcz25_7, hcz25_8, hfz25_0, hfz25_1, hfz25_2, hfz25_3, hfz25_4, hfz25_5, hfz25_6, hfz25_7, hfz25_8⟩ := cells9 BK376.out
         have p378 : 0 ≤ (x5_2 : Int) := of_decide_eq_true (by first | (with_reducible assumption) | assumption)
         have q378 : x5_2 < (l0_6.length : Int) := of_decide_eq_true (by first | (with_reducible assumption) | assumption)
         obtain ⟨ad378, e378, hx378_0⟩ := Kd.at_int HR0_6.out x5_2 p378 q378
         cases e378
         replace hx378_0 := (HB.out.cell (World.block_lt_of_cell? w _ hx378_0)).trans hx378_0
         replace p378 := eq_true p378
         replace q378 := eq_true q378
         go_wp2_with (first | ((with_reducible refine gate_callee (f := 28) rfl ?_); refine goesL_ (some 42) rfl rfl Tryz.func28 (by kernel_rfl) rfl #[.int .i64 (rd l0_6 x5_2), .int .i64 1, .int .i64 10000] rfl (by (try simp only [List.map_toArray, List.map_cons, List.map_nil]); first | done | rfl | (simp only [List.length_drop, List.length_take]; rfl)) ?_; (with_reducible refine (taskmasterref5_in.calls (rd l0_6 x5_2) 1 10000 true _ A23.out).mono ?_); rintro e w' ⟨rfl, ⟨nd, rfl⟩⟩; refine ⟨_, rfl, ?_⟩))
         go_roundg k2
         case measure => have := HJ2.out; have := HK2.out; omega
         case rel => exact ⟨(wrap64 (x5_2 + 1)), (by first | rfl | (simp; done) | (simp [*]; done)), H', ⟨by have := HJ2.out; have := HK2.out; omega⟩, ⟨by (with_reducible repeat (first | refine blk_drewN ?_ _ | refine blk_drew ?_ | refine blk_alloc ?_ _)); exact BK376.out⟩, ⟨by repeat (first | (with_reducible first | exact HB.out | apply below_alloc | apply pw_below_drewN | apply below_drew1 | refine below_set ?_ GE376.out) | exact HB.out)⟩⟩
        ·replace c24 := Bool.eq_false_iff.mpr c24
         subst c24
         have H1 : (some false) = some r := by rw [if_neg (show ¬ (false = true) by decide)] at H; exact H
         clear H
         have H := H1
         clear H1
         obtain rfl := Option.some.inj H
         obtain ⟨hcz26_0, hcz26_1, hcz26_2, hcz26_3, hcz26_4, hcz26_5, hcz26_6, hcz26_7, hcz26_8, hfz26_0, hfz26_1, hfz26_2, hfz26_3, hfz26_4, hfz26_5, hfz26_6, hfz26_7, hfz26_8⟩ := cells9 BK376.out
         have p378 : 0 ≤ (x5_2 : Int) := of_decide_eq_true (by first | (with_reducible assumption) | assumption)
         have q378 : x5_2 < (l0_6.length : Int) := of_decide_eq_true (by first | (with_reducible assumption) | assumption)
         obtain ⟨ad378, e378, hx378_0⟩ := Kd.at_int HR0_6.out x5_2 p378 q378
         cases e378
         replace hx378_0 := (HB.out.cell (World.block_lt_of_cell? w _ hx378_0)).trans hx378_0
         replace p378 := eq_true p378
         replace q378 := eq_true q378
         go_wp2_with (first | ((with_reducible refine gate_callee (f := 28) rfl ?_); refine goesL_ (some 42) rfl rfl Tryz.func28 (by kernel_rfl) rfl #[.int .i64 (rd l0_6 x5_2), .int .i64 1, .int .i64 10000] rfl (by (try simp only [List.map_toArray, List.map_cons, List.map_nil]); first | done | rfl | (simp only [List.length_drop, List.length_take]; rfl)) ?_; (with_reducible refine (taskmasterref5_in.calls (rd l0_6 x5_2) 1 10000 false _ A23.out).mono ?_); rintro e w' ⟨rfl, ⟨nd, rfl⟩⟩; refine ⟨_, rfl, ?_⟩))
         go_ret
         exact ⟨by first | rfl | (simp [errW_none, errW_some] <;> rfl) | (simp [*, errW_none, errW_some] <;> rfl), by repeat (first | (with_reducible first | exact HB.out | apply below_alloc | apply pw_below_drewN | apply below_drew1 | refine below_set ?_ GE376.out) | exact HB.out)⟩
       ·rw [if_neg c22] at H
        exact absurd H (by simp)
      ·rw [if_neg c21] at H
       have c21b0 : decide (x5_2 < (l0_6.length : Int)) = false := decide_eq_false c21
       clear c21
       have HC27 := Aside0.mk H
       clear H
       obtain ⟨hcz28_0, hcz28_1, hcz28_2, hcz28_3, hcz28_4, hcz28_5, hcz28_6, hcz28_7, hcz28_8, hfz28_0, hfz28_1, hfz28_2, hfz28_3, hfz28_4, hfz28_5, hfz28_6, hfz28_7, hfz28_8⟩ := cells9 BK376.out
       go_upto_region 8 with (fail)
       go_cut [60] (fun v60 wc => ∃ (kq : Nat) (x60_26 : Bool), v60 = .bool x60_26 ∧ Aside0 (taskmasterref5_Is.j2 kq a1 x60_26 a0_0 a0_1 a0_2 a0_3 a0_4 a0_5 l0_6 a0_7 a0_8 = some r) ∧ Aside0 (kq ≤ k2) ∧ Aside0 (wc.heap[gb376]? = some (.cells #[.string a0_0, .int .i64 a0_1, .int .i64 a0_2, .int .i64 a0_3, .int .i64 a0_4, .int .i64 a0_5, (.slice A0_6 l0_6.length c0_6), .int .u64 a0_7, .int .u64 a0_8] 46 (0, 0))) ∧ Aside0 (Below w.heap.size w wc))
       case first =>
        have H := HC27.out
        clear HC27
        replace H := Option.bind_eq_some_iff.mp H
        obtain ⟨t380, A290, H⟩ := H
        replace H : (if t380 > a0_2 then (taskmasterref5_Is.j2 k2 a1 true a0_0 a0_1 a0_2 a0_3 a0_4 a0_5 l0_6 a0_7 a0_8) else (if a0_2 > a0_1 then (taskmasterref5_Is.j2 k2 a1 true a0_0 a0_1 a0_2 a0_3 a0_4 a0_5 l0_6 a0_7 a0_8) else (taskmasterref5_Is.j2 k2 a1 (decide (a0_1 > 10000)) a0_0 a0_1 a0_2 a0_3 a0_4 a0_5 l0_6 a0_7 a0_8))) = some r := H
        have A29 := Aside0.mk A290
        clear A290
        by_cases c30 : t380 > a0_2
        ·rw [if_pos c30] at H
         have c30b0 : decide (a0_2 < t380) = true := decide_eq_true c30
         clear c30
         (first | rw [c30b0] | (simp only [i64_w, i32_w]; rw [c30b0]) | skip)
         have H' := Aside0.mk H
         clear H
         try go_wp2
         have n0_ := Aside0.mk (blk_drew BK376.out)
         have n1_ := Aside0.mk (below_drew1 HB.out)
         clear BK376
         clear HB
         have BK376 := n0_
         have HB := n1_
         clear n0_ n1_
         refine start_ (n := 17) (S := fun w' => w'.cell? ⟨gb376, 0, none⟩ = some (.string a0_0) ∧ w'.cell? ⟨gb376, 1, none⟩ = some (.int .i64 a0_1) ∧ w'.cell? ⟨gb376, 2, none⟩ = some (.int .i64 a0_2) ∧ w'.cell? ⟨gb376, 3, none⟩ = some (.int .i64 a0_3) ∧ w'.cell? ⟨gb376, 4, none⟩ = some (.int .i64 a0_4) ∧ w'.cell? ⟨gb376, 5, none⟩ = some (.int .i64 a0_5) ∧ w'.cell? ⟨gb376, 6, none⟩ = some (.slice A0_6 l0_6.length c0_6) ∧ w'.cell? ⟨gb376, 7, none⟩ = some (.int .u64 a0_7) ∧ w'.cell? ⟨gb376, 8, none⟩ = some (.int .u64 a0_8)) (ds := []) #[false, false, false, false, false, false, false, false, false, false, false, false, false, false, false, false, false] (by kernel_rfl) rfl rfl ⟨(blk_cell BK376.out 0).trans rfl, (blk_cell BK376.out 1).trans rfl, (blk_cell BK376.out 2).trans rfl, (blk_cell BK376.out 3).trans rfl, (blk_cell BK376.out 4).trans rfl, (blk_cell BK376.out 5).trans rfl, (blk_cell BK376.out 6).trans rfl, (blk_cell BK376.out 7).trans rfl, (blk_cell BK376.out 8).trans rfl⟩ (fun hHeld => ?_); refine with_tabW taskmasterref5_Is.tab8 taskmasterref5_Is.bits8 (fun HT_ HW_ => ?_)
         generalize wr.drew = w31 at BK376 HB hHeld ⊢
         refine pure_ (i := 2) (N := some 46) (v := ?_) (a' := ?_) #[false, false, true, false, false, false, false, false, false, false, false, false, false, false, false, false, false] rfl rfl (any_of HT_.out (by kernel_rfl)) (fun _ _ _ h => h) (Or.inl ⟨by rfl, ?_⟩) ?_ ?_
         rotate_left
         ·intro w'
          go_simp
          with_reducible rfl
         rotate_left
         ·simp only [Act.put, List.setIfInBounds_toArray, List.set_cons_zero, List.set_cons_succ, i64_w, i32_w]
          rfl
         refine take_ (i := 0) (N := some 44) (v := ?_) (a' := ?_) #[true, false, true, false, false, false, false, false, false, false, false, false, false, false, false, false, false] rfl rfl (take_ofW HT_.out HW_.out (by kernel_rfl)) (fun _ _ _ h => h) (Or.inl ⟨by rfl, ?_⟩) hHeld ?_ ?_
         rotate_left
         ·rintro w' ⟨s0, s1, s2, s3, s4, s5, s6, s7, s8⟩
          go_simp
          with_reducible rfl
         rotate_left
         ·simp only [Act.put, List.setIfInBounds_toArray, List.set_cons_zero, List.set_cons_succ, i64_w, i32_w]
          rfl
         refine take_ (i := 3) (N := some 47) (v := ?_) (a' := ?_) #[true, false, true, true, false, false, false, false, false, false, false, false, false, false, false, false, false] rfl rfl (take_ofW HT_.out HW_.out (by kernel_rfl)) (fun _ _ _ h => h) (Or.inl ⟨by rfl, ?_⟩) hHeld ?_ ?_
         rotate_left
         ·rintro w' ⟨s0, s1, s2, s3, s4, s5, s6, s7, s8⟩
          go_simp
          with_reducible rfl
         rotate_left
         ·simp only [Act.put, List.setIfInBounds_toArray, List.set_cons_zero, List.set_cons_succ, i64_w, i32_w]
          rfl
         refine one_ (i := 1) (N := some 45) #[true, true, true, true, false, false, false, false, false, false, false, false, false, false, false, false, false] rfl rfl (one_of HT_.out (by kernel_rfl)) (by decide) (fun K hK => ?_)
         refine goes_ Tryz.func57 (by kernel_rfl) rfl #[.agg #[.string a0_0, .int .i64 a0_1, .int .i64 a0_2, .int .i64 a0_3, .int .i64 a0_4, .int .i64 a0_5, .slice A0_6 l0_6.length c0_6, .int .u64 a0_7, .int .u64 a0_8]] (by rfl) rfl rfl (by (try simp only [List.map_toArray, List.map_cons, List.map_nil]); first | done | rfl | (simp only [List.length_drop, List.length_take]; rfl)) ?_
         with_reducible refine (taskmasterref5_Work.calls k2 a0_0 a0_1 a0_2 a0_3 a0_4 a0_5 _ _ l0_6 a0_7 a0_8 t380 _ ?side1 ?side2 A29.out).mono ?_
         (case side1 => repeat (first | exact (Kd.C_below HR0_6.out HB.out) | (with_reducible refine Kd.C_alloc ?_ _) | (with_reducible refine Kd.C_drewN ?_ _) | (with_reducible refine Kd.C_drew ?_)))
         (case side2 => exact HC0_6.out)
         rintro e w32 ⟨rfl, hb⟩
         refine ⟨_, rfl, ?_⟩
         have n0_ := Aside0.mk (blk_below (g := gb376) (o := .cells #[.string a0_0, .int .i64 a0_1, .int .i64 a0_2, .int .i64 a0_3, .int .i64 a0_4, .int .i64 a0_5, .slice A0_6 l0_6.length c0_6, .int .u64 a0_7, .int .u64 a0_8] 46 (0, 0)) (by (with_reducible repeat (first | refine blk_drewN ?_ _ | refine blk_drew ?_ | refine blk_alloc ?_ _)); exact BK376.out) hb)
         have n1_ := Aside0.mk (below_step (by repeat (first | (with_reducible first | exact HB.out | apply below_alloc | apply pw_below_drewN | apply below_drew1 | refine below_set ?_ GE376.out) | exact HB.out)) hb)
         clear BK376
         clear HB
         have BK376 := n0_
         have HB := n1_
         clear n0_ n1_
         (try clear hb)
         (try clear hb2)
         (try clear hk)
         (try clear hi)
         refine hK.out _ _ ⟨(blk_cell BK376.out 0).trans rfl, (blk_cell BK376.out 1).trans rfl, (blk_cell BK376.out 2).trans rfl, (blk_cell BK376.out 3).trans rfl, (blk_cell BK376.out 4).trans rfl, (blk_cell BK376.out 5).trans rfl, (blk_cell BK376.out 6).trans rfl, (blk_cell BK376.out 7).trans rfl, (blk_cell BK376.out 8).trans rfl⟩ (fun hHeld => ?_)
         clear hK K
         refine norm_ (a' := ?_) ?_ ?_
         rotate_left
         ·show Act.put _ (some 45) _ = _
          simp only [Act.put, List.setIfInBounds_toArray, List.set_cons_zero, List.set_cons_succ, i64_w, i32_w]
          rfl
         refine pure_ (i := 4) (N := some 48) (v := ?_) (a' := ?_) #[true, true, true, true, true, false, false, false, false, false, false, false, false, false, false, false, false] rfl rfl (any_of HT_.out (by kernel_rfl)) (fun _ _ _ h => h) (Or.inl ⟨by rfl, ?_⟩) ?_ ?_
         rotate_left
         ·intro w'
          go_simp
          with_reducible rfl
         rotate_left
         ·simp only [Act.put, List.setIfInBounds_toArray, List.set_cons_zero, List.set_cons_succ, i64_w, i32_w]
          rfl
         refine pure_ (i := 5) (N := some 49) (v := ?_) (a' := ?_) #[true, true, true, true, true, true, false, false, false, false, false, false, false, false, false, false, false] rfl rfl (any_of HT_.out (by kernel_rfl)) (fun _ _ _ h => h) (Or.inl ⟨by rfl, ?_⟩) ?_ ?_
         rotate_left
         ·intro w'
          go_simp
          with_reducible rfl
         rotate_left
         ·simp only [Act.put, List.setIfInBounds_toArray, List.set_cons_zero, List.set_cons_succ, i64_w, i32_w]
          rfl
         refine pure_ (i := 6) (N := some 50) (v := undef) (a' := ?_) #[true, true, true, true, true, true, true, false, false, false, false, false, false, false, false, false, false] rfl rfl (any_of HT_.out (by kernel_rfl)) (fun _ _ _ h => h) (Or.inr ⟨by rfl, rfl⟩) ?_ ?_
         rotate_left
         ·simp only [Act.put, List.setIfInBounds_toArray, List.set_cons_zero, List.set_cons_succ, i64_w, i32_w]
          rfl
         refine pure_ (i := 7) (N := some 51) (v := undef) (a' := ?_) #[true, true, true, true, true, true, true, true, false, false, false, false, false, false, false, false, false] rfl rfl (any_of HT_.out (by kernel_rfl)) (fun _ _ _ h => h) (Or.inr ⟨by rfl, rfl⟩) ?_ ?_
         rotate_left
         ·simp only [Act.put, List.setIfInBounds_toArray, List.set_cons_zero, List.set_cons_succ, i64_w, i32_w]
          rfl
         refine pure_ (i := 8) (N := some 52) (v := undef) (a' := ?_) #[true, true, true, true, true, true, true, true, true, false, false, false, false, false, false, false, false] rfl rfl (any_of HT_.out (by kernel_rfl)) (fun _ _ _ h => h) (Or.inr ⟨by rfl, rfl⟩) ?_ ?_
         rotate_left
         ·simp only [Act.put, List.setIfInBounds_toArray, List.set_cons_zero, List.set_cons_succ, i64_w, i32_w]
          rfl
         refine pure_ (i := 9) (N := some 53) (v := undef) (a' := ?_) #[true, true, true, true, true, true, true, true, true, true, false, false, false, false, false, false, false] rfl rfl (any_of HT_.out (by kernel_rfl)) (fun _ _ _ h => h) (Or.inr ⟨by rfl, rfl⟩) ?_ ?_
         rotate_left
         ·simp only [Act.put, List.setIfInBounds_toArray, List.set_cons_zero, List.set_cons_succ, i64_w, i32_w]
          rfl
         refine pure_ (i := 10) (N := some 54) (v := undef) (a' := ?_) #[true, true, true, true, true, true, true, true, true, true, true, false, false, false, false, false, false] rfl rfl (any_of HT_.out (by kernel_rfl)) (fun _ _ _ h => h) (Or.inr ⟨by rfl, rfl⟩) ?_ ?_
         rotate_left
         ·simp only [Act.put, List.setIfInBounds_toArray, List.set_cons_zero, List.set_cons_succ, i64_w, i32_w]
          rfl
         refine pure_ (i := 11) (N := some 55) (v := ?_) (a' := ?_) #[true, true, true, true, true, true, true, true, true, true, true, true, false, false, false, false, false] rfl rfl (any_of HT_.out (by kernel_rfl)) (fun _ _ _ h => h) (Or.inl ⟨by rfl, ?_⟩) ?_ ?_
         rotate_left
         ·intro w'
          go_simp
          with_reducible rfl
         rotate_left
         ·simp only [Act.put, List.setIfInBounds_toArray, List.set_cons_zero, List.set_cons_succ, i64_w, i32_w]
          rfl
         refine pure_ (i := 12) (N := some 56) (v := ?_) (a' := ?_) #[true, true, true, true, true, true, true, true, true, true, true, true, true, false, false, false, false] rfl rfl (any_of HT_.out (by kernel_rfl)) (fun _ _ _ h => h) (Or.inl ⟨by rfl, ?_⟩) ?_ ?_
         rotate_left
         ·intro w'
          go_simp
          with_reducible rfl
         rotate_left
         ·simp only [Act.put, List.setIfInBounds_toArray, List.set_cons_zero, List.set_cons_succ, i64_w, i32_w]
          rfl
         refine pure_ (i := 13) (N := some 57) (v := undef) (a' := ?_) #[true, true, true, true, true, true, true, true, true, true, true, true, true, true, false, false, false] rfl rfl (any_of HT_.out (by kernel_rfl)) (fun _ _ _ h => h) (Or.inr ⟨by rfl, rfl⟩) ?_ ?_
         rotate_left
         ·simp only [Act.put, List.setIfInBounds_toArray, List.set_cons_zero, List.set_cons_succ, i64_w, i32_w]
          rfl
         refine pure_ (i := 14) (N := some 58) (v := undef) (a' := ?_) #[true, true, true, true, true, true, true, true, true, true, true, true, true, true, true, false, false] rfl rfl (any_of HT_.out (by kernel_rfl)) (fun _ _ _ h => h) (Or.inr ⟨by rfl, rfl⟩) ?_ ?_
         rotate_left
         ·simp only [Act.put, List.setIfInBounds_toArray, List.set_cons_zero, List.set_cons_succ, i64_w, i32_w]
          rfl
         refine pure_ (i := 15) (N := some 59) (v := undef) (a' := ?_) #[true, true, true, true, true, true, true, true, true, true, true, true, true, true, true, true, false] rfl rfl (any_of HT_.out (by kernel_rfl)) (fun _ _ _ h => h) (Or.inr ⟨by rfl, rfl⟩) ?_ ?_
         rotate_left
         ·simp only [Act.put, List.setIfInBounds_toArray, List.set_cons_zero, List.set_cons_succ, i64_w, i32_w]
          rfl
         refine pure_ (i := 16) (N := some 60) (v := ?_) (a' := ?_) #[true, true, true, true, true, true, true, true, true, true, true, true, true, true, true, true, true] rfl rfl (any_of HT_.out (by kernel_rfl)) (fun _ _ _ h => h) (Or.inl ⟨by rfl, ?_⟩) ?_ ?_
         rotate_left
         ·intro w'
          go_simp
          with_reducible rfl
         rotate_left
         ·simp only [Act.put, List.setIfInBounds_toArray, List.set_cons_zero, List.set_cons_succ, i64_w, i32_w]
          rfl
         refine done_ (done_of HT_.out (by kernel_rfl)) ?_
         try go_wp2
         go_meet
         case rel => exact ⟨_, (true), (by first | rfl | (simp; done) | (simp [*]; done)), H', ⟨by have := HJ2.out; have := HK2.out; first | omega | exact Nat.le_refl _⟩, ⟨by (with_reducible repeat (first | refine blk_drewN ?_ _ | refine blk_drew ?_ | refine blk_alloc ?_ _)); exact BK376.out⟩, ⟨by repeat (first | (with_reducible first | exact HB.out | apply below_alloc | apply pw_below_drewN | apply below_drew1 | refine below_set ?_ GE376.out) | exact HB.out)⟩⟩
        ·rw [if_neg c30] at H
         have c30b0 : decide (a0_2 < t380) = false := decide_eq_false c30
         clear c30
         (first | rw [c30b0] | (simp only [i64_w, i32_w]; rw [c30b0]) | skip)
         by_cases c33 : a0_2 > a0_1
         ·rw [if_pos c33] at H
          have c33b0 : decide (a0_1 < a0_2) = true := decide_eq_true c33
          clear c33
          have H' := Aside0.mk H
          clear H
          try go_wp2
          have n0_ := Aside0.mk (blk_drew BK376.out)
          have n1_ := Aside0.mk (below_drew1 HB.out)
          clear BK376
          clear HB
          have BK376 := n0_
          have HB := n1_
          clear n0_ n1_
          refine start_ (n := 17) (S := fun w' => w'.cell? ⟨gb376, 0, none⟩ = some (.string a0_0) ∧ w'.cell? ⟨gb376, 1, none⟩ = some (.int .i64 a0_1) ∧ w'.cell? ⟨gb376, 2, none⟩ = some (.int .i64 a0_2) ∧ w'.cell? ⟨gb376, 3, none⟩ = some (.int .i64 a0_3) ∧ w'.cell? ⟨gb376, 4, none⟩ = some (.int .i64 a0_4) ∧ w'.cell? ⟨gb376, 5, none⟩ = some (.int .i64 a0_5) ∧ w'.cell? ⟨gb376, 6, none⟩ = some (.slice A0_6 l0_6.length c0_6) ∧ w'.cell? ⟨gb376, 7, none⟩ = some (.int .u64 a0_7) ∧ w'.cell? ⟨gb376, 8, none⟩ = some (.int .u64 a0_8)) (ds := []) #[false, false, false, false, false, false, false, false, false, false, false, false, false, false, false, false, false] (by kernel_rfl) rfl rfl ⟨(blk_cell BK376.out 0).trans rfl, (blk_cell BK376.out 1).trans rfl, (blk_cell BK376.out 2).trans rfl, (blk_cell BK376.out 3).trans rfl, (blk_cell BK376.out 4).trans rfl, (blk_cell BK376.out 5).trans rfl, (blk_cell BK376.out 6).trans rfl, (blk_cell BK376.out 7).trans rfl, (blk_cell BK376.out 8).trans rfl⟩ (fun hHeld => ?_); refine with_tabW taskmasterref5_Is.tab8 taskmasterref5_Is.bits8 (fun HT_ HW_ => ?_)
          generalize wr.drew = w34 at BK376 HB hHeld ⊢
          refine pure_ (i := 2) (N := some 46) (v := ?_) (a' := ?_) #[false, false, true, false, false, false, false, false, false, false, false, false, false, false, false, false, false] rfl rfl (any_of HT_.out (by kernel_rfl)) (fun _ _ _ h => h) (Or.inl ⟨by rfl, ?_⟩) ?_ ?_
          rotate_left
          ·intro w'
           go_simp
           with_reducible rfl
          rotate_left
          ·simp only [Act.put, List.setIfInBounds_toArray, List.set_cons_zero, List.set_cons_succ, i64_w, i32_w]
           rfl
          refine take_ (i := 0) (N := some 44) (v := ?_) (a' := ?_) #[true, false, true, false, false, false, false, false, false, false, false, false, false, false, false, false, false] rfl rfl (take_ofW HT_.out HW_.out (by kernel_rfl)) (fun _ _ _ h => h) (Or.inl ⟨by rfl, ?_⟩) hHeld ?_ ?_
          rotate_left
          ·rintro w' ⟨s0, s1, s2, s3, s4, s5, s6, s7, s8⟩
           go_simp
           with_reducible rfl
          rotate_left
          ·simp only [Act.put, List.setIfInBounds_toArray, List.set_cons_zero, List.set_cons_succ, i64_w, i32_w]
           rfl
          refine take_ (i := 3) (N := some 47) (v := ?_) (a' := ?_) #[true, false, true, true, false, false, false, false, false, false, false, false, false, false, false, false, false] rfl rfl (take_ofW HT_.out HW_.out (by kernel_rfl)) (fun _ _ _ h => h) (Or.inl ⟨by rfl, ?_⟩) hHeld ?_ ?_
          rotate_left
          ·rintro w' ⟨s0, s1, s2, s3, s4, s5, s6, s7, s8⟩
           go_simp
           with_reducible rfl
          rotate_left
          ·simp only [Act.put, List.setIfInBounds_toArray, List.set_cons_zero, List.set_cons_succ, i64_w, i32_w]
           rfl
          refine one_ (i := 1) (N := some 45) #[true, true, true, true, false, false, false, false, false, false, false, false, false, false, false, false, false] rfl rfl (one_of HT_.out (by kernel_rfl)) (by decide) (fun K hK => ?_)
          refine goes_ Tryz.func57 (by kernel_rfl) rfl #[.agg #[.string a0_0, .int .i64 a0_1, .int .i64 a0_2, .int .i64 a0_3, .int .i64 a0_4, .int .i64 a0_5, .slice A0_6 l0_6.length c0_6, .int .u64 a0_7, .int .u64 a0_8]] (by rfl) rfl rfl (by (try simp only [List.map_toArray, List.map_cons, List.map_nil]); first | done | rfl | (simp only [List.length_drop, List.length_take]; rfl)) ?_
          with_reducible refine (taskmasterref5_Work.calls k2 a0_0 a0_1 a0_2 a0_3 a0_4 a0_5 _ _ l0_6 a0_7 a0_8 t380 _ ?side1 ?side2 A29.out).mono ?_
          (case side1 => repeat (first | exact (Kd.C_below HR0_6.out HB.out) | (with_reducible refine Kd.C_alloc ?_ _) | (with_reducible refine Kd.C_drewN ?_ _) | (with_reducible refine Kd.C_drew ?_)))
          (case side2 => exact HC0_6.out)
          rintro e w35 ⟨rfl, hb⟩
          refine ⟨_, rfl, ?_⟩
          have n0_ := Aside0.mk (blk_below (g := gb376) (o := .cells #[.string a0_0, .int .i64 a0_1, .int .i64 a0_2, .int .i64 a0_3, .int .i64 a0_4, .int .i64 a0_5, .slice A0_6 l0_6.length c0_6, .int .u64 a0_7, .int .u64 a0_8] 46 (0, 0)) (by (with_reducible repeat (first | refine blk_drewN ?_ _ | refine blk_drew ?_ | refine blk_alloc ?_ _)); exact BK376.out) hb)
          have n1_ := Aside0.mk (below_step (by repeat (first | (with_reducible first | exact HB.out | apply below_alloc | apply pw_below_drewN | apply below_drew1 | refine below_set ?_ GE376.out) | exact HB.out)) hb)
          clear BK376
          clear HB
          have BK376 := n0_
          have HB := n1_
          clear n0_ n1_
          (try clear hb)
          (try clear hb2)
          (try clear hk)
          (try clear hi)
          refine hK.out _ _ ⟨(blk_cell BK376.out 0).trans rfl, (blk_cell BK376.out 1).trans rfl, (blk_cell BK376.out 2).trans rfl, (blk_cell BK376.out 3).trans rfl, (blk_cell BK376.out 4).trans rfl, (blk_cell BK376.out 5).trans rfl, (blk_cell BK376.out 6).trans rfl, (blk_cell BK376.out 7).trans rfl, (blk_cell BK376.out 8).trans rfl⟩ (fun hHeld => ?_)
          clear hK K
          refine norm_ (a' := ?_) ?_ ?_
          rotate_left
          ·show Act.put _ (some 45) _ = _
           simp only [Act.put, List.setIfInBounds_toArray, List.set_cons_zero, List.set_cons_succ, i64_w, i32_w]
           rfl
          refine pure_ (i := 4) (N := some 48) (v := ?_) (a' := ?_) #[true, true, true, true, true, false, false, false, false, false, false, false, false, false, false, false, false] rfl rfl (any_of HT_.out (by kernel_rfl)) (fun _ _ _ h => h) (Or.inl ⟨by rfl, ?_⟩) ?_ ?_
          rotate_left
          ·intro w'
           go_simp
           with_reducible rfl
          rotate_left
          ·simp only [Act.put, List.setIfInBounds_toArray, List.set_cons_zero, List.set_cons_succ, i64_w, i32_w]
           rfl
          refine pure_ (i := 5) (N := some 49) (v := ?_) (a' := ?_) #[true, true, true, true, true, true, false, false, false, false, false, false, false, false, false, false, false] rfl rfl (any_of HT_.out (by kernel_rfl)) (fun _ _ _ h => h) (Or.inl ⟨by rfl, ?_⟩) ?_ ?_
          rotate_left
          ·intro w'
           go_simp
           with_reducible rfl
          rotate_left
          ·simp only [Act.put, List.setIfInBounds_toArray, List.set_cons_zero, List.set_cons_succ, i64_w, i32_w]
           rfl
          refine pure_ (i := 6) (N := some 50) (v := ?_) (a' := ?_) #[true, true, true, true, true, true, true, false, false, false, false, false, false, false, false, false, false] rfl rfl (any_of HT_.out (by kernel_rfl)) (fun _ _ _ h => h) (Or.inl ⟨by rfl, ?_⟩) ?_ ?_
          rotate_left
          ·intro w'
           go_simp
           with_reducible rfl
          rotate_left
          ·simp only [Act.put, List.setIfInBounds_toArray, List.set_cons_zero, List.set_cons_succ, i64_w, i32_w]
           rfl
          refine pure_ (i := 8) (N := some 52) (v := ?_) (a' := ?_) #[true, true, true, true, true, true, true, false, true, false, false, false, false, false, false, false, false] rfl rfl (any_of HT_.out (by kernel_rfl)) (fun _ _ _ h => h) (Or.inl ⟨by rfl, ?_⟩) ?_ ?_
          rotate_left
          ·intro w'
           go_simp
           with_reducible rfl
          rotate_left
          ·simp only [Act.put, List.setIfInBounds_toArray, List.set_cons_zero, List.set_cons_succ, i64_w, i32_w]
           rfl
          refine take_ (i := 7) (N := some 51) (v := ?_) (a' := ?_) #[true, true, true, true, true, true, true, true, true, false, false, false, false, false, false, false, false] rfl rfl (take_ofW HT_.out HW_.out (by kernel_rfl)) (fun _ _ _ h => h) (Or.inl ⟨by rfl, ?_⟩) hHeld ?_ ?_
          rotate_left
          ·rintro w' ⟨s0, s1, s2, s3, s4, s5, s6, s7, s8⟩
           go_simp
           with_reducible rfl
          rotate_left
          ·simp only [Act.put, List.setIfInBounds_toArray, List.set_cons_zero, List.set_cons_succ, i64_w, i32_w]
           rfl
          refine take_ (i := 9) (N := some 53) (v := ?_) (a' := ?_) #[true, true, true, true, true, true, true, true, true, true, false, false, false, false, false, false, false] rfl rfl (take_ofW HT_.out HW_.out (by kernel_rfl)) (fun _ _ _ h => h) (Or.inl ⟨by rfl, ?_⟩) hHeld ?_ ?_
          rotate_left
          ·rintro w' ⟨s0, s1, s2, s3, s4, s5, s6, s7, s8⟩
           go_simp
           with_reducible rfl
          rotate_left
          ·simp only [Act.put, List.setIfInBounds_toArray, List.set_cons_zero, List.set_cons_succ, i64_w, i32_w]
           rfl
          refine pure_ (i := 10) (N := some 54) (v := ?_) (a' := ?_) #[true, true, true, true, true, true, true, true, true, true, true, false, false, false, false, false, false] rfl rfl (any_of HT_.out (by kernel_rfl)) (fun _ _ _ h => h) (Or.inl ⟨by rfl, ?_⟩) ?_ ?_
          rotate_left
          ·intro w'
           go_simp
           with_reducible rfl
          rotate_left
          ·simp only [Act.put, List.setIfInBounds_toArray, List.set_cons_zero, List.set_cons_succ, i64_w, i32_w]
           rfl
          refine pure_ (i := 11) (N := some 55) (v := ?_) (a' := ?_) #[true, true, true, true, true, true, true, true, true, true, true, true, false, false, false, false, false] rfl rfl (any_of HT_.out (by kernel_rfl)) (fun _ _ _ h => h) (Or.inl ⟨by rfl, ?_⟩) ?_ ?_
          rotate_left
          ·intro w'
           go_simp
           with_reducible rfl
          rotate_left
          ·simp only [Act.put, List.setIfInBounds_toArray, List.set_cons_zero, List.set_cons_succ, i64_w, i32_w]
           rfl
          refine pure_ (i := 12) (N := some 56) (v := ?_) (a' := ?_) #[true, true, true, true, true, true, true, true, true, true, true, true, true, false, false, false, false] rfl rfl (any_of HT_.out (by kernel_rfl)) (fun _ _ _ h => h) (Or.inl ⟨by rfl, ?_⟩) ?_ ?_
          rotate_left
          ·intro w'
           go_simp
           with_reducible rfl
          rotate_left
          ·simp only [Act.put, List.setIfInBounds_toArray, List.set_cons_zero, List.set_cons_succ, i64_w, i32_w]
           rfl
          refine pure_ (i := 13) (N := some 57) (v := undef) (a' := ?_) #[true, true, true, true, true, true, true, true, true, true, true, true, true, true, false, false, false] rfl rfl (any_of HT_.out (by kernel_rfl)) (fun _ _ _ h => h) (Or.inr ⟨by rfl, rfl⟩) ?_ ?_
          rotate_left
          ·simp only [Act.put, List.setIfInBounds_toArray, List.set_cons_zero, List.set_cons_succ, i64_w, i32_w]
           rfl
          refine pure_ (i := 14) (N := some 58) (v := undef) (a' := ?_) #[true, true, true, true, true, true, true, true, true, true, true, true, true, true, true, false, false] rfl rfl (any_of HT_.out (by kernel_rfl)) (fun _ _ _ h => h) (Or.inr ⟨by rfl, rfl⟩) ?_ ?_
          rotate_left
          ·simp only [Act.put, List.setIfInBounds_toArray, List.set_cons_zero, List.set_cons_succ, i64_w, i32_w]
           rfl
          refine pure_ (i := 15) (N := some 59) (v := undef) (a' := ?_) #[true, true, true, true, true, true, true, true, true, true, true, true, true, true, true, true, false] rfl rfl (any_of HT_.out (by kernel_rfl)) (fun _ _ _ h => h) (Or.inr ⟨by rfl, rfl⟩) ?_ ?_
          rotate_left
          ·simp only [Act.put, List.setIfInBounds_toArray, List.set_cons_zero, List.set_cons_succ, i64_w, i32_w]
           rfl
          refine pure_ (i := 16) (N := some 60) (v := ?_) (a' := ?_) #[true, true, true, true, true, true, true, true, true, true, true, true, true, true, true, true, true] rfl rfl (any_of HT_.out (by kernel_rfl)) (fun _ _ _ h => h) (Or.inl ⟨by rfl, ?_⟩) ?_ ?_
          rotate_left
          ·intro w'
           go_simp
           with_reducible rfl
          rotate_left
          ·simp only [Act.put, List.setIfInBounds_toArray, List.set_cons_zero, List.set_cons_succ, i64_w, i32_w]
           rfl
          refine done_ (done_of HT_.out (by kernel_rfl)) ?_
          try go_wp2
          go_meet
          case rel => exact ⟨_, (true), (by first | rfl | (simp; done) | (simp [*]; done)), H', ⟨by have := HJ2.out; have := HK2.out; first | omega | exact Nat.le_refl _⟩, ⟨by (with_reducible repeat (first | refine blk_drewN ?_ _ | refine blk_drew ?_ | refine blk_alloc ?_ _)); exact BK376.out⟩, ⟨by repeat (first | (with_reducible first | exact HB.out | apply below_alloc | apply pw_below_drewN | apply below_drew1 | refine below_set ?_ GE376.out) | exact HB.out)⟩⟩
         ·rw [if_neg c33] at H
          have c33b0 : decide (a0_1 < a0_2) = false := decide_eq_false c33
          clear c33
          have H' := Aside0.mk H
          clear H
          try go_wp2
          have n0_ := Aside0.mk (blk_drew BK376.out)
          have n1_ := Aside0.mk (below_drew1 HB.out)
          clear BK376
          clear HB
          have BK376 := n0_
          have HB := n1_
          clear n0_ n1_
          refine start_ (n := 17) (S := fun w' => w'.cell? ⟨gb376, 0, none⟩ = some (.string a0_0) ∧ w'.cell? ⟨gb376, 1, none⟩ = some (.int .i64 a0_1) ∧ w'.cell? ⟨gb376, 2, none⟩ = some (.int .i64 a0_2) ∧ w'.cell? ⟨gb376, 3, none⟩ = some (.int .i64 a0_3) ∧ w'.cell? ⟨gb376, 4, none⟩ = some (.int .i64 a0_4) ∧ w'.cell? ⟨gb376, 5, none⟩ = some (.int .i64 a0_5) ∧ w'.cell? ⟨gb376, 6, none⟩ = some (.slice A0_6 l0_6.length c0_6) ∧ w'.cell? ⟨gb376, 7, none⟩ = some (.int .u64 a0_7) ∧ w'.cell? ⟨gb376, 8, none⟩ = some (.int .u64 a0_8)) (ds := []) #[false, false, false, false, false, false, false, false, false, false, false, false, false, false, false, false, false] (by kernel_rfl) rfl rfl ⟨(blk_cell BK376.out 0).trans rfl, (blk_cell BK376.out 1).trans rfl, (blk_cell BK376.out 2).trans rfl, (blk_cell BK376.out 3).trans rfl, (blk_cell BK376.out 4).trans rfl, (blk_cell BK376.out 5).trans rfl, (blk_cell BK376.out 6).trans rfl, (blk_cell BK376.out 7).trans rfl, (blk_cell BK376.out 8).trans rfl⟩ (fun hHeld => ?_); refine with_tabW taskmasterref5_Is.tab8 taskmasterref5_Is.bits8 (fun HT_ HW_ => ?_)
          generalize wr.drew = w36 at BK376 HB hHeld ⊢
          refine pure_ (i := 2) (N := some 46) (v := ?_) (a' := ?_) #[false, false, true, false, false, false, false, false, false, false, false, false, false, false, false, false, false] rfl rfl (any_of HT_.out (by kernel_rfl)) (fun _ _ _ h => h) (Or.inl ⟨by rfl, ?_⟩) ?_ ?_
          rotate_left
          ·intro w'
           go_simp
           with_reducible rfl
          rotate_left
          ·simp only [Act.put, List.setIfInBounds_toArray, List.set_cons_zero, List.set_cons_succ, i64_w, i32_w]
           rfl
          refine take_ (i := 0) (N := some 44) (v := ?_) (a' := ?_) #[true, false, true, false, false, false, false, false, false, false, false, false, false, false, false, false, false] rfl rfl (take_ofW HT_.out HW_.out (by kernel_rfl)) (fun _ _ _ h => h) (Or.inl ⟨by rfl, ?_⟩) hHeld ?_ ?_
          rotate_left
          ·rintro w' ⟨s0, s1, s2, s3, s4, s5, s6, s7, s8⟩
           go_simp
           with_reducible rfl
          rotate_left
          ·simp only [Act.put, List.setIfInBounds_toArray, List.set_cons_zero, List.set_cons_succ, i64_w, i32_w]
           rfl
          refine take_ (i := 3) (N := some 47) (v := ?_) (a' := ?_) #[true, false, true, true, false, false, false, false, false, false, false, false, false, false, false, false, false] rfl rfl (take_ofW HT_.out HW_.out (by kernel_rfl)) (fun _ _ _ h => h) (Or.inl ⟨by rfl, ?_⟩) hHeld ?_ ?_
          rotate_left
          ·rintro w' ⟨s0, s1, s2, s3, s4, s5, s6, s7, s8⟩
           go_simp
           with_reducible rfl
          rotate_left
          ·simp only [Act.put, List.setIfInBounds_toArray, List.set_cons_zero, List.set_cons_succ, i64_w, i32_w]
           rfl
          refine one_ (i := 1) (N := some 45) #[true, true, true, true, false, false, false, false, false, false, false, false, false, false, false, false, false] rfl rfl (one_of HT_.out (by kernel_rfl)) (by decide) (fun K hK => ?_)
          refine goes_ Tryz.func57 (by kernel_rfl) rfl #[.agg #[.string a0_0, .int .i64 a0_1, .int .i64 a0_2, .int .i64 a0_3, .int .i64 a0_4, .int .i64 a0_5, .slice A0_6 l0_6.length c0_6, .int .u64 a0_7, .int .u64 a0_8]] (by rfl) rfl rfl (by (try simp only [List.map_toArray, List.map_cons, List.map_nil]); first | done | rfl | (simp only [List.length_drop, List.length_take]; rfl)) ?_
          with_reducible refine (taskmasterref5_Work.calls k2 a0_0 a0_1 a0_2 a0_3 a0_4 a0_5 _ _ l0_6 a0_7 a0_8 t380 _ ?side1 ?side2 A29.out).mono ?_
          (case side1 => repeat (first | exact (Kd.C_below HR0_6.out HB.out) | (with_reducible refine Kd.C_alloc ?_ _) | (with_reducible refine Kd.C_drewN ?_ _) | (with_reducible refine Kd.C_drew ?_)))
          (case side2 => exact HC0_6.out)
          rintro e w37 ⟨rfl, hb⟩
          refine ⟨_, rfl, ?_⟩
          have n0_ := Aside0.mk (blk_below (g := gb376) (o := .cells #[.string a0_0, .int .i64 a0_1, .int .i64 a0_2, .int .i64 a0_3, .int .i64 a0_4, .int .i64 a0_5, .slice A0_6 l0_6.length c0_6, .int .u64 a0_7, .int .u64 a0_8] 46 (0, 0)) (by (with_reducible repeat (first | refine blk_drewN ?_ _ | refine blk_drew ?_ | refine blk_alloc ?_ _)); exact BK376.out) hb)
          have n1_ := Aside0.mk (below_step (by repeat (first | (with_reducible first | exact HB.out | apply below_alloc | apply pw_below_drewN | apply below_drew1 | refine below_set ?_ GE376.out) | exact HB.out)) hb)
          clear BK376
          clear HB
          have BK376 := n0_
          have HB := n1_
          clear n0_ n1_
          (try clear hb)
          (try clear hb2)
          (try clear hk)
          (try clear hi)
          refine hK.out _ _ ⟨(blk_cell BK376.out 0).trans rfl, (blk_cell BK376.out 1).trans rfl, (blk_cell BK376.out 2).trans rfl, (blk_cell BK376.out 3).trans rfl, (blk_cell BK376.out 4).trans rfl, (blk_cell BK376.out 5).trans rfl, (blk_cell BK376.out 6).trans rfl, (blk_cell BK376.out 7).trans rfl, (blk_cell BK376.out 8).trans rfl⟩ (fun hHeld => ?_)
          clear hK K
          refine norm_ (a' := ?_) ?_ ?_
          rotate_left
          ·show Act.put _ (some 45) _ = _
           simp only [Act.put, List.setIfInBounds_toArray, List.set_cons_zero, List.set_cons_succ, i64_w, i32_w]
           rfl
          refine pure_ (i := 4) (N := some 48) (v := ?_) (a' := ?_) #[true, true, true, true, true, false, false, false, false, false, false, false, false, false, false, false, false] rfl rfl (any_of HT_.out (by kernel_rfl)) (fun _ _ _ h => h) (Or.inl ⟨by rfl, ?_⟩) ?_ ?_
          rotate_left
          ·intro w'
           go_simp
           with_reducible rfl
          rotate_left
          ·simp only [Act.put, List.setIfInBounds_toArray, List.set_cons_zero, List.set_cons_succ, i64_w, i32_w]
           rfl
          refine pure_ (i := 5) (N := some 49) (v := ?_) (a' := ?_) #[true, true, true, true, true, true, false, false, false, false, false, false, false, false, false, false, false] rfl rfl (any_of HT_.out (by kernel_rfl)) (fun _ _ _ h => h) (Or.inl ⟨by rfl, ?_⟩) ?_ ?_
          rotate_left
          ·intro w'
           go_simp
           with_reducible rfl
          rotate_left
          ·simp only [Act.put, List.setIfInBounds_toArray, List.set_cons_zero, List.set_cons_succ, i64_w, i32_w]
           rfl
          refine pure_ (i := 6) (N := some 50) (v := ?_) (a' := ?_) #[true, true, true, true, true, true, true, false, false, false, false, false, false, false, false, false, false] rfl rfl (any_of HT_.out (by kernel_rfl)) (fun _ _ _ h => h) (Or.inl ⟨by rfl, ?_⟩) ?_ ?_
          rotate_left
          ·intro w'
           go_simp
           with_reducible rfl
          rotate_left
          ·simp only [Act.put, List.setIfInBounds_toArray, List.set_cons_zero, List.set_cons_succ, i64_w, i32_w]
           rfl
          refine pure_ (i := 8) (N := some 52) (v := ?_) (a' := ?_) #[true, true, true, true, true, true, true, false, true, false, false, false, false, false, false, false, false] rfl rfl (any_of HT_.out (by kernel_rfl)) (fun _ _ _ h => h) (Or.inl ⟨by rfl, ?_⟩) ?_ ?_
          rotate_left
          ·intro w'
           go_simp
           with_reducible rfl
          rotate_left
          ·simp only [Act.put, List.setIfInBounds_toArray, List.set_cons_zero, List.set_cons_succ, i64_w, i32_w]
           rfl
          refine take_ (i := 7) (N := some 51) (v := ?_) (a' := ?_) #[true, true, true, true, true, true, true, true, true, false, false, false, false, false, false, false, false] rfl rfl (take_ofW HT_.out HW_.out (by kernel_rfl)) (fun _ _ _ h => h) (Or.inl ⟨by rfl, ?_⟩) hHeld ?_ ?_
          rotate_left
          ·rintro w' ⟨s0, s1, s2, s3, s4, s5, s6, s7, s8⟩
           go_simp
           with_reducible rfl
          rotate_left
          ·simp only [Act.put, List.setIfInBounds_toArray, List.set_cons_zero, List.set_cons_succ, i64_w, i32_w]
           rfl
          refine take_ (i := 9) (N := some 53) (v := ?_) (a' := ?_) #[true, true, true, true, true, true, true, true, true, true, false, false, false, false, false, false, false] rfl rfl (take_ofW HT_.out HW_.out (by kernel_rfl)) (fun _ _ _ h => h) (Or.inl ⟨by rfl, ?_⟩) hHeld ?_ ?_
          rotate_left
          ·rintro w' ⟨s0, s1, s2, s3, s4, s5, s6, s7, s8⟩
           go_simp
           with_reducible rfl
          rotate_left
          ·simp only [Act.put, List.setIfInBounds_toArray, List.set_cons_zero, List.set_cons_succ, i64_w, i32_w]
           rfl
          refine pure_ (i := 10) (N := some 54) (v := ?_) (a' := ?_) #[true, true, true, true, true, true, true, true, true, true, true, false, false, false, false, false, false] rfl rfl (any_of HT_.out (by kernel_rfl)) (fun _ _ _ h => h) (Or.inl ⟨by rfl, ?_⟩) ?_ ?_
          rotate_left
          ·intro w'
           go_simp
           with_reducible rfl
          rotate_left
          ·simp only [Act.put, List.setIfInBounds_toArray, List.set_cons_zero, List.set_cons_succ, i64_w, i32_w]
           rfl
          refine pure_ (i := 11) (N := some 55) (v := ?_) (a' := ?_) #[true, true, true, true, true, true, true, true, true, true, true, true, false, false, false, false, false] rfl rfl (any_of HT_.out (by kernel_rfl)) (fun _ _ _ h => h) (Or.inl ⟨by rfl, ?_⟩) ?_ ?_
          rotate_left
          ·intro w'
           go_simp
           with_reducible rfl
          rotate_left
          ·simp only [Act.put, List.setIfInBounds_toArray, List.set_cons_zero, List.set_cons_succ, i64_w, i32_w]
           rfl
          refine pure_ (i := 12) (N := some 56) (v := ?_) (a' := ?_) #[true, true, true, true, true, true, true, true, true, true, true, true, true, false, false, false, false] rfl rfl (any_of HT_.out (by kernel_rfl)) (fun _ _ _ h => h) (Or.inl ⟨by rfl, ?_⟩) ?_ ?_
          rotate_left
          ·intro w'
           go_simp
           with_reducible rfl
          rotate_left
          ·simp only [Act.put, List.setIfInBounds_toArray, List.set_cons_zero, List.set_cons_succ, i64_w, i32_w]
           rfl
          refine pure_ (i := 13) (N := some 57) (v := ?_) (a' := ?_) #[true, true, true, true, true, true, true, true, true, true, true, true, true, true, false, false, false] rfl rfl (any_of HT_.out (by kernel_rfl)) (fun _ _ _ h => h) (Or.inl ⟨by rfl, ?_⟩) ?_ ?_
          rotate_left
          ·intro w'
           go_simp
           with_reducible rfl
          rotate_left
          ·simp only [Act.put, List.setIfInBounds_toArray, List.set_cons_zero, List.set_cons_succ, i64_w, i32_w]
           rfl
          refine take_ (i := 14) (N := some 58) (v := ?_) (a' := ?_) #[true, true, true, true, true, true, true, true, true, true, true, true, true, true, true, false, false] rfl rfl (take_ofW HT_.out HW_.out (by kernel_rfl)) (fun _ _ _ h => h) (Or.inl ⟨by rfl, ?_⟩) hHeld ?_ ?_
          rotate_left
          ·rintro w' ⟨s0, s1, s2, s3, s4, s5, s6, s7, s8⟩
           go_simp
           with_reducible rfl
          rotate_left
          ·simp only [Act.put, List.setIfInBounds_toArray, List.set_cons_zero, List.set_cons_succ, i64_w, i32_w]
           rfl
          refine pure_ (i := 15) (N := some 59) (v := ?_) (a' := ?_) #[true, true, true, true, true, true, true, true, true, true, true, true, true, true, true, true, false] rfl rfl (any_of HT_.out (by kernel_rfl)) (fun _ _ _ h => h) (Or.inl ⟨by rfl, ?_⟩) ?_ ?_
          rotate_left
          ·intro w'
           go_simp
           with_reducible rfl
          rotate_left
          ·simp only [Act.put, List.setIfInBounds_toArray, List.set_cons_zero, List.set_cons_succ, i64_w, i32_w]
           rfl
          refine pure_ (i := 16) (N := some 60) (v := ?_) (a' := ?_) #[true, true, true, true, true, true, true, true, true, true, true, true, true, true, true, true, true] rfl rfl (any_of HT_.out (by kernel_rfl)) (fun _ _ _ h => h) (Or.inl ⟨by rfl, ?_⟩) ?_ ?_
          rotate_left
          ·intro w'
           go_simp
           with_reducible rfl
          rotate_left
          ·simp only [Act.put, List.setIfInBounds_toArray, List.set_cons_zero, List.set_cons_succ, i64_w, i32_w]
           rfl
          refine done_ (done_of HT_.out (by kernel_rfl)) ?_
          try go_wp2
          go_meet
          case rel => exact ⟨_, (decide (a0_1 > 10000)), (by first | rfl | (simp; done) | (simp [*]; done)), H', ⟨by have := HJ2.out; have := HK2.out; first | omega | exact Nat.le_refl _⟩, ⟨by (with_reducible repeat (first | refine blk_drewN ?_ _ | refine blk_drew ?_ | refine blk_alloc ?_ _)); exact BK376.out⟩, ⟨by repeat (first | (with_reducible first | exact HB.out | apply below_alloc | apply pw_below_drewN | apply below_drew1 | refine below_set ?_ GE376.out) | exact HB.out)⟩⟩
       case rest =>
        clear HC27
        try clear c2
        try clear p2
        try clear c3
        try clear p3
        try clear q3
        try clear hx3
        try clear c5
        try clear p6
        try clear c21
        try clear c21b0
        try clear c22
        try clear c22b0
        try clear c24
        try clear c28
        try clear c30
        try clear c30b0
        try clear c33
        try clear c33b0
        try clear p37
        try clear q37
        try clear hx37
        try clear hcz25_0
        try clear hcz25_1
        try clear hcz25_2
        try clear hcz25_3
        try clear hcz25_4
        try clear hcz25_5
        try clear hcz25_6
        try clear hcz25_7
        try clear hcz25_8
        try clear hcz26_0
        try clear hcz26_1
        try clear hcz26_2
        try clear hcz26_3
        try clear hcz26_4
        try clear hcz26_5
        try clear hcz26_6
        try clear hcz26_7
        try clear hcz26_8
        try clear hcz28_0
        try clear hcz28_1
        try clear hcz28_2
        try clear hcz28_3
        try clear hcz28_4
        try clear hcz28_5
        try clear hcz28_6
        try clear hcz28_7
        try clear hcz28_8
        try clear hfz25_0
        try clear hfz25_1
        try clear hfz25_2
        try clear hfz25_3
        try clear hfz25_4
        try clear hfz25_5
        try clear hfz25_6
        try clear hfz25_7
        try clear hfz25_8
        try clear hfz26_0
        try clear hfz26_1
        try clear hfz26_2
        try clear hfz26_3
        try clear hfz26_4
        try clear hfz26_5
        try clear hfz26_6
        try clear hfz26_7
        try clear hfz26_8
        try clear hfz28_0
        try clear hfz28_1
        try clear hfz28_2
        try clear hfz28_3
        try clear hfz28_4
        try clear hfz28_5
        try clear hfz28_6
        try clear hfz28_7
        try clear hfz28_8
        try clear hx378_0
        try clear p378
        try clear q378
        obtain ⟨kq, x60_26, rfl, HA, HJ26, BK376, HB⟩ := hcut
        cases kq with
        | zero => exact absurd HA.out (by simp [taskmasterref5_Is.j2])
        | succ kj26 =>
         have H := HA.out
         clear HA
         simp only [taskmasterref5_Is.j2] at H
         by_cases c38 : x60_26 = true
         ·subst c38
          have H1 : (some false) = some r := by rw [if_pos rfl] at H; exact H
          clear H
          have H := H1
          clear H1
          obtain rfl := Option.some.inj H
          go_wp2
          go_ret
          exact ⟨by first | rfl | (simp [errW_none, errW_some] <;> rfl) | (simp [*, errW_none, errW_some] <;> rfl), by repeat (first | (with_reducible first | exact HB.out | apply below_alloc | apply pw_below_drewN | apply below_drew1 | refine below_set ?_ GE376.out) | exact HB.out)⟩
         ·replace c38 := Bool.eq_false_iff.mpr c38
          subst c38
          have H1 : (if a0_3 = 0 then (if a0_4 = 0 then (some (a0_5 == 0)) else (some false)) else (if a0_3 = 1 then ((taskmasterref5_in.f a0_4 0 10000).bind fun t381 => (if t381 = true then (some (a0_5 == 0)) else (some false))) else (if a0_3 = 2 then (if a0_4 = 0 then (if a0_5 ≥ 0 then (some (decide (a0_5 ≤ a1))) else (some false)) else (some false)) else (some false)))) = some r := by rw [if_neg (show ¬ (false = true) by decide)] at H; exact H
          clear H
          have H := H1
          clear H1
          by_cases c39 : a0_3 = 0
          ·rw [if_pos c39] at H
           have c39b0 : (a0_3 == 0) = true := beq_iff_eq.mpr c39
           have c39b1 : (a0_3 != 0) = false := bne_eq_false_iff_eq.mpr c39
           clear c39
           by_cases c40 : a0_4 = 0
           ·rw [if_pos c40] at H
            have c40b0 : (a0_4 == 0) = true := beq_iff_eq.mpr c40
            have c40b1 : (a0_4 != 0) = false := bne_eq_false_iff_eq.mpr c40
            clear c40
            obtain rfl := Option.some.inj H
            obtain ⟨hcz41_0, hcz41_1, hcz41_2, hcz41_3, hcz41_4, hcz41_5, hcz41_6, hcz41_7, hcz41_8, hfz41_0, hfz41_1, hfz41_2, hfz41_3, hfz41_4, hfz41_5, hfz41_6, hfz41_7, hfz41_8⟩ := cells9 BK376.out
            go_wp2
            go_ret
            exact ⟨by first | rfl | (simp [errW_none, errW_some] <;> rfl) | (simp [*, errW_none, errW_some] <;> rfl), by repeat (first | (with_reducible first | exact HB.out | apply below_alloc | apply pw_below_drewN | apply below_drew1 | refine below_set ?_ GE376.out) | exact HB.out)⟩
           ·rw [if_neg c40] at H
            have c40b0 : (a0_4 == 0) = false := beq_eq_false_iff_ne.mpr c40
            have c40b1 : (a0_4 != 0) = true := bne_iff_ne.mpr c40
            obtain rfl := Option.some.inj H
            obtain ⟨hcz42_0, hcz42_1, hcz42_2, hcz42_3, hcz42_4, hcz42_5, hcz42_6, hcz42_7, hcz42_8, hfz42_0, hfz42_1, hfz42_2, hfz42_3, hfz42_4, hfz42_5, hfz42_6, hfz42_7, hfz42_8⟩ := cells9 BK376.out
            go_wp2
            go_ret
            exact ⟨by first | rfl | (simp [errW_none, errW_some] <;> rfl) | (simp [*, errW_none, errW_some] <;> rfl), by repeat (first | (with_reducible first | exact HB.out | apply below_alloc | apply pw_below_drewN | apply below_drew1 | refine below_set ?_ GE376.out) | exact HB.out)⟩
          ·rw [if_neg c39] at H
           have c39b0 : (a0_3 == 0) = false := beq_eq_false_iff_ne.mpr c39
           have c39b1 : (a0_3 != 0) = true := bne_iff_ne.mpr c39
           by_cases c43 : a0_3 = 1
           ·rw [if_pos c43] at H
            have c43b0 : (a0_3 == 1) = true := beq_iff_eq.mpr c43
            have c43b1 : (a0_3 != 1) = false := bne_eq_false_iff_eq.mpr c43
            clear c43
            replace H := Option.bind_eq_some_iff.mp H
            obtain ⟨t381, A440, H⟩ := H
            replace H : (if t381 = true then (some (a0_5 == 0)) else (some false)) = some r := H
            have A44 := Aside0.mk A440
            clear A440
            by_cases c45 : t381 = true
            ·subst c45
             have H1 : (some (a0_5 == 0)) = some r := by rw [if_pos rfl] at H; exact H
             clear H
             have H := H1
             clear H1
             obtain rfl := Option.some.inj H
             obtain ⟨hcz46_0, hcz46_1, hcz46_2, hcz46_3, hcz46_4, hcz46_5, hcz46_6, hcz46_7, hcz46_8, hfz46_0, hfz46_1, hfz46_2, hfz46_3, hfz46_4, hfz46_5, hfz46_6, hfz46_7, hfz46_8⟩ := cells9 BK376.out
             go_wp2_with (first | ((with_reducible refine gate_callee (f := 28) rfl ?_); refine goesL_ (some 77) rfl rfl Tryz.func28 (by kernel_rfl) rfl #[.int .i64 a0_4, .int .i64 0, .int .i64 10000] rfl (by (try simp only [List.map_toArray, List.map_cons, List.map_nil]); first | done | rfl | (simp only [List.length_drop, List.length_take]; rfl)) ?_; (with_reducible refine (taskmasterref5_in.calls a0_4 0 10000 true _ A44.out).mono ?_); rintro e w' ⟨rfl, ⟨nd, rfl⟩⟩; refine ⟨_, rfl, ?_⟩))
             go_ret
             exact ⟨by first | rfl | (simp [errW_none, errW_some] <;> rfl) | (simp [*, errW_none, errW_some] <;> rfl), by repeat (first | (with_reducible first | exact HB.out | apply below_alloc | apply pw_below_drewN | apply below_drew1 | refine below_set ?_ GE376.out) | exact HB.out)⟩
            ·replace c45 := Bool.eq_false_iff.mpr c45
             subst c45
             have H1 : (some false) = some r := by rw [if_neg (show ¬ (false = true) by decide)] at H; exact H
             clear H
             have H := H1
             clear H1
             obtain rfl := Option.some.inj H
             obtain ⟨hcz47_0, hcz47_1, hcz47_2, hcz47_3, hcz47_4, hcz47_5, hcz47_6, hcz47_7, hcz47_8, hfz47_0, hfz47_1, hfz47_2, hfz47_3, hfz47_4, hfz47_5, hfz47_6, hfz47_7, hfz47_8⟩ := cells9 BK376.out
             go_wp2_with (first | ((with_reducible refine gate_callee (f := 28) rfl ?_); refine goesL_ (some 77) rfl rfl Tryz.func28 (by kernel_rfl) rfl #[.int .i64 a0_4, .int .i64 0, .int .i64 10000] rfl (by (try simp only [List.map_toArray, List.map_cons, List.map_nil]); first | done | rfl | (simp only [List.length_drop, List.length_take]; rfl)) ?_; (with_reducible refine (taskmasterref5_in.calls a0_4 0 10000 false _ A44.out).mono ?_); rintro e w' ⟨rfl, ⟨nd, rfl⟩⟩; refine ⟨_, rfl, ?_⟩))
             go_ret
             exact ⟨by first | rfl | (simp [errW_none, errW_some] <;> rfl) | (simp [*, errW_none, errW_some] <;> rfl), by repeat (first | (with_reducible first | exact HB.out | apply below_alloc | apply pw_below_drewN | apply below_drew1 | refine below_set ?_ GE376.out) | exact HB.out)⟩
           ·rw [if_neg c43] at H
            have c43b0 : (a0_3 == 1) = false := beq_eq_false_iff_ne.mpr c43
            have c43b1 : (a0_3 != 1) = true := bne_iff_ne.mpr c43
            by_cases c48 : a0_3 = 2
            ·rw [if_pos c48] at H
             have c48b0 : (a0_3 == 2) = true := beq_iff_eq.mpr c48
             have c48b1 : (a0_3 != 2) = false := bne_eq_false_iff_eq.mpr c48
             clear c48
             by_cases c49 : a0_4 = 0
             ·rw [if_pos c49] at H
              have c49b0 : (a0_4 == 0) = true := beq_iff_eq.mpr c49
              have c49b1 : (a0_4 != 0) = false := bne_eq_false_iff_eq.mpr c49
              clear c49
              by_cases c50 : a0_5 ≥ 0
              ·rw [if_pos c50] at H
               have c50b0 : decide (0 ≤ a0_5) = true := decide_eq_true c50
               clear c50
               obtain rfl := Option.some.inj H
               obtain ⟨hcz51_0, hcz51_1, hcz51_2, hcz51_3, hcz51_4, hcz51_5, hcz51_6, hcz51_7, hcz51_8, hfz51_0, hfz51_1, hfz51_2, hfz51_3, hfz51_4, hfz51_5, hfz51_6, hfz51_7, hfz51_8⟩ := cells9 BK376.out
               go_wp2
               go_ret
               exact ⟨by first | rfl | (simp [errW_none, errW_some] <;> rfl) | (simp [*, errW_none, errW_some] <;> rfl), by repeat (first | (with_reducible first | exact HB.out | apply below_alloc | apply pw_below_drewN | apply below_drew1 | refine below_set ?_ GE376.out) | exact HB.out)⟩
              ·rw [if_neg c50] at H
               have c50b0 : decide (0 ≤ a0_5) = false := decide_eq_false c50
               clear c50
               obtain rfl := Option.some.inj H
               obtain ⟨hcz52_0, hcz52_1, hcz52_2, hcz52_3, hcz52_4, hcz52_5, hcz52_6, hcz52_7, hcz52_8, hfz52_0, hfz52_1, hfz52_2, hfz52_3, hfz52_4, hfz52_5, hfz52_6, hfz52_7, hfz52_8⟩ := cells9 BK376.out
               go_wp2
               go_ret
               exact ⟨by first | rfl | (simp [errW_none, errW_some] <;> rfl) | (simp [*, errW_none, errW_some] <;> rfl), by repeat (first | (with_reducible first | exact HB.out | apply below_alloc | apply pw_below_drewN | apply below_drew1 | refine below_set ?_ GE376.out) | exact HB.out)⟩
             ·rw [if_neg c49] at H
              have c49b0 : (a0_4 == 0) = false := beq_eq_false_iff_ne.mpr c49
              have c49b1 : (a0_4 != 0) = true := bne_iff_ne.mpr c49
              obtain rfl := Option.some.inj H
              obtain ⟨hcz53_0, hcz53_1, hcz53_2, hcz53_3, hcz53_4, hcz53_5, hcz53_6, hcz53_7, hcz53_8, hfz53_0, hfz53_1, hfz53_2, hfz53_3, hfz53_4, hfz53_5, hfz53_6, hfz53_7, hfz53_8⟩ := cells9 BK376.out
              go_wp2
              go_ret
              exact ⟨by first | rfl | (simp [errW_none, errW_some] <;> rfl) | (simp [*, errW_none, errW_some] <;> rfl), by repeat (first | (with_reducible first | exact HB.out | apply below_alloc | apply pw_below_drewN | apply below_drew1 | refine below_set ?_ GE376.out) | exact HB.out)⟩
            ·rw [if_neg c48] at H
             have c48b0 : (a0_3 == 2) = false := beq_eq_false_iff_ne.mpr c48
             have c48b1 : (a0_3 != 2) = true := bne_iff_ne.mpr c48
             obtain rfl := Option.some.inj H
             obtain ⟨hcz54_0, hcz54_1, hcz54_2, hcz54_3, hcz54_4, hcz54_5, hcz54_6, hcz54_7, hcz54_8, hfz54_0, hfz54_1, hfz54_2, hfz54_3, hfz54_4, hfz54_5, hfz54_6, hfz54_7, hfz54_8⟩ := cells9 BK376.out
             go_wp2
             go_ret
             exact ⟨by first | rfl | (simp [errW_none, errW_some] <;> rfl) | (simp [*, errW_none, errW_some] <;> rfl), by repeat (first | (with_reducible first | exact HB.out | apply below_alloc | apply pw_below_drewN | apply below_drew1 | refine below_set ?_ GE376.out) | exact HB.out)⟩
mutual
def taskmasterref5_All.j0 : Nat → Bool → Int → List (S46) → Option (Bool)
 | 0, _, _, _ => none
 | k + 1, x20, x383000, x383001 => if x20 = true then (some false) else (taskmasterref5_All.l0 k 0 x383000 x383001)
def taskmasterref5_All.l0 : Nat → Int → Int → List (S46) → Option (Bool)
 | 0, _, _, _ => none
 | k + 1, x3, x383000, x383001 => if x3 < (x383001.length : Int) then (if 0 ≤ x3 then ((taskmasterref5_Is.f k ((rd_T46 x383001 x3).f0) ((rd_T46 x383001 x3).f1) ((rd_T46 x383001 x3).f2) ((rd_T46 x383001 x3).f3) ((rd_T46 x383001 x3).f4) ((rd_T46 x383001 x3).f5) ((rd_T46 x383001 x3).f6) ((rd_T46 x383001 x3).f7) ((rd_T46 x383001 x3).f8) x3).bind fun t385 => (if t385 = true then (taskmasterref5_All.l1 k x3 0 x383000 x383001) else (some false))) else (none)) else (some true)
def taskmasterref5_All.l1 : Nat → Int → Int → Int → List (S46) → Option (Bool)
 | 0, _, _, _, _ => none
 | k + 1, x3, x4, x383000, x383001 => if x4 < x3 then (if 0 ≤ x4 then (if x4 < (x383001.length : Int) then (if 0 ≤ x3 then (if x3 < (x383001.length : Int) then (if ((rd_T46 x383001 x4).f0).toList = ((rd_T46 x383001 x3).f0).toList then (some false) else (taskmasterref5_All.l1 k x3 (wrap64 (x4 + 1)) x383000 x383001)) else (none)) else (none)) else (none)) else (none)) else (taskmasterref5_All.l0 k (wrap64 (x3 + 1)) x383000 x383001)
end
def taskmasterref5_All.f (k : Nat) (a0_0 : Int) (l0_1 : List (S46)) : Option (Bool) := (taskmasterref5_in.f a0_0 0 10000).bind fun t383 => (if t383 = true then (if (l0_1.length : Int) < 1 then (taskmasterref5_All.j0 k true a0_0 l0_1) else (taskmasterref5_All.j0 k (decide ((l0_1.length : Int) > 8)) a0_0 l0_1)) else (taskmasterref5_All.j0 k true a0_0 l0_1))
set_option maxHeartbeats 8000000 in
set_option maxRecDepth 100000 in
theorem taskmasterref5_All.calls (k : Nat) (a0_0 : Int) (A0_1 : Option Addr) (c0_1 : Nat) (l0_1 : List (S46)) (r : Bool) (w : World) (hr0_1 : Kd.C k46 w A0_1 l0_1.length l0_1) (hc0_1 : l0_1.length ≤ c0_1) (h : taskmasterref5_All.f k a0_0 l0_1 = some r) :
  Calls Tryz.prog 15 #[.agg #[.int .i64 a0_0, .slice A0_1 l0_1.length c0_1]] w fun e w' => e = .returned (.bool r) ∧ Below w.heap.size w w' := by
 have hu24 := Tryz.underlying24
 have hu46 := Tryz.underlying46
 have HR0_1 := Aside0.mk hr0_1
 have HC0_1 := Aside0.mk hc0_1
 clear hr0_1 hc0_1
 have HB := Aside0.mk (Below.refl w.heap.size w)
 have H : ((taskmasterref5_in.f a0_0 0 10000).bind fun t383 => (if t383 = true then (if (l0_1.length : Int) < 1 then (taskmasterref5_All.j0 k true a0_0 l0_1) else (taskmasterref5_All.j0 k (decide ((l0_1.length : Int) > 8)) a0_0 l0_1)) else (taskmasterref5_All.j0 k true a0_0 l0_1))) = some r := h
 clear h
 have HC2 := Aside0.mk H
 clear H
 go_enter Tryz.func15, Tryz.ntmps15
 go_upto_region 1 with (first | ((with_reducible refine gate_dst (N := 1) rfl ?_); (try (refine gate_guard (by rfl) ?_; dsimp only)); refine box_event ?hg (N := 1) ?hd (cs := #[.int .i64 a0_0, .slice A0_1 l0_1.length c0_1]) (t := 24) ?hr ?_; (case hd => rfl); (case hg => rfl); (case hr => first | (go_simp; done) | (go_simp; rfl)); intro gb382 hg w3 hbox hb; have n0_ := Aside0.mk (below_step (by repeat (first | (with_reducible first | exact HB.out | apply below_alloc | apply pw_below_drewN | apply below_drew1) | exact HB.out)) hb); have n1_ := Aside0.mk (hbox); have n2_ := Aside0.mk ((by rw [hg]; exact (below_size (by repeat (first | (with_reducible first | exact HB.out | apply below_alloc | apply pw_below_drewN | apply below_drew1) | exact HB.out))) : w.heap.size ≤ gb382)); have n3_ := Aside0.mk ((by rw [hg]; exact (below_size (by repeat (first | (with_reducible first | exact HB.out | apply below_alloc | apply pw_below_drewN | apply below_drew1) | exact HB.out))) : w.heap.size ≤ gb382)); clear HB; have HB := n0_; have BK382 := n1_; have GW382 := n2_; have GE382 := n3_; clear n0_ n1_ n2_ n3_; clear hb hbox hg))
 repeat (go_quiet (first | ((with_reducible refine gate_dst (N := 1) rfl ?_); (try (refine gate_guard (by rfl) ?_; dsimp only)); refine box_event ?hg (N := 1) ?hd (cs := #[.int .i64 a0_0, .slice A0_1 l0_1.length c0_1]) (t := 24) ?hr ?_; (case hd => rfl); (case hg => rfl); (case hr => first | (go_simp; done) | (go_simp; rfl)); intro gb382 hg w3 hbox hb; have n0_ := Aside0.mk (below_step (by repeat (first | (with_reducible first | exact HB.out | apply below_alloc | apply pw_below_drewN | apply below_drew1) | exact HB.out)) hb); have n1_ := Aside0.mk (hbox); have n2_ := Aside0.mk ((by rw [hg]; exact (below_size (by repeat (first | (with_reducible first | exact HB.out | apply below_alloc | apply pw_below_drewN | apply below_drew1) | exact HB.out))) : w.heap.size ≤ gb382)); have n3_ := Aside0.mk ((by rw [hg]; exact (below_size (by repeat (first | (with_reducible first | exact HB.out | apply below_alloc | apply pw_below_drewN | apply below_drew1) | exact HB.out))) : w.heap.size ≤ gb382)); clear HB; have HB := n0_; have BK382 := n1_; have GW382 := n2_; have GE382 := n3_; clear n0_ n1_ n2_ n3_; clear hb hbox hg)); go_upto_region 1 with (first | ((with_reducible refine gate_dst (N := 1) rfl ?_); (try (refine gate_guard (by rfl) ?_; dsimp only)); refine box_event ?hg (N := 1) ?hd (cs := #[.int .i64 a0_0, .slice A0_1 l0_1.length c0_1]) (t := 24) ?hr ?_; (case hd => rfl); (case hg => rfl); (case hr => first | (go_simp; done) | (go_simp; rfl)); intro gb382 hg w3 hbox hb; have n0_ := Aside0.mk (below_step (by repeat (first | (with_reducible first | exact HB.out | apply below_alloc | apply pw_below_drewN | apply below_drew1) | exact HB.out)) hb); have n1_ := Aside0.mk (hbox); have n2_ := Aside0.mk ((by rw [hg]; exact (below_size (by repeat (first | (with_reducible first | exact HB.out | apply below_alloc | apply pw_below_drewN | apply below_drew1) | exact HB.out))) : w.heap.size ≤ gb382)); have n3_ := Aside0.mk ((by rw [hg]; exact (below_size (by repeat (first | (with_reducible first | exact HB.out | apply below_alloc | apply pw_below_drewN | apply below_drew1) | exact HB.out))) : w.heap.size ≤ gb382)); clear HB; have HB := n0_; have BK382 := n1_; have GW382 := n2_; have GE382 := n3_; clear n0_ n1_ n2_ n3_; clear hb hbox hg)))
 (try simp only [Act.put, List.setIfInBounds_toArray, List.set_cons_zero, List.set_cons_succ])
 go_cut [20] (fun v20 wc => ∃ (kq : Nat) (x20_1 : Bool), v20 = .bool x20_1 ∧ Aside0 (taskmasterref5_All.j0 kq x20_1 a0_0 l0_1 = some r) ∧ Aside0 (kq ≤ k) ∧ Aside0 (wc.heap[gb382]? = some (.cells #[.int .i64 a0_0, (.slice A0_1 l0_1.length c0_1)] 24 (0, 0))) ∧ Aside0 (Below w.heap.size w wc))
 case first =>
  have H := HC2.out
  clear HC2
  replace H := Option.bind_eq_some_iff.mp H
  obtain ⟨t383, A40, H⟩ := H
  replace H : (if t383 = true then (if (l0_1.length : Int) < 1 then (taskmasterref5_All.j0 k true a0_0 l0_1) else (taskmasterref5_All.j0 k (decide ((l0_1.length : Int) > 8)) a0_0 l0_1)) else (taskmasterref5_All.j0 k true a0_0 l0_1)) = some r := H
  have A4 := Aside0.mk A40
  clear A40
  by_cases c5 : t383 = true
  ·subst c5
   have H1 : (if (l0_1.length : Int) < 1 then (taskmasterref5_All.j0 k true a0_0 l0_1) else (taskmasterref5_All.j0 k (decide ((l0_1.length : Int) > 8)) a0_0 l0_1)) = some r := by rw [if_pos rfl] at H; exact H
   clear H
   have H := H1
   clear H1
   by_cases c6 : (l0_1.length : Int) < 1
   ·rw [if_pos c6] at H
    have c6b0 : decide ((l0_1.length : Int) < 1) = true := decide_eq_true c6
    have c6b1 : decide (l0_1.length < 1) = true := decide_eq_true (by omega)
    clear c6
    (first | rw [c6b0] | (simp only [i64_w, i32_w]; rw [c6b0]) | skip)
    have H' := Aside0.mk H
    clear H
    have hcz7_0 : w3.cell? ⟨gb382, 0, none⟩ = some (.int .i64 a0_0) := (blk_cell BK382.out 0).trans rfl
    have hcz7_1 : w3.cell? ⟨gb382, 1, none⟩ = some (.slice A0_1 l0_1.length c0_1) := (blk_cell BK382.out 1).trans rfl
    have hfz7_0 := blk_frozen BK382.out 0
    have hfz7_1 := blk_frozen BK382.out 1
    go_wp2_with (first | (go_at_call 28; (with_reducible refine (taskmasterref5_in.calls a0_0 0 10000 true _ A4.out).mono ?_); rintro e w' ⟨rfl, ⟨nd, rfl⟩⟩; (try first | exact ⟨rfl, _, World.drewN_drewN _ _ _⟩ | exact ⟨rfl, _, Eq.trans (World.drewN_drewN _ _ _) (congrArg (World.drewN _) (Nat.add_assoc _ _ _))⟩)))
    repeat (go_quiet (first | (go_at_call 28; (with_reducible refine (taskmasterref5_in.calls a0_0 0 10000 true _ A4.out).mono ?_); rintro e w' ⟨rfl, ⟨nd, rfl⟩⟩; (try first | exact ⟨rfl, _, World.drewN_drewN _ _ _⟩ | exact ⟨rfl, _, Eq.trans (World.drewN_drewN _ _ _) (congrArg (World.drewN _) (Nat.add_assoc _ _ _))⟩))); try go_wp2_with (first | (go_at_call 28; (with_reducible refine (taskmasterref5_in.calls a0_0 0 10000 true _ A4.out).mono ?_); rintro e w' ⟨rfl, ⟨nd, rfl⟩⟩; (try first | exact ⟨rfl, _, World.drewN_drewN _ _ _⟩ | exact ⟨rfl, _, Eq.trans (World.drewN_drewN _ _ _) (congrArg (World.drewN _) (Nat.add_assoc _ _ _))⟩))))
    go_meet
    case rel => exact ⟨_, (true), (by first | rfl | (simp; done) | (simp [*]; done)), H', ⟨by first | omega | exact Nat.le_refl _⟩, ⟨by (with_reducible repeat (first | refine blk_drewN ?_ _ | refine blk_drew ?_ | refine blk_alloc ?_ _)); exact BK382.out⟩, ⟨by repeat (first | (with_reducible first | exact HB.out | apply below_alloc | apply pw_below_drewN | apply below_drew1 | refine below_set ?_ GE382.out) | exact HB.out)⟩⟩
   ·rw [if_neg c6] at H
    have c6b0 : decide ((l0_1.length : Int) < 1) = false := decide_eq_false c6
    have c6b1 : decide (l0_1.length < 1) = false := decide_eq_false (by omega)
    clear c6
    (first | rw [c6b0] | (simp only [i64_w, i32_w]; rw [c6b0]) | skip)
    have H' := Aside0.mk H
    clear H
    have hcz8_0 : w3.cell? ⟨gb382, 0, none⟩ = some (.int .i64 a0_0) := (blk_cell BK382.out 0).trans rfl
    have hcz8_1 : w3.cell? ⟨gb382, 1, none⟩ = some (.slice A0_1 l0_1.length c0_1) := (blk_cell BK382.out 1).trans rfl
    have hfz8_0 := blk_frozen BK382.out 0
    have hfz8_1 := blk_frozen BK382.out 1
    go_wp2_with (first | (go_at_call 28; (with_reducible refine (taskmasterref5_in.calls a0_0 0 10000 true _ A4.out).mono ?_); rintro e w' ⟨rfl, ⟨nd, rfl⟩⟩; (try first | exact ⟨rfl, _, World.drewN_drewN _ _ _⟩ | exact ⟨rfl, _, Eq.trans (World.drewN_drewN _ _ _) (congrArg (World.drewN _) (Nat.add_assoc _ _ _))⟩)))
    repeat (go_quiet (first | (go_at_call 28; (with_reducible refine (taskmasterref5_in.calls a0_0 0 10000 true _ A4.out).mono ?_); rintro e w' ⟨rfl, ⟨nd, rfl⟩⟩; (try first | exact ⟨rfl, _, World.drewN_drewN _ _ _⟩ | exact ⟨rfl, _, Eq.trans (World.drewN_drewN _ _ _) (congrArg (World.drewN _) (Nat.add_assoc _ _ _))⟩))); try go_wp2_with (first | (go_at_call 28; (with_reducible refine (taskmasterref5_in.calls a0_0 0 10000 true _ A4.out).mono ?_); rintro e w' ⟨rfl, ⟨nd, rfl⟩⟩; (try first | exact ⟨rfl, _, World.drewN_drewN _ _ _⟩ | exact ⟨rfl, _, Eq.trans (World.drewN_drewN _ _ _) (congrArg (World.drewN _) (Nat.add_assoc _ _ _))⟩))))
    go_meet
    case rel => exact ⟨_, (decide ((l0_1.length : Int) > 8)), (by first | rfl | (simp; done) | (simp [*]; done)), H', ⟨by first | omega | exact Nat.le_refl _⟩, ⟨by (with_reducible repeat (first | refine blk_drewN ?_ _ | refine blk_drew ?_ | refine blk_alloc ?_ _)); exact BK382.out⟩, ⟨by repeat (first | (with_reducible first | exact HB.out | apply below_alloc | apply pw_below_drewN | apply below_drew1 | refine below_set ?_ GE382.out) | exact HB.out)⟩⟩
  ·replace c5 := Bool.eq_false_iff.mpr c5
   subst c5
   have H1 : (taskmasterref5_All.j0 k true a0_0 l0_1) = some r := by rw [if_neg (show ¬ (false = true) by decide)] at H; exact H
   clear H
   have H := H1
   clear H1
   have H' := Aside0.mk H
   clear H
   have hcz9_0 : w3.cell? ⟨gb382, 0, none⟩ = some (.int .i64 a0_0) := (blk_cell BK382.out 0).trans rfl
   have hcz9_1 : w3.cell? ⟨gb382, 1, none⟩ = some (.slice A0_1 l0_1.length c0_1) := (blk_cell BK382.out 1).trans rfl
   have hfz9_0 := blk_frozen BK382.out 0
   have hfz9_1 := blk_frozen BK382.out 1
   go_wp2_with (first | (go_at_call 28; (with_reducible refine (taskmasterref5_in.calls a0_0 0 10000 false _ A4.out).mono ?_); rintro e w' ⟨rfl, ⟨nd, rfl⟩⟩; (try first | exact ⟨rfl, _, World.drewN_drewN _ _ _⟩ | exact ⟨rfl, _, Eq.trans (World.drewN_drewN _ _ _) (congrArg (World.drewN _) (Nat.add_assoc _ _ _))⟩)))
   repeat (go_quiet (first | (go_at_call 28; (with_reducible refine (taskmasterref5_in.calls a0_0 0 10000 false _ A4.out).mono ?_); rintro e w' ⟨rfl, ⟨nd, rfl⟩⟩; (try first | exact ⟨rfl, _, World.drewN_drewN _ _ _⟩ | exact ⟨rfl, _, Eq.trans (World.drewN_drewN _ _ _) (congrArg (World.drewN _) (Nat.add_assoc _ _ _))⟩))); try go_wp2_with (first | (go_at_call 28; (with_reducible refine (taskmasterref5_in.calls a0_0 0 10000 false _ A4.out).mono ?_); rintro e w' ⟨rfl, ⟨nd, rfl⟩⟩; (try first | exact ⟨rfl, _, World.drewN_drewN _ _ _⟩ | exact ⟨rfl, _, Eq.trans (World.drewN_drewN _ _ _) (congrArg (World.drewN _) (Nat.add_assoc _ _ _))⟩))))
   go_meet
   case rel => exact ⟨_, (true), (by first | rfl | (simp; done) | (simp [*]; done)), H', ⟨by first | omega | exact Nat.le_refl _⟩, ⟨by (with_reducible repeat (first | refine blk_drewN ?_ _ | refine blk_drew ?_ | refine blk_alloc ?_ _)); exact BK382.out⟩, ⟨by repeat (first | (with_reducible first | exact HB.out | apply below_alloc | apply pw_below_drewN | apply below_drew1 | refine below_set ?_ GE382.out) | exact HB.out)⟩⟩
 case rest =>
  clear HC2
  try clear c1
  try clear p2
  try clear c5
  try clear c6
  try clear c6b0
  try clear c6b1
  try clear hcz7_0
  try clear hcz7_1
  try clear hcz8_0
  try clear hcz8_1
  try clear hcz9_0
  try clear hcz9_1
  try clear hfz7_0
  try clear hfz7_1
  try clear hfz8_0
  try clear hfz8_1
  try clear hfz9_0
  try clear hfz9_1
  obtain ⟨kq, x20_1, rfl, HA, HJ1, BK382, HB⟩ := hcut
  cases kq with
  | zero => exact absurd HA.out (by simp [taskmasterref5_All.j0])
  | succ kj1 =>
   have H := HA.out
   clear HA
   simp only [taskmasterref5_All.j0] at H
   by_cases c10 : x20_1 = true
   ·subst c10
    have H1 : (some false) = some r := by rw [if_pos rfl] at H; exact H
    clear H
    have H := H1
    clear H1
    obtain rfl := Option.some.inj H
    go_wp2
    repeat (go_quiet (fail); try go_wp2)
    go_ret
    exact ⟨by first | rfl | (simp [errW_none, errW_some] <;> rfl) | (simp [*, errW_none, errW_some] <;> rfl), by repeat (first | (with_reducible first | exact HB.out | apply below_alloc | apply pw_below_drewN | apply below_drew1 | refine below_set ?_ GE382.out) | exact HB.out)⟩
   ·replace c10 := Bool.eq_false_iff.mpr c10
    subst c10
    have H1 : (taskmasterref5_All.l0 kj1 0 a0_0 l0_1) = some r := by rw [if_neg (show ¬ (false = true) by decide)] at H; exact H
    clear H
    have H := H1
    clear H1
    have H' := Aside0.mk H
    clear H
    go_wp2
    repeat (go_quiet (fail); try go_wp2)
    go_loopg [3] kj1 (fun kq v3 w' => ∃ (x3_2 : Int), v3 = .int .i64 x3_2 ∧ Aside0 (taskmasterref5_All.l0 kq x3_2 a0_0 l0_1 = some r) ∧ Aside0 (kq ≤ kj1) ∧ Aside0 (w'.heap[gb382]? = some (.cells #[.int .i64 a0_0, (.slice A0_1 l0_1.length c0_1)] 24 (0, 0))) ∧ Aside0 (Below w.heap.size w w'))
    case atStart => exact ⟨(0), (by first | rfl | (simp; done) | (simp [*]; done)), H', ⟨Nat.le_refl _⟩, ⟨by (with_reducible repeat (first | refine blk_drewN ?_ _ | refine blk_drew ?_ | refine blk_alloc ?_ _)); exact BK382.out⟩, ⟨by repeat (first | (with_reducible first | exact HB.out | apply below_alloc | apply pw_below_drewN | apply below_drew1 | refine below_set ?_ GE382.out) | exact HB.out)⟩⟩
    case round =>
     clear H'
     try clear c1
     try clear p2
     try clear c5
     try clear c6
     try clear c6b0
     try clear c6b1
     try clear c10
     try clear hcz7_0
     try clear hcz7_1
     try clear hcz8_0
     try clear hcz8_1
     try clear hcz9_0
     try clear hcz9_1
     try clear hfz7_0
     try clear hfz7_1
     try clear hfz8_0
     try clear hfz8_1
     try clear hfz9_0
     try clear hfz9_1
     try clear p2
     obtain ⟨x3_2, rfl, HA, HK2, BK382, HB⟩ := hrel
     cases gk with
     | zero => exact absurd HA.out (by simp [taskmasterref5_All.l0])
     | succ k2 =>
      have H := HA.out
      clear HA
      simp only [taskmasterref5_All.l0] at H
      by_cases c11 : x3_2 < (l0_1.length : Int)
      ·rw [if_pos c11] at H
       have c11b0 : decide (x3_2 < (l0_1.length : Int)) = true := decide_eq_true c11
       clear c11
       by_cases c12 : 0 ≤ x3_2
       ·rw [if_pos c12] at H
        have c12b0 : decide (0 ≤ x3_2) = true := decide_eq_true c12
        clear c12
        replace H := Option.bind_eq_some_iff.mp H
        obtain ⟨t385, A130, H⟩ := H
        replace H : (if t385 = true then (taskmasterref5_All.l1 k2 x3_2 0 a0_0 l0_1) else (some false)) = some r := H
        have A13 := Aside0.mk A130
        clear A130
        by_cases c14 : t385 = true
        ·subst c14
         have H1 : (taskmasterref5_All.l1 k2 x3_2 0 a0_0 l0_1) = some r := by rw [if_pos rfl] at H; exact H
         clear H
         have H := H1
         clear H1
         have H' := Aside0.mk H
         clear H
         have hcz15_0 : wr.cell? ⟨gb382, 0, none⟩ = some (.int .i64 a0_0) := (blk_cell BK382.out 0).trans rfl
         have hcz15_1 : wr.cell? ⟨gb382, 1, none⟩ = some (.slice A0_1 l0_1.length c0_1) := (blk_cell BK382.out 1).trans rfl
         have hfz15_0 := blk_frozen BK382.out 0
         have hfz15_1 := blk_frozen BK382.out 1
         have p384 : 0 ≤ (x3_2 : Int) := of_decide_eq_true (by first | (with_reducible assumption) | assumption)
         have q384 : x3_2 < (l0_1.length : Int) := of_decide_eq_true (by first | (with_reducible assumption) | assumption)
         obtain ⟨ad384, A384_6, c384_6, e384, hx384_0, hx384_1, hx384_2, hx384_3, hx384_4, hx384_5, hx384_6, hx384_7, hx384_8, hl384_6, hi384_6⟩ := at_T46 HR0_1.out x3_2 p384 q384
         cases e384
         replace hx384_0 := (HB.out.cell (World.block_lt_of_cell? w _ hx384_0)).trans hx384_0
         replace hx384_1 := (HB.out.cell (World.block_lt_of_cell? w _ hx384_1)).trans hx384_1
         replace hx384_2 := (HB.out.cell (World.block_lt_of_cell? w _ hx384_2)).trans hx384_2
         replace hx384_3 := (HB.out.cell (World.block_lt_of_cell? w _ hx384_3)).trans hx384_3
         replace hx384_4 := (HB.out.cell (World.block_lt_of_cell? w _ hx384_4)).trans hx384_4
         replace hx384_5 := (HB.out.cell (World.block_lt_of_cell? w _ hx384_5)).trans hx384_5
         replace hx384_6 := (HB.out.cell (World.block_lt_of_cell? w _ hx384_6)).trans hx384_6
         replace hx384_7 := (HB.out.cell (World.block_lt_of_cell? w _ hx384_7)).trans hx384_7
         replace hx384_8 := (HB.out.cell (World.block_lt_of_cell? w _ hx384_8)).trans hx384_8
         have HR384_6 := Aside0.mk hi384_6
         have HC384_6 := Aside0.mk hl384_6
         clear hi384_6 hl384_6
         replace p384 := eq_true p384
         replace q384 := eq_true q384
         go_wp2_with (first | (go_at_call 29; (with_reducible refine (taskmasterref5_Is.calls k2 ((rd_T46 l0_1 x3_2).f0) ((rd_T46 l0_1 x3_2).f1) ((rd_T46 l0_1 x3_2).f2) ((rd_T46 l0_1 x3_2).f3) ((rd_T46 l0_1 x3_2).f4) ((rd_T46 l0_1 x3_2).f5) _ _ ((rd_T46 l0_1 x3_2).f6) ((rd_T46 l0_1 x3_2).f7) ((rd_T46 l0_1 x3_2).f8) x3_2 true _ ?side1 ?side2 A13.out).mono ?_); (case side1 => repeat (first | exact (Kd.C_below HR384_6.out HB.out) | (with_reducible refine Kd.C_alloc ?_ _) | (with_reducible refine Kd.C_drewN ?_ _) | (with_reducible refine Kd.C_drew ?_))); (case side2 => exact HC384_6.out); rintro e w16 ⟨rfl, hb⟩; have n0_ := Aside0.mk (blk_below (g := gb382) (o := .cells #[.int .i64 a0_0, .slice (some ad384) l0_1.length c0_1] 24 (0, 0)) (by (with_reducible repeat (first | refine blk_drewN ?_ _ | refine blk_drew ?_ | refine blk_alloc ?_ _)); exact BK382.out) hb); have n1_ := Aside0.mk (below_step (by repeat (first | (with_reducible first | exact HB.out | apply below_alloc | apply pw_below_drewN | apply below_drew1 | refine below_set ?_ GE382.out) | exact HB.out)) hb); clear BK382; clear HB; have BK382 := n0_; have HB := n1_; clear n0_ n1_; (try clear hb); (try clear hb2); (try clear hk); (try clear hi)))
         repeat (go_quiet (first | (go_at_call 29; (with_reducible refine (taskmasterref5_Is.calls k2 ((rd_T46 l0_1 x3_2).f0) ((rd_T46 l0_1 x3_2).f1) ((rd_T46 l0_1 x3_2).f2) ((rd_T46 l0_1 x3_2).f3) ((rd_T46 l0_1 x3_2).f4) ((rd_T46 l0_1 x3_2).f5) _ _ ((rd_T46 l0_1 x3_2).f6) ((rd_T46 l0_1 x3_2).f7) ((rd_T46 l0_1 x3_2).f8) x3_2 true _ ?side1 ?side2 A13.out).mono ?_); (case side1 => repeat (first | exact (Kd.C_below HR384_6.out HB.out) | (with_reducible refine Kd.C_alloc ?_ _) | (with_reducible refine Kd.C_drewN ?_ _) | (with_reducible refine Kd.C_drew ?_))); (case side2 => exact HC384_6.out); rintro e w16 ⟨rfl, hb⟩; have n0_ := Aside0.mk (blk_below (g := gb382) (o := .cells #[.int .i64 a0_0, .slice (some ad384) l0_1.length c0_1] 24 (0, 0)) (by (with_reducible repeat (first | refine blk_drewN ?_ _ | refine blk_drew ?_ | refine blk_alloc ?_ _)); exact BK382.out) hb); have n1_ := Aside0.mk (below_step (by repeat (first | (with_reducible first | exact HB.out | apply below_alloc | apply pw_below_drewN | apply below_drew1 | refine below_set ?_ GE382.out) | exact HB.out)) hb); clear BK382; clear HB; have BK382 := n0_; have HB := n1_; clear n0_ n1_; (try clear hb); (try clear hb2); (try clear hk); (try clear hi))); try go_wp2_with (first | (go_at_call 29; (with_reducible refine (taskmasterref5_Is.calls k2 ((rd_T46 l0_1 x3_2).f0) ((rd_T46 l0_1 x3_2).f1) ((rd_T46 l0_1 x3_2).f2) ((rd_T46 l0_1 x3_2).f3) ((rd_T46 l0_1 x3_2).f4) ((rd_T46 l0_1 x3_2).f5) _ _ ((rd_T46 l0_1 x3_2).f6) ((rd_T46 l0_1 x3_2).f7) ((rd_T46 l0_1 x3_2).f8) x3_2 true _ ?side1 ?side2 A13.out).mono ?_); (case side1 => repeat (first | exact (Kd.C_below HR384_6.out HB.out) | (with_reducible refine Kd.C_alloc ?_ _) | (with_reducible refine Kd.C_drewN ?_ _) | (with_reducible refine Kd.C_drew ?_))); (case side2 => exact HC384_6.out); rintro e w16 ⟨rfl, hb⟩; have n0_ := Aside0.mk (blk_below (g := gb382) (o := .cells #[.int .i64 a0_0, .slice (some ad384) l0_1.length c0_1] 24 (0, 0)) (by (with_reducible repeat (first | refine blk_drewN ?_ _ | refine blk_drew ?_ | refine blk_alloc ?_ _)); exact BK382.out) hb); have n1_ := Aside0.mk (below_step (by repeat (first | (with_reducible first | exact HB.out | apply below_alloc | apply pw_below_drewN | apply below_drew1 | refine below_set ?_ GE382.out) | exact HB.out)) hb); clear BK382; clear HB; have BK382 := n0_; have HB := n1_; clear n0_ n1_; (try clear hb); (try clear hb2); (try clear hk); (try clear hi))))
         go_loopg [4] k2 (fun kq v4 w' => ∃ (x4_3 : Int), v4 = .int .i64 x4_3 ∧ Aside0 (taskmasterref5_All.l1 kq x3_2 x4_3 a0_0 l0_1 = some r) ∧ Aside0 (kq ≤ k2) ∧ Aside0 (w'.heap[gb382]? = some (.cells #[.int .i64 a0_0, (.slice (some ad384) l0_1.length c0_1)] 24 (0, 0))) ∧ Aside0 (Below w.heap.size w w'))
         case atStart => exact ⟨(0), (by first | rfl | (simp; done) | (simp [*]; done)), H', ⟨Nat.le_refl _⟩, ⟨by (with_reducible repeat (first | refine blk_drewN ?_ _ | refine blk_drew ?_ | refine blk_alloc ?_ _)); exact BK382.out⟩, ⟨by repeat (first | (with_reducible first | exact HB.out | apply below_alloc | apply pw_below_drewN | apply below_drew1 | refine below_set ?_ GE382.out) | exact HB.out)⟩⟩
         case round =>
          clear H'
          try clear c1
          try clear p2
          try clear c3
          try clear p3
          try clear q3
          try clear hx3
          try clear c5
          try clear c6
          try clear c6b0
          try clear c6b1
          try clear c10
          try clear c11
          try clear c11b0
          try clear c12
          try clear c12b0
          try clear c14
          try clear c15
          try clear hcz15_0
          try clear hcz15_1
          try clear hcz7_0
          try clear hcz7_1
          try clear hcz8_0
          try clear hcz8_1
          try clear hcz9_0
          try clear hcz9_1
          try clear hfz15_0
          try clear hfz15_1
          try clear hfz7_0
          try clear hfz7_1
          try clear hfz8_0
          try clear hfz8_1
          try clear hfz9_0
          try clear hfz9_1
          try clear hx384_0
          try clear hx384_1
          try clear hx384_2
          try clear hx384_3
          try clear hx384_4
          try clear hx384_5
          try clear hx384_6
          try clear hx384_7
          try clear hx384_8
          try clear p2
          try clear p384
          try clear q384
          obtain ⟨x4_3, rfl, HA, HK3, BK382, HB⟩ := hrel
          cases gk with
          | zero => exact absurd HA.out (by simp [taskmasterref5_All.l1])
          | succ k3 =>
           have H := HA.out
           clear HA
           simp only [taskmasterref5_All.l1] at H
           by_cases c17 : x4_3 < x3_2
           ·rw [if_pos c17] at H
            have c17b0 : decide (x4_3 < x3_2) = true := decide_eq_true c17
            clear c17
            by_cases c18 : 0 ≤ x4_3
            ·rw [if_pos c18] at H
             have c18b0 : decide (0 ≤ x4_3) = true := decide_eq_true c18
             clear c18
             by_cases c19 : x4_3 < (l0_1.length : Int)
             ·rw [if_pos c19] at H
              have c19b0 : decide (x4_3 < (l0_1.length : Int)) = true := decide_eq_true c19
              clear c19
              by_cases c20 : 0 ≤ x3_2
              ·rw [if_pos c20] at H
               have c20b0 : decide (0 ≤ x3_2) = true := decide_eq_true c20
               clear c20
               by_cases c21 : x3_2 < (l0_1.length : Int)
               ·rw [if_pos c21] at H
                have c21b0 : decide (x3_2 < (l0_1.length : Int)) = true := decide_eq_true c21
                clear c21
                by_cases c22 : ((rd_T46 l0_1 x4_3).f0).toList = ((rd_T46 l0_1 x3_2).f0).toList
                ·rw [if_pos c22] at H
                 have c22b0 : (((rd_T46 l0_1 x4_3).f0).toList == ((rd_T46 l0_1 x3_2).f0).toList) = true := beq_iff_eq.mpr c22
                 have c22b1 : (((rd_T46 l0_1 x4_3).f0).toList != ((rd_T46 l0_1 x3_2).f0).toList) = false := bne_eq_false_iff_eq.mpr c22
                 clear c22
                 obtain rfl := Option.some.inj H
                 have hcz23_0 : wr.cell? ⟨gb382, 0, none⟩ = some (.int .i64 a0_0) := (blk_cell BK382.out 0).trans rfl
                 have hcz23_1 : wr.cell? ⟨gb382, 1, none⟩ = some (.slice (some ad384) l0_1.length c0_1) := (blk_cell BK382.out 1).trans rfl
                 have hfz23_0 := blk_frozen BK382.out 0
                 have hfz23_1 := blk_frozen BK382.out 1
                 have p386 : 0 ≤ (x4_3 : Int) := of_decide_eq_true (by first | (with_reducible assumption) | assumption)
                 have q386 : x4_3 < (l0_1.length : Int) := of_decide_eq_true (by first | (with_reducible assumption) | assumption)
                 obtain ⟨ad386, A386_6, c386_6, e386, hx386_0, hx386_1, hx386_2, hx386_3, hx386_4, hx386_5, hx386_6, hx386_7, hx386_8, hl386_6, hi386_6⟩ := at_T46 HR0_1.out x4_3 p386 q386
                 obtain rfl : ad384 = ad386 := (by injection e386)
                 replace hx386_0 := (HB.out.cell (World.block_lt_of_cell? w _ hx386_0)).trans hx386_0
                 replace hx386_1 := (HB.out.cell (World.block_lt_of_cell? w _ hx386_1)).trans hx386_1
                 replace hx386_2 := (HB.out.cell (World.block_lt_of_cell? w _ hx386_2)).trans hx386_2
                 replace hx386_3 := (HB.out.cell (World.block_lt_of_cell? w _ hx386_3)).trans hx386_3
                 replace hx386_4 := (HB.out.cell (World.block_lt_of_cell? w _ hx386_4)).trans hx386_4
                 replace hx386_5 := (HB.out.cell (World.block_lt_of_cell? w _ hx386_5)).trans hx386_5
                 replace hx386_6 := (HB.out.cell (World.block_lt_of_cell? w _ hx386_6)).trans hx386_6
                 replace hx386_7 := (HB.out.cell (World.block_lt_of_cell? w _ hx386_7)).trans hx386_7
                 replace hx386_8 := (HB.out.cell (World.block_lt_of_cell? w _ hx386_8)).trans hx386_8
                 have HR386_6 := Aside0.mk hi386_6
                 have HC386_6 := Aside0.mk hl386_6
                 clear hi386_6 hl386_6
                 replace p386 := eq_true p386
                 replace q386 := eq_true q386
                 have p387 : 0 ≤ (x3_2 : Int) := of_decide_eq_true (by first | (with_reducible assumption) | assumption)
                 have q387 : x3_2 < (l0_1.length : Int) := of_decide_eq_true (by first | (with_reducible assumption) | assumption)
                 obtain ⟨ad387, A387_6, c387_6, e387, hx387_0, hx387_1, hx387_2, hx387_3, hx387_4, hx387_5, hx387_6, hx387_7, hx387_8, hl387_6, hi387_6⟩ := at_T46 HR0_1.out x3_2 p387 q387
                 obtain rfl : ad384 = ad387 := (by injection e387)
                 replace hx387_0 := (HB.out.cell (World.block_lt_of_cell? w _ hx387_0)).trans hx387_0
                 replace hx387_1 := (HB.out.cell (World.block_lt_of_cell? w _ hx387_1)).trans hx387_1
                 replace hx387_2 := (HB.out.cell (World.block_lt_of_cell? w _ hx387_2)).trans hx387_2
                 replace hx387_3 := (HB.out.cell (World.block_lt_of_cell? w _ hx387_3)).trans hx387_3
                 replace hx387_4 := (HB.out.cell (World.block_lt_of_cell? w _ hx387_4)).trans hx387_4
                 replace hx387_5 := (HB.out.cell (World.block_lt_of_cell? w _ hx387_5)).trans hx387_5
                 replace hx387_6 := (HB.out.cell (World.block_lt_of_cell? w _ hx387_6)).trans hx387_6
                 replace hx387_7 := (HB.out.cell (World.block_lt_of_cell? w _ hx387_7)).trans hx387_7
                 replace hx387_8 := (HB.out.cell (World.block_lt_of_cell? w _ hx387_8)).trans hx387_8
                 have HR387_6 := Aside0.mk hi387_6
                 have HC387_6 := Aside0.mk hl387_6
                 clear hi387_6 hl387_6
                 replace p387 := eq_true p387
                 replace q387 := eq_true q387
                 go_wp2
                 repeat (go_quiet (fail); try go_wp2)
                 go_ret
                 exact ⟨by first | rfl | (simp [errW_none, errW_some] <;> rfl) | (simp [*, errW_none, errW_some] <;> rfl), by repeat (first | (with_reducible first | exact HB.out | apply below_alloc | apply pw_below_drewN | apply below_drew1 | refine below_set ?_ GE382.out) | exact HB.out)⟩
                ·rw [if_neg c22] at H
                 have c22b0 : (((rd_T46 l0_1 x4_3).f0).toList == ((rd_T46 l0_1 x3_2).f0).toList) = false := beq_eq_false_iff_ne.mpr c22
                 have c22b1 : (((rd_T46 l0_1 x4_3).f0).toList != ((rd_T46 l0_1 x3_2).f0).toList) = true := bne_iff_ne.mpr c22
                 have H' := Aside0.mk H
                 clear H
                 have hcz24_0 : wr.cell? ⟨gb382, 0, none⟩ = some (.int .i64 a0_0) := (blk_cell BK382.out 0).trans rfl
                 have hcz24_1 : wr.cell? ⟨gb382, 1, none⟩ = some (.slice (some ad384) l0_1.length c0_1) := (blk_cell BK382.out 1).trans rfl
                 have hfz24_0 := blk_frozen BK382.out 0
                 have hfz24_1 := blk_frozen BK382.out 1
                 have p386 : 0 ≤ (x4_3 : Int) := of_decide_eq_true (by first | (with_reducible assumption) | assumption)
                 have q386 : x4_3 < (l0_1.length : Int) := of_decide_eq_true (by first | (with_reducible assumption) | assumption)
                 obtain ⟨ad386, A386_6, c386_6, e386, hx386_0, hx386_1, hx386_2, hx386_3, hx386_4, hx386_5, hx386_6, hx386_7, hx386_8, hl386_6, hi386_6⟩ := at_T46 HR0_1.out x4_3 p386 q386
                 obtain rfl : ad384 = ad386 := (by injection e386)
                 replace hx386_0 := (HB.out.cell (World.block_lt_of_cell? w _ hx386_0)).trans hx386_0
                 replace hx386_1 := (HB.out.cell (World.block_lt_of_cell? w _ hx386_1)).trans hx386_1
                 replace hx386_2 := (HB.out.cell (World.block_lt_of_cell? w _ hx386_2)).trans hx386_2
                 replace hx386_3 := (HB.out.cell (World.block_lt_of_cell? w _ hx386_3)).trans hx386_3
                 replace hx386_4 := (HB.out.cell (World.block_lt_of_cell? w _ hx386_4)).trans hx386_4
                 replace hx386_5 := (HB.out.cell (World.block_lt_of_cell? w _ hx386_5)).trans hx386_5
                 replace hx386_6 := (HB.out.cell (World.block_lt_of_cell? w _ hx386_6)).trans hx386_6
                 replace hx386_7 := (HB.out.cell (World.block_lt_of_cell? w _ hx386_7)).trans hx386_7
                 replace hx386_8 := (HB.out.cell (World.block_lt_of_cell? w _ hx386_8)).trans hx386_8
                 have HR386_6 := Aside0.mk hi386_6
                 have HC386_6 := Aside0.mk hl386_6
                 clear hi386_6 hl386_6
                 replace p386 := eq_true p386
                 replace q386 := eq_true q386
                 have p387 : 0 ≤ (x3_2 : Int) := of_decide_eq_true (by first | (with_reducible assumption) | assumption)
                 have q387 : x3_2 < (l0_1.length : Int) := of_decide_eq_true (by first | (with_reducible assumption) | assumption)
                 obtain ⟨ad387, A387_6, c387_6, e387, hx387_0, hx387_1, hx387_2, hx387_3, hx387_4, hx387_5, hx387_6, hx387_7, hx387_8, hl387_6, hi387_6⟩ := at_T46 HR0_1.out x3_2 p387 q387
                 obtain rfl : ad384 = ad387 := (by injection e387)
                 replace hx387_0 := (HB.out.cell (World.block_lt_of_cell? w _ hx387_0)).trans hx387_0
                 replace hx387_1 := (HB.out.cell (World.block_lt_of_cell? w _ hx387_1)).trans hx387_1
                 replace hx387_2 := (HB.out.cell (World.block_lt_of_cell? w _ hx387_2)).trans hx387_2
                 replace hx387_3 := (HB.out.cell (World.block_lt_of_cell? w _ hx387_3)).trans hx387_3
                 replace hx387_4 := (HB.out.cell (World.block_lt_of_cell? w _ hx387_4)).trans hx387_4
                 replace hx387_5 := (HB.out.cell (World.block_lt_of_cell? w _ hx387_5)).trans hx387_5
                 replace hx387_6 := (HB.out.cell (World.block_lt_of_cell? w _ hx387_6)).trans hx387_6
                 replace hx387_7 := (HB.out.cell (World.block_lt_of_cell? w _ hx387_7)).trans hx387_7
                 replace hx387_8 := (HB.out.cell (World.block_lt_of_cell? w _ hx387_8)).trans hx387_8
                 have HR387_6 := Aside0.mk hi387_6
                 have HC387_6 := Aside0.mk hl387_6
                 clear hi387_6 hl387_6
                 replace p387 := eq_true p387
                 replace q387 := eq_true q387
                 go_wp2
                 repeat (go_quiet (fail); try go_wp2)
                 go_roundg k3
                 case measure => have := HJ1.out; have := HK2.out; have := HK3.out; omega
                 case rel => exact ⟨(wrap64 (x4_3 + 1)), (by first | rfl | (simp; done) | (simp [*]; done)), H', ⟨by have := HJ1.out; have := HK2.out; have := HK3.out; omega⟩, ⟨by (with_reducible repeat (first | refine blk_drewN ?_ _ | refine blk_drew ?_ | refine blk_alloc ?_ _)); exact BK382.out⟩, ⟨by repeat (first | (with_reducible first | exact HB.out | apply below_alloc | apply pw_below_drewN | apply below_drew1 | refine below_set ?_ GE382.out) | exact HB.out)⟩⟩
               ·rw [if_neg c21] at H
                exact absurd H (by simp)
              ·rw [if_neg c20] at H
               exact absurd H (by simp)
             ·rw [if_neg c19] at H
              exact absurd H (by simp)
            ·rw [if_neg c18] at H
             exact absurd H (by simp)
           ·rw [if_neg c17] at H
            have c17b0 : decide (x4_3 < x3_2) = false := decide_eq_false c17
            clear c17
            have H' := Aside0.mk H
            clear H
            go_wp2
            repeat (go_quiet (fail); try go_wp2)
            go_roundg k3
            case measure => have := HJ1.out; have := HK2.out; have := HK3.out; omega
            case rel => exact ⟨(wrap64 (x3_2 + 1)), (by first | rfl | (simp; done) | (simp [*]; done)), H', ⟨by have := HJ1.out; have := HK2.out; have := HK3.out; omega⟩, ⟨by (with_reducible repeat (first | refine blk_drewN ?_ _ | refine blk_drew ?_ | refine blk_alloc ?_ _)); exact BK382.out⟩, ⟨by repeat (first | (with_reducible first | exact HB.out | apply below_alloc | apply pw_below_drewN | apply below_drew1 | refine below_set ?_ GE382.out) | exact HB.out)⟩⟩
        ·replace c14 := Bool.eq_false_iff.mpr c14
         subst c14
         have H1 : (some false) = some r := by rw [if_neg (show ¬ (false = true) by decide)] at H; exact H
         clear H
         have H := H1
         clear H1
         obtain rfl := Option.some.inj H
         have hcz25_0 : wr.cell? ⟨gb382, 0, none⟩ = some (.int .i64 a0_0) := (blk_cell BK382.out 0).trans rfl
         have hcz25_1 : wr.cell? ⟨gb382, 1, none⟩ = some (.slice A0_1 l0_1.length c0_1) := (blk_cell BK382.out 1).trans rfl
         have hfz25_0 := blk_frozen BK382.out 0
         have hfz25_1 := blk_frozen BK382.out 1
         have p384 : 0 ≤ (x3_2 : Int) := of_decide_eq_true (by first | (with_reducible assumption) | assumption)
         have q384 : x3_2 < (l0_1.length : Int) := of_decide_eq_true (by first | (with_reducible assumption) | assumption)
         obtain ⟨ad384, A384_6, c384_6, e384, hx384_0, hx384_1, hx384_2, hx384_3, hx384_4, hx384_5, hx384_6, hx384_7, hx384_8, hl384_6, hi384_6⟩ := at_T46 HR0_1.out x3_2 p384 q384
         cases e384
         replace hx384_0 := (HB.out.cell (World.block_lt_of_cell? w _ hx384_0)).trans hx384_0
         replace hx384_1 := (HB.out.cell (World.block_lt_of_cell? w _ hx384_1)).trans hx384_1
         replace hx384_2 := (HB.out.cell (World.block_lt_of_cell? w _ hx384_2)).trans hx384_2
         replace hx384_3 := (HB.out.cell (World.block_lt_of_cell? w _ hx384_3)).trans hx384_3
         replace hx384_4 := (HB.out.cell (World.block_lt_of_cell? w _ hx384_4)).trans hx384_4
         replace hx384_5 := (HB.out.cell (World.block_lt_of_cell? w _ hx384_5)).trans hx384_5
         replace hx384_6 := (HB.out.cell (World.block_lt_of_cell? w _ hx384_6)).trans hx384_6
         replace hx384_7 := (HB.out.cell (World.block_lt_of_cell? w _ hx384_7)).trans hx384_7
         replace hx384_8 := (HB.out.cell (World.block_lt_of_cell? w _ hx384_8)).trans hx384_8
         have HR384_6 := Aside0.mk hi384_6
         have HC384_6 := Aside0.mk hl384_6
         clear hi384_6 hl384_6
         replace p384 := eq_true p384
         replace q384 := eq_true q384
         go_wp2_with (first | (go_at_call 29; (with_reducible refine (taskmasterref5_Is.calls k2 ((rd_T46 l0_1 x3_2).f0) ((rd_T46 l0_1 x3_2).f1) ((rd_T46 l0_1 x3_2).f2) ((rd_T46 l0_1 x3_2).f3) ((rd_T46 l0_1 x3_2).f4) ((rd_T46 l0_1 x3_2).f5) _ _ ((rd_T46 l0_1 x3_2).f6) ((rd_T46 l0_1 x3_2).f7) ((rd_T46 l0_1 x3_2).f8) x3_2 false _ ?side1 ?side2 A13.out).mono ?_); (case side1 => repeat (first | exact (Kd.C_below HR384_6.out HB.out) | (with_reducible refine Kd.C_alloc ?_ _) | (with_reducible refine Kd.C_drewN ?_ _) | (with_reducible refine Kd.C_drew ?_))); (case side2 => exact HC384_6.out); rintro e w26 ⟨rfl, hb⟩; have n0_ := Aside0.mk (blk_below (g := gb382) (o := .cells #[.int .i64 a0_0, .slice (some ad384) l0_1.length c0_1] 24 (0, 0)) (by (with_reducible repeat (first | refine blk_drewN ?_ _ | refine blk_drew ?_ | refine blk_alloc ?_ _)); exact BK382.out) hb); have n1_ := Aside0.mk (below_step (by repeat (first | (with_reducible first | exact HB.out | apply below_alloc | apply pw_below_drewN | apply below_drew1 | refine below_set ?_ GE382.out) | exact HB.out)) hb); clear BK382; clear HB; have BK382 := n0_; have HB := n1_; clear n0_ n1_; (try clear hb); (try clear hb2); (try clear hk); (try clear hi)))
         repeat (go_quiet (first | (go_at_call 29; (with_reducible refine (taskmasterref5_Is.calls k2 ((rd_T46 l0_1 x3_2).f0) ((rd_T46 l0_1 x3_2).f1) ((rd_T46 l0_1 x3_2).f2) ((rd_T46 l0_1 x3_2).f3) ((rd_T46 l0_1 x3_2).f4) ((rd_T46 l0_1 x3_2).f5) _ _ ((rd_T46 l0_1 x3_2).f6) ((rd_T46 l0_1 x3_2).f7) ((rd_T46 l0_1 x3_2).f8) x3_2 false _ ?side1 ?side2 A13.out).mono ?_); (case side1 => repeat (first | exact (Kd.C_below HR384_6.out HB.out) | (with_reducible refine Kd.C_alloc ?_ _) | (with_reducible refine Kd.C_drewN ?_ _) | (with_reducible refine Kd.C_drew ?_))); (case side2 => exact HC384_6.out); rintro e w26 ⟨rfl, hb⟩; have n0_ := Aside0.mk (blk_below (g := gb382) (o := .cells #[.int .i64 a0_0, .slice (some ad384) l0_1.length c0_1] 24 (0, 0)) (by (with_reducible repeat (first | refine blk_drewN ?_ _ | refine blk_drew ?_ | refine blk_alloc ?_ _)); exact BK382.out) hb); have n1_ := Aside0.mk (below_step (by repeat (first | (with_reducible first | exact HB.out | apply below_alloc | apply pw_below_drewN | apply below_drew1 | refine below_set ?_ GE382.out) | exact HB.out)) hb); clear BK382; clear HB; have BK382 := n0_; have HB := n1_; clear n0_ n1_; (try clear hb); (try clear hb2); (try clear hk); (try clear hi))); try go_wp2_with (first | (go_at_call 29; (with_reducible refine (taskmasterref5_Is.calls k2 ((rd_T46 l0_1 x3_2).f0) ((rd_T46 l0_1 x3_2).f1) ((rd_T46 l0_1 x3_2).f2) ((rd_T46 l0_1 x3_2).f3) ((rd_T46 l0_1 x3_2).f4) ((rd_T46 l0_1 x3_2).f5) _ _ ((rd_T46 l0_1 x3_2).f6) ((rd_T46 l0_1 x3_2).f7) ((rd_T46 l0_1 x3_2).f8) x3_2 false _ ?side1 ?side2 A13.out).mono ?_); (case side1 => repeat (first | exact (Kd.C_below HR384_6.out HB.out) | (with_reducible refine Kd.C_alloc ?_ _) | (with_reducible refine Kd.C_drewN ?_ _) | (with_reducible refine Kd.C_drew ?_))); (case side2 => exact HC384_6.out); rintro e w26 ⟨rfl, hb⟩; have n0_ := Aside0.mk (blk_below (g := gb382) (o := .cells #[.int .i64 a0_0, .slice (some ad384) l0_1.length c0_1] 24 (0, 0)) (by (with_reducible repeat (first | refine blk_drewN ?_ _ | refine blk_drew ?_ | refine blk_alloc ?_ _)); exact BK382.out) hb); have n1_ := Aside0.mk (below_step (by repeat (first | (with_reducible first | exact HB.out | apply below_alloc | apply pw_below_drewN | apply below_drew1 | refine below_set ?_ GE382.out) | exact HB.out)) hb); clear BK382; clear HB; have BK382 := n0_; have HB := n1_; clear n0_ n1_; (try clear hb); (try clear hb2); (try clear hk); (try clear hi))))
         go_ret
         exact ⟨by first | rfl | (simp [errW_none, errW_some] <;> rfl) | (simp [*, errW_none, errW_some] <;> rfl), by repeat (first | (with_reducible first | exact HB.out | apply below_alloc | apply pw_below_drewN | apply below_drew1 | refine below_set ?_ GE382.out) | exact HB.out)⟩
       ·rw [if_neg c12] at H
        exact absurd H (by simp)
      ·rw [if_neg c11] at H
       have c11b0 : decide (x3_2 < (l0_1.length : Int)) = false := decide_eq_false c11
       clear c11
       obtain rfl := Option.some.inj H
       have hcz27_0 : wr.cell? ⟨gb382, 0, none⟩ = some (.int .i64 a0_0) := (blk_cell BK382.out 0).trans rfl
       have hcz27_1 : wr.cell? ⟨gb382, 1, none⟩ = some (.slice A0_1 l0_1.length c0_1) := (blk_cell BK382.out 1).trans rfl
       have hfz27_0 := blk_frozen BK382.out 0
       have hfz27_1 := blk_frozen BK382.out 1
       go_wp2
       repeat (go_quiet (fail); try go_wp2)
       go_ret
       exact ⟨by first | rfl | (simp [errW_none, errW_some] <;> rfl) | (simp [*, errW_none, errW_some] <;> rfl), by repeat (first | (with_reducible first | exact HB.out | apply below_alloc | apply pw_below_drewN | apply below_drew1 | refine below_set ?_ GE382.out) | exact HB.out)⟩
end Go.Proofs.YtaofmmnfenlofaaGreatDoor.QTc
namespace Go.Proofs.YtaofmmnfenlofaaGreatDoor.TopSet
open Go.RowKit Go.Proofs.YtaofmmnfenlofaaGreatDoor.QTc Go.Proofs.YtaofmmnfenlofaaGreatDoorW.PrintWords Go.Proofs.YtaofmmnfenlofaaGreatDoorW.PrintLast Go.Proofs.YtaofmmnfenlofaaGreatDoorW.PrintMore
set_option linter.unusedVariables false
theorem evp {α : Type} {c : Prop} [Decidable c] {f g : Nat → Option α} {r : α} (h : c) (k : Ev f r) : Ev (fun n => if c then f n else g n) r := Ev.congr (fun _ => if_pos h) k
theorem evn {α : Type} {c : Prop} [Decidable c] {f g : Nat → Option α} {r : α} (h : ¬ c) (k : Ev g r) : Ev (fun n => if c then f n else g n) r := Ev.congr (fun _ => if_neg h) k
theorem evb {α β : Type} {o : Option α} {f : Nat → α → Option β} {a : α} {r : β} (h : o = some a) (k : Ev (fun n => f n a) r) : Ev (fun n => o.bind (f n)) r := Ev.congr (fun n => by rw [h]; rfl) k
theorem w64 {n : Int} (h0 : -9223372036854775808 ≤ n) (h1 : n ≤ 9223372036854775807) : wrap64 n = n := by unfold wrap64; omega
theorem small_eq (c : Int) : taskmasterref4_small.f c = some (decide (97 ≤ c ∧ c ≤ 122)) := by
  unfold taskmasterref4_small.f
  by_cases h : c ≥ 97
  · rw [if_pos h]; congr 1; exact decide_eq_decide.mpr (by omega)
  · rw [if_neg h, decide_eq_false (by omega)]
theorem digit_eq (c : Int) : taskmasterref4_digit.f c = some (decide (48 ≤ c ∧ c ≤ 57)) := by
  unfold taskmasterref4_digit.f
  by_cases h : c ≥ 48
  · rw [if_pos h]; congr 1; exact decide_eq_decide.mpr (by omega)
  · rw [if_neg h, decide_eq_false (by omega)]
def okB (c : Int) : Prop := (97 ≤ c ∧ c ≤ 122) ∨ (48 ≤ c ∧ c ≤ 57) ∨ c = 95
def wordsL : List ByteArray := taskmasterref4_Words.f.getD []
def NoWord (s : ByteArray) : Prop := ∀ j : Nat, j < 10 → (rdOf ByteArray.empty wordsL (j : Int)).toList ≠ s.toList
def NameN (s : ByteArray) : Prop := s.size ≤ 12 ∧ (∀ j : Nat, j < s.size → okB (bt s (j : Int))) ∧ NoWord s
def NameB (s : ByteArray) : Prop := NameN s ∧ 0 < s.size ∧ 97 ≤ bt s 0 ∧ bt s 0 ≤ 122
def NP (s : ByteArray) (r : Int × ByteArray × Int × Int × Int) : Prop := r.1 = 1 → r.2.2.2.2 = (s.size : Int) → NameN s
def EndsP {α : Type} (P : α → Prop) (g : Nat → Option α) : Prop := ∃ r, Ev g r ∧ P r
theorem endsPNow {α : Type} {P : α → Prop} (r : α) (h : P r) : EndsP P (fun _ => some r) := ⟨r, Ev.now r, h⟩
theorem endsPStep {α : Type} {P : α → Prop} {g f : Nat → Option α} (h : ∀ k, g (k + 1) = f k) (k : EndsP P f) : EndsP P g := let ⟨r, e, p⟩ := k; ⟨r, Ev.step h e, p⟩
theorem endsPIf {α : Type} {P : α → Prop} {c : Prop} [Decidable c] {f g : Nat → Option α} (h : c → EndsP P f) (k : ¬ c → EndsP P g) : EndsP P (fun n => if c then f n else g n) := by
  by_cases hc : c
  · obtain ⟨r, e, p⟩ := h hc; exact ⟨r, evp hc e, p⟩
  · obtain ⟨r, e, p⟩ := k hc; exact ⟨r, evn hc e, p⟩
theorem endsPAt {α β : Type} {P : β → Prop} {o : Option α} {f : Nat → α → Option β} {a : α} (h : o = some a) (k : EndsP P (fun n => f n a)) : EndsP P (fun n => o.bind (f n)) := let ⟨r, e, p⟩ := k; ⟨r, evb h e, p⟩
theorem endsPBind' {α β : Type} {P : β → Prop} {P1 : α → Prop} {g : Nat → Option α} {f : Nat → α → Option β} (h : EndsP P1 g) (k : ∀ a, P1 a → EndsP P (fun n => f n a)) : EndsP P (fun n => (g n).bind (f n)) := by
  obtain ⟨a, e, p1⟩ := h
  obtain ⟨r, e', p⟩ := k a p1
  exact ⟨r, Ev.bind e e', p⟩
theorem EndsP.imp {α : Type} {P P' : α → Prop} {g : Nat → Option α} (h : EndsP P g) (i : ∀ a, P a → P' a) : EndsP P' g := let ⟨r, e, p⟩ := h; ⟨r, e, i r p⟩
theorem word_loop (s : ByteArray) (l : List ByteArray) (hl : l.length ≤ 100) (d : Nat) : ∀ i : Nat, i + d = l.length → EndsP (fun b => b = false → ∀ j : Nat, i ≤ j → j < l.length → (rdOf ByteArray.empty l (j : Int)).toList ≠ s.toList) (fun k => taskmasterref4_word.l0 k s l (i : Int)) := by
  induction d with
  | zero =>
    intro i hi
    refine endsPStep (fun k => by rw [taskmasterref4_word.l0]) ?_
    exact endsPIf (fun h => absurd h (by omega)) (fun _ => endsPNow _ (fun _ j h1 h2 => absurd h1 (by omega)))
  | succ d ih =>
    intro i hi
    refine endsPStep (fun k => by rw [taskmasterref4_word.l0]) ?_
    refine endsPIf (fun _ => endsPIf (fun _ => endsPIf (fun _ => endsPNow _ (fun h => by cases h)) (fun hne => ?_)) (fun h => absurd (Int.natCast_nonneg i) h)) (fun h => absurd (show (i : Int) < (l.length : Int) by omega) h)
    rw [w64 (by omega) (by omega)]
    refine (ih (i + 1) (by omega)).imp fun b hb h j h1 h2 => ?_
    by_cases q : j = i
    · rw [q]; exact hne
    · exact hb h j (by omega) h2
theorem word_ends (s : ByteArray) : EndsP (fun b => b = false → NoWord s) (fun k => taskmasterref4_word.f k s) := by
  unfold taskmasterref4_word.f
  refine endsPAt (show taskmasterref4_Words.f = some wordsL from rfl) ?_
  exact (word_loop s wordsL (by decide) 10 0 (by decide)).imp fun b hb h j h1 => hb h j (Nat.zero_le _) h1
theorem ext_all (s : ByteArray) (n : Nat) (h : n = s.size) : s.extract 0 n = s := by
  subst h
  exact ByteArray.ext (by simp)
theorem np_ne {s : ByteArray} {n : Int} (h : n ≠ 1) (b : ByteArray) (x y z : Int) : NP s (n, b, x, y, z) := fun e _ => absurd e h
theorem one_j3 (s : ByteArray) (i : Int) (h0 : 0 ≤ i) (h1 : i ≤ s.size) (hall : ∀ j : Nat, (j : Int) < i → okB (bt s (j : Int))) : EndsP (NP s) (fun k => taskmasterref4_one.j3 k s i) := by
  refine endsPStep (fun k => by rw [taskmasterref4_one.j3]) ?_
  refine endsPIf (fun _ => endsPIf (fun _ => ?_) (fun h => absurd h1 h)) (fun h => absurd h0 h)
  refine endsPBind' (word_ends _) (fun b hb => ?_)
  refine endsPIf (fun _ => endsPNow _ (np_ne (by decide) _ _ _ _)) (fun hbt => endsPIf (fun _ => endsPNow _ (np_ne (by decide) _ _ _ _)) (fun h12 => endsPNow _ (fun _ hz => ?_)))
  have hz' : i = (s.size : Int) := hz
  have hw := hb (by simpa using hbt)
  rw [ext_all s _ (by omega)] at hw
  exact ⟨by omega, fun j hj => hall j (by omega), hw⟩
theorem one_l1 (s : ByteArray) (hs : s.size ≤ 9223372036854775807) (d : Nat) : ∀ i : Int, 0 ≤ i → i ≤ s.size → (s.size : Int) - i = d → (∀ j : Nat, (j : Int) < i → okB (bt s (j : Int))) → EndsP (NP s) (fun k => taskmasterref4_one.l1 k s i) := by
  induction d with
  | zero =>
    intro i h0 h1 hd hall
    refine endsPStep (fun k => by rw [taskmasterref4_one.l1]) ?_
    exact endsPIf (fun h => absurd h (by omega)) (fun _ => one_j3 s i h0 h1 hall)
  | succ d ih =>
    intro i h0 h1 hd hall
    refine endsPStep (fun k => by rw [taskmasterref4_one.l1]) ?_
    have more : okB (bt s i) → EndsP (NP s) (fun k => taskmasterref4_one.l1 k s (wrap64 (i + 1))) := fun hok => by
      rw [w64 (by omega) (by omega)]; exact ih (i + 1) (by omega) (by omega) (by omega) (fun j hj => by
        by_cases q : (j : Int) = i
        · rw [q]; exact hok
        · exact hall j (by omega))
    refine endsPIf (fun _ => endsPIf (fun _ => ?_) (fun h => absurd h0 h)) (fun _ => one_j3 s i h0 h1 hall)
    refine endsPAt (small_eq (bt s i)) (endsPIf (fun hc => more (Or.inl (of_decide_eq_true hc))) (fun _ => ?_))
    exact endsPAt (digit_eq (bt s i)) (endsPIf (fun hc => more (Or.inr (Or.inl (of_decide_eq_true hc)))) (fun _ => endsPIf (fun hc => more (Or.inr (Or.inr hc))) (fun _ => one_j3 s i h0 h1 hall)))
theorem one_no (s : ByteArray) (i v : Int) (h0 : 0 < (s.size : Int)) : EndsP (NP s) (fun k => taskmasterref4_one.j1 k s i v false) := by
  refine endsPStep (fun k => by rw [taskmasterref4_one.j1]) ?_
  exact endsPIf (fun h => by cases h) (fun _ => endsPIf (fun _ => endsPNow _ (np_ne (by decide) _ _ _ _)) (fun _ => endsPIf (fun _ => endsPIf (fun _ => endsPIf (fun _ => endsPNow _ (np_ne (by decide) _ _ _ _)) (fun _ => endsPNow _ (np_ne (by decide) _ _ _ _))) (fun h => absurd h0 h)) (fun _ => endsPNow _ (np_ne (by decide) _ _ _ _))))
theorem one_l0 (s : ByteArray) (hs : s.size ≤ 9223372036854775807) (h00 : 0 < (s.size : Int)) (d : Nat) : ∀ i v : Int, 0 ≤ i → i ≤ s.size → (s.size : Int) - i = d → EndsP (NP s) (fun k => taskmasterref4_one.l0 k s i v) := by
  induction d with
  | zero =>
    intro i v h0 h1 hd
    refine endsPStep (fun k => by rw [taskmasterref4_one.l0]) ?_
    exact endsPIf (fun h => absurd h (by omega)) (fun _ => one_no s i v h00)
  | succ d ih =>
    intro i v h0 h1 hd
    refine endsPStep (fun k => by rw [taskmasterref4_one.l0]) ?_
    have more : ∀ v', EndsP (NP s) (fun k => taskmasterref4_one.l0 k s (wrap64 (i + 1)) v') := fun v' => by
      rw [w64 (by omega) (by omega)]; exact ih (i + 1) v' (by omega) (by omega) (by omega)
    refine endsPIf (fun hlt => endsPIf (fun _ => ?_) (fun h => absurd h0 h)) (fun _ => one_no s i v h00)
    refine endsPAt (digit_eq (bt s i)) ?_
    cases decide (48 ≤ bt s i ∧ bt s i ≤ 57) with
    | false => exact one_no s i v h00
    | true =>
      refine endsPStep (fun k => by rw [taskmasterref4_one.j1]) ?_
      exact endsPIf (fun _ => endsPIf (fun _ => endsPIf (fun _ => endsPIf (fun _ => more _) (fun h => absurd hlt h)) (fun h => absurd h0 h)) (fun _ => more _)) (fun h => absurd rfl h)
theorem one_ends (s : ByteArray) (hs : s.size ≤ 9223372036854775807) (h0 : 0 < (s.size : Int)) : EndsP (NP s) (fun k => taskmasterref4_one.f k s) := by
  unfold taskmasterref4_one.f
  refine endsPIf (fun _ => endsPIf (fun _ => endsPNow _ (np_ne (by decide) _ _ _ _)) (fun _ => ?_)) (fun h => absurd h0 h)
  refine endsPAt (digit_eq (bt s 0)) (endsPIf (fun _ => one_l0 s hs h0 s.size 0 0 (by omega) (by omega) (by omega)) (fun _ => ?_))
  exact endsPAt (small_eq (bt s 0)) (endsPIf (fun _ => one_l1 s hs s.size 0 (by omega) (by omega) (by omega) (fun j hj => absurd hj (by omega))) (fun _ => endsPNow _ (np_ne (by decide) _ _ _ _)))
theorem name_ends (s : ByteArray) (hs : s.size ≤ 9223372036854775807) : ∃ b, Ev (fun k => taskmasterref4_Name.f k s) b ∧ (b = true → NameB s) := by
  unfold taskmasterref4_Name.f
  by_cases hz : (s.size : Int) = 0
  · exact ⟨false, evp hz (Ev.now _), fun h => by cases h⟩
  have h0 : 0 < (s.size : Int) := by omega
  obtain ⟨r, e, p⟩ := one_ends s hs h0
  by_cases hsm : (decide (97 ≤ bt s 0 ∧ bt s 0 ≤ 122)) = true
  · by_cases hn : r.2.2.2.2 = (s.size : Int)
    · refine ⟨r.1 == 1, evn hz (evp h0 (evb (small_eq _) (evp hsm (Ev.bind e (evp hn (Ev.now _)))))), fun h => ⟨p (by simpa using h) hn, by omega, of_decide_eq_true hsm⟩⟩
    · exact ⟨false, evn hz (evp h0 (evb (small_eq _) (evp hsm (Ev.bind e (evn hn (Ev.now _)))))), fun h => by cases h⟩
  · exact ⟨false, evn hz (evp h0 (evb (small_eq _) (evn hsm (Ev.now _)))), fun h => by cases h⟩
def sum : List Int → Int
  | [] => 0
  | x :: l => x + sum l
theorem rd_drop {l : List Int} {i : Nat} (h : i < l.length) : l.drop i = rd l (i : Int) :: l.drop (i + 1) := by
  rw [List.drop_eq_getElem_cons h]; unfold rd
  rw [Int.toNat_natCast, List.getD_eq_getElem?_getD, List.getElem?_eq_getElem h]; rfl
theorem in_eq (n a b : Int) : taskmasterref5_in.f n a b = some (decide (a ≤ n ∧ n ≤ b)) := by
  unfold taskmasterref5_in.f
  by_cases h : a ≤ n
  · rw [if_pos (show n ≥ a from h)]; simp [h]
  · rw [if_neg (show ¬ n ≥ a from h)]; simp [h]
theorem sum_bound {l : List Int} (h : ∀ x ∈ l, 1 ≤ x ∧ x ≤ 10000) : (l.length : Int) ≤ sum l ∧ sum l ≤ 10000 * l.length := by
  induction l with
  | nil => simp [sum]
  | cons x l ih =>
    have h1 := ih (fun y hy => h y (List.mem_cons_of_mem _ hy))
    have h2 := h x List.mem_cons_self
    simp only [sum, List.length_cons, Int.natCast_add, Int.natCast_one]
    omega
theorem work_loop (s : ByteArray) (a1 a2 a3 a4 a5 : Int) (l : List Int) (a7 a8 : Int) (hl : l.length ≤ 8) (h : ∀ x ∈ l, 1 ≤ x ∧ x ≤ 10000) (d : Nat) : ∀ (k i : Nat) (acc : Int), i + d = l.length → d < k → 0 ≤ acc → acc ≤ 10000 * i →
    taskmasterref5_Work.l0 k acc (i : Int) s a1 a2 a3 a4 a5 l a7 a8 = some (acc + sum (l.drop i)) := by
  induction d with
  | zero =>
    intro k i acc hi hk h0 h1
    obtain ⟨k, rfl⟩ : ∃ m, k = m + 1 := ⟨k - 1, by omega⟩
    simp only [taskmasterref5_Work.l0]
    rw [if_neg (by omega), List.drop_eq_nil_of_le (by omega)]; simp [sum]
  | succ d ih =>
    intro k i acc hi hk h0 h1
    obtain ⟨k, rfl⟩ : ∃ m, k = m + 1 := ⟨k - 1, by omega⟩
    have hlt : i < l.length := by omega
    have hm : rd l (i : Int) ∈ l := by
      unfold rd; rw [Int.toNat_natCast, List.getD_eq_getElem?_getD, List.getElem?_eq_getElem hlt]; exact List.getElem_mem hlt
    have hx := h _ hm
    simp only [taskmasterref5_Work.l0]
    rw [if_pos (by omega), if_pos (by omega), w64 (n := acc + rd l (i : Int)) (by omega) (by omega), w64 (n := (i : Int) + 1) (by omega) (by omega), rd_drop hlt]
    have := ih k (i + 1) (acc + rd l (i : Int)) (by omega) (by omega) (by omega) (by omega)
    rw [show ((i + 1 : Nat) : Int) = (i : Int) + 1 by omega] at this
    rw [this]
    simp only [sum]
    rw [Int.add_assoc]
theorem work_eq (s : ByteArray) (a1 a2 a3 a4 a5 : Int) (l : List Int) (a7 a8 : Int) (hl : l.length ≤ 8) (h : ∀ x ∈ l, 1 ≤ x ∧ x ≤ 10000) (k : Nat) (hk : 8 < k) : taskmasterref5_Work.f k s a1 a2 a3 a4 a5 l a7 a8 = some (sum l) := by
  unfold taskmasterref5_Work.f
  have := work_loop s a1 a2 a3 a4 a5 l a7 a8 hl h l.length k 0 0 (by omega) (by omega) (by omega) (by omega)
  rw [List.drop_zero, Int.zero_add] at this
  exact this
def TaskOK (x : S46) (p : Int) : Prop :=
  NameB x.f0 ∧ 1 ≤ x.f6.length ∧ x.f6.length ≤ 8 ∧ Go.bits .andNot .u64 x.f8 x.f7 = 0 ∧ (∀ r ∈ x.f6, 1 ≤ r ∧ r ≤ 10000) ∧ sum x.f6 ≤ x.f2 ∧ x.f2 ≤ x.f1 ∧ x.f1 ≤ 10000 ∧
  ((x.f3 = 0 ∧ x.f4 = 0 ∧ x.f5 = 0) ∨ (x.f3 = 1 ∧ 0 ≤ x.f4 ∧ x.f4 ≤ 10000 ∧ x.f5 = 0) ∨ (x.f3 = 2 ∧ x.f4 = 0 ∧ 0 ≤ x.f5 ∧ x.f5 ≤ p))
theorem is_loop (x : S46) (p : Int) (hN : NameB x.f0) (h1 : 1 ≤ x.f6.length) (h8 : x.f6.length ≤ 8) (hb : Go.bits .andNot .u64 x.f8 x.f7 = 0) (d : Nat) : ∀ i : Nat, i + d = x.f6.length → (∀ j : Nat, j < i → 1 ≤ rd x.f6 (j : Int) ∧ rd x.f6 (j : Int) ≤ 10000) →
    ∃ b, Ev (fun k => taskmasterref5_Is.l0 k p (i : Int) x.f0 x.f1 x.f2 x.f3 x.f4 x.f5 x.f6 x.f7 x.f8) b ∧ (b = true → TaskOK x p) := by
  induction d with
  | zero =>
    intro i hi hall
    have hr : ∀ r ∈ x.f6, 1 ≤ r ∧ r ≤ 10000 := fun r hm => by
      obtain ⟨j, hj, rfl⟩ := List.mem_iff_getElem.1 hm
      have := hall j (by omega)
      unfold rd at this
      rw [Int.toNat_natCast, List.getD_eq_getElem?_getD, List.getElem?_eq_getElem hj] at this
      exact this
    have hw : Ev (fun k => taskmasterref5_Work.f k x.f0 x.f1 x.f2 x.f3 x.f4 x.f5 x.f6 x.f7 x.f8) (sum x.f6) := ⟨9, fun k hk => work_eq _ _ _ _ _ _ _ _ _ h8 hr k (by omega)⟩
    have no : Ev (fun k => taskmasterref5_Is.j2 k p true x.f0 x.f1 x.f2 x.f3 x.f4 x.f5 x.f6 x.f7 x.f8) false := Ev.step (fun k => by rw [taskmasterref5_Is.j2, if_pos rfl]) (Ev.now false)
    by_cases c1 : sum x.f6 > x.f2
    · refine ⟨false, Ev.step (fun k => by rw [taskmasterref5_Is.l0]) (evn (by omega) (Ev.bind hw (evp c1 no))), fun h => by cases h⟩
    · by_cases c2 : x.f2 > x.f1
      · refine ⟨false, Ev.step (fun k => by rw [taskmasterref5_Is.l0]) (evn (by omega) (Ev.bind hw (evn c1 (evp c2 no)))), fun h => by cases h⟩
      · by_cases c3 : x.f1 > 10000
        · refine ⟨false, Ev.step (fun k => by rw [taskmasterref5_Is.l0]) (evn (by omega) (Ev.bind hw (evn c1 (evn c2 ?_)))), fun h => by cases h⟩
          rw [decide_eq_true c3]; exact no
        · have base : ∀ {b : Bool}, Ev (fun k => taskmasterref5_Is.j2 k p false x.f0 x.f1 x.f2 x.f3 x.f4 x.f5 x.f6 x.f7 x.f8) b → Ev (fun k => taskmasterref5_Is.l0 k p (i : Int) x.f0 x.f1 x.f2 x.f3 x.f4 x.f5 x.f6 x.f7 x.f8) b := fun hb => by
            refine Ev.step (fun k => by rw [taskmasterref5_Is.l0]) (evn (by omega) (Ev.bind hw (evn c1 (evn c2 ?_))))
            rw [decide_eq_false c3]; exact hb
          have ok : ∀ (_ : (x.f3 = 0 ∧ x.f4 = 0 ∧ x.f5 = 0) ∨ (x.f3 = 1 ∧ 0 ≤ x.f4 ∧ x.f4 ≤ 10000 ∧ x.f5 = 0) ∨ (x.f3 = 2 ∧ x.f4 = 0 ∧ 0 ≤ x.f5 ∧ x.f5 ≤ p)), TaskOK x p := fun hm => ⟨hN, h1, h8, hb, hr, by omega, by omega, by omega, hm⟩
          by_cases m0 : x.f3 = 0
          · by_cases q0 : x.f4 = 0
            · refine ⟨x.f5 == 0, base (Ev.step (fun k => by rw [taskmasterref5_Is.j2, if_neg (by simp), if_pos m0, if_pos q0]) (Ev.now _)), fun h => ok (Or.inl ⟨m0, q0, by simpa using h⟩)⟩
            · exact ⟨false, base (Ev.step (fun k => by rw [taskmasterref5_Is.j2, if_neg (by simp), if_pos m0, if_neg q0]) (Ev.now _)), fun h => by cases h⟩
          · by_cases m1 : x.f3 = 1
            · by_cases q0 : 0 ≤ x.f4 ∧ x.f4 ≤ 10000
              · refine ⟨x.f5 == 0, base (Ev.step (fun k => by rw [taskmasterref5_Is.j2, if_neg (by simp), if_neg m0, if_pos m1, in_eq, decide_eq_true q0, Option.bind_some, if_pos rfl]) (Ev.now _)), fun h => ok (Or.inr (Or.inl ⟨m1, q0.1, q0.2, by simpa using h⟩))⟩
              · exact ⟨false, base (Ev.step (fun k => by rw [taskmasterref5_Is.j2, if_neg (by simp), if_neg m0, if_pos m1, in_eq, decide_eq_false q0, Option.bind_some, if_neg (by simp)]) (Ev.now _)), fun h => by cases h⟩
            · by_cases m2 : x.f3 = 2
              · by_cases q0 : x.f4 = 0
                · by_cases t0 : x.f5 ≥ 0
                  · refine ⟨decide (x.f5 ≤ p), base (Ev.step (fun k => by rw [taskmasterref5_Is.j2, if_neg (by simp), if_neg m0, if_neg m1, if_pos m2, if_pos q0, if_pos t0]) (Ev.now _)), fun h => ok (Or.inr (Or.inr ⟨m2, q0, t0, of_decide_eq_true h⟩))⟩
                  · exact ⟨false, base (Ev.step (fun k => by rw [taskmasterref5_Is.j2, if_neg (by simp), if_neg m0, if_neg m1, if_pos m2, if_pos q0, if_neg t0]) (Ev.now _)), fun h => by cases h⟩
                · exact ⟨false, base (Ev.step (fun k => by rw [taskmasterref5_Is.j2, if_neg (by simp), if_neg m0, if_neg m1, if_pos m2, if_neg q0]) (Ev.now _)), fun h => by cases h⟩
              · exact ⟨false, base (Ev.step (fun k => by rw [taskmasterref5_Is.j2, if_neg (by simp), if_neg m0, if_neg m1, if_neg m2]) (Ev.now _)), fun h => by cases h⟩
  | succ d ih =>
    intro i hi hall
    by_cases c : 1 ≤ rd x.f6 (i : Int) ∧ rd x.f6 (i : Int) ≤ 10000
    · obtain ⟨b, e, hb'⟩ := ih (i + 1) (by omega) (fun j hj => by
        by_cases hji : j = i
        · subst hji; exact c
        · exact hall j (by omega))
      refine ⟨b, Ev.step (fun k => by rw [taskmasterref5_Is.l0]) (evp (by omega) (evp (by omega) (evb (in_eq _ _ _) (evp (decide_eq_true c) ?_)))), hb'⟩
      rw [w64 (by omega) (by omega)]; exact e
    · have hc : ¬ (decide (1 ≤ rd x.f6 (i : Int) ∧ rd x.f6 (i : Int) ≤ 10000) = true) := fun h => c (of_decide_eq_true h)
      exact ⟨false, Ev.step (fun k => by rw [taskmasterref5_Is.l0]) (evp (by omega) (evp (by omega) (evb (in_eq _ _ _) (evn hc (Ev.now false))))), fun h => by cases h⟩
theorem is_ends (x : S46) (p : Int) (hs : x.f0.size ≤ 9223372036854775807) : ∃ b, Ev (fun k => taskmasterref5_Is.f k x.f0 x.f1 x.f2 x.f3 x.f4 x.f5 x.f6 x.f7 x.f8 p) b ∧ (b = true → TaskOK x p) := by
  unfold taskmasterref5_Is.f
  obtain ⟨n, hn, hN⟩ := name_ends x.f0 hs
  have no : Ev (fun k => taskmasterref5_Is.j0 k p true x.f0 x.f1 x.f2 x.f3 x.f4 x.f5 x.f6 x.f7 x.f8) false := Ev.step (fun k => by rw [taskmasterref5_Is.j0, if_pos rfl]) (Ev.now false)
  by_cases c0 : n = true
  · by_cases c1 : (x.f6.length : Int) < 1
    · exact ⟨false, Ev.bind hn (evp c0 (evp c1 no)), fun h => by cases h⟩
    · by_cases c2 : (x.f6.length : Int) > 8
      · exact ⟨false, Ev.bind hn (evp c0 (evn c1 (evp c2 no))), fun h => by cases h⟩
      · by_cases c3 : Go.bits .andNot .u64 x.f8 x.f7 = 0
        · obtain ⟨b, e, hb⟩ := is_loop x p (hN c0) (by omega) (by omega) c3 x.f6.length 0 (by omega) (fun j hj => absurd hj (Nat.not_lt_zero _))
          refine ⟨b, Ev.bind hn (evp c0 (evn c1 (evn c2 (Ev.step (fun k => by rw [taskmasterref5_Is.j0, if_neg (by rw [c3]; simp)]; rfl) e)))), hb⟩
        · refine ⟨false, Ev.bind hn (evp c0 (evn c1 (evn c2 ?_))), fun h => by cases h⟩
          rw [show (Go.bits .andNot .u64 x.f8 x.f7 != 0) = true by simpa using c3]; exact no
  · exact ⟨false, Ev.bind hn (evn c0 no), fun h => by cases h⟩
def SetOK (r : Int) (l : List S46) : Prop := 0 ≤ r ∧ r ≤ 10000 ∧ 1 ≤ l.length ∧ l.length ≤ 8 ∧ (∀ i : Int, 0 ≤ i → i < l.length → TaskOK (rd_T46 l i) i) ∧ ∀ i : Nat, i < l.length → ∀ j : Nat, j < i → (rd_T46 l (j : Int)).f0.toList ≠ (rd_T46 l (i : Int)).f0.toList
theorem all_loops (r : Int) (l : List S46) (h0 : 0 ≤ r) (h1 : r ≤ 10000) (h2 : 1 ≤ l.length) (h8 : l.length ≤ 8) (hs : ∀ y ∈ l, y.f0.size ≤ 9223372036854775807) (d : Nat) : ∀ i : Nat, i + d = l.length → (∀ j : Int, 0 ≤ j → j < i → TaskOK (rd_T46 l j) j) → (∀ a : Nat, a < i → ∀ j : Nat, j < a → (rd_T46 l (j : Int)).f0.toList ≠ (rd_T46 l (a : Int)).f0.toList) →
    ∃ b, Ev (fun k => taskmasterref5_All.l0 k (i : Int) r l) b ∧ (b = true → SetOK r l) := by
  induction d with
  | zero =>
    intro i hi hall hdis
    exact ⟨true, Ev.step (fun k => by rw [taskmasterref5_All.l0]) (evn (by omega) (Ev.now true)), fun _ => ⟨h0, h1, h2, h8, fun j a b => hall j a (by omega), fun a ha => hdis a (by omega)⟩⟩
  | succ d ih =>
    intro i hi hall hdis
    have hlt : i < l.length := by omega
    have hm : rd_T46 l (i : Int) ∈ l := by
      unfold rd_T46; rw [Int.toNat_natCast, List.getD_eq_getElem?_getD, List.getElem?_eq_getElem hlt]; exact List.getElem_mem hlt
    obtain ⟨t, ht, hok⟩ := is_ends (rd_T46 l (i : Int)) (i : Int) (hs _ hm)
    by_cases c : t = true
    · have next := ih (i + 1) (by omega) (fun j a q => by
        by_cases hji : j = i
        · subst hji; exact hok c
        · exact hall j a (by omega))
      have inner : ∀ d' j : Nat, j + d' = i → (∀ q : Nat, q < j → (rd_T46 l (q : Int)).f0.toList ≠ (rd_T46 l (i : Int)).f0.toList) → ∃ b', Ev (fun k => taskmasterref5_All.l1 k (i : Int) (j : Int) r l) b' ∧ (b' = true → SetOK r l) := by
        intro d'
        induction d' with
        | zero =>
          intro j hj hne
          obtain ⟨b, e, hb⟩ := next (fun a ha q hq => by
            by_cases hai : a = i
            · subst hai; exact hne q (by omega)
            · exact hdis a (by omega) q hq)
          refine ⟨b, Ev.step (fun k => by rw [taskmasterref5_All.l1]) (evn (by omega) ?_), hb⟩
          rw [w64 (by omega) (by omega)]; exact e
        | succ d' ih' =>
          intro j hj hne
          by_cases q : ((rd_T46 l (j : Int)).f0).toList = ((rd_T46 l (i : Int)).f0).toList
          · exact ⟨false, Ev.step (fun k => by rw [taskmasterref5_All.l1]) (evp (by omega) (evp (by omega) (evp (by omega) (evp (by omega) (evp (by omega) (evp q (Ev.now false))))))), fun h => by cases h⟩
          · obtain ⟨b', e', hb'⟩ := ih' (j + 1) (by omega) (fun x hx => by
              by_cases hxj : x = j
              · rw [hxj]; exact q
              · exact hne x (by omega))
            refine ⟨b', Ev.step (fun k => by rw [taskmasterref5_All.l1]) (evp (by omega) (evp (by omega) (evp (by omega) (evp (by omega) (evp (by omega) (evn q ?_)))))), hb'⟩
            rw [w64 (by omega) (by omega)]; exact e'
      obtain ⟨b', e', hb'⟩ := inner i 0 (by omega) (fun q hq => absurd hq (Nat.not_lt_zero _))
      exact ⟨b', Ev.step (fun k => by rw [taskmasterref5_All.l0]) (evp (by omega) (evp (by omega) (Ev.bind ht (evp c e')))), hb'⟩
    · exact ⟨false, Ev.step (fun k => by rw [taskmasterref5_All.l0]) (evp (by omega) (evp (by omega) (Ev.bind ht (evn c (Ev.now false))))), fun h => by cases h⟩
theorem all_ends (r : Int) (l : List S46) (hs : ∀ y ∈ l, y.f0.size ≤ 9223372036854775807) : ∃ b, Ev (fun k => taskmasterref5_All.f k r l) b ∧ (b = true → SetOK r l) := by
  unfold taskmasterref5_All.f
  have no : Ev (fun k => taskmasterref5_All.j0 k true r l) false := Ev.step (fun k => by rw [taskmasterref5_All.j0, if_pos rfl]) (Ev.now false)
  by_cases c0 : 0 ≤ r ∧ r ≤ 10000
  · by_cases c1 : (l.length : Int) < 1
    · exact ⟨false, evb (in_eq _ _ _) (evp (decide_eq_true c0) (evp c1 no)), fun h => by cases h⟩
    · by_cases c2 : (l.length : Int) > 8
      · refine ⟨false, evb (in_eq _ _ _) (evp (decide_eq_true c0) (evn c1 ?_)), fun h => by cases h⟩
        rw [decide_eq_true c2]; exact no
      · obtain ⟨b, e, hb⟩ := all_loops r l c0.1 c0.2 (by omega) (by omega) hs l.length 0 (by omega) (fun j a q => absurd q (by omega)) (fun a ha => absurd ha (Nat.not_lt_zero _))
        refine ⟨b, evb (in_eq _ _ _) (evp (decide_eq_true c0) (evn c1 ?_)), hb⟩
        rw [decide_eq_false c2]
        exact Ev.step (fun k => by rw [taskmasterref5_All.j0, if_neg (by simp)]; rfl) e
  · have hc : ¬ (decide (0 ≤ r ∧ r ≤ 10000) = true) := fun h => c0 (of_decide_eq_true h)
    exact ⟨false, evb (in_eq _ _ _) (evn hc no), fun h => by cases h⟩
end Go.Proofs.YtaofmmnfenlofaaGreatDoor.TopSet
namespace Go.Proofs.YtaofmmnfenlofaaGreatDoor.QTc
open Go.RowKit Go.Proofs.YtaofmmnfenlofaaGreatDoor.TopSet Go.Proofs.YtaofmmnfenlofaaGreatDoorW.PrintWords Go.Proofs.YtaofmmnfenlofaaGreatDoorW.PrintLast Go.Proofs.YtaofmmnfenlofaaGreatDoorW.PrintMore
set_option linter.unusedVariables false
set_option maxRecDepth 100000
theorem words_eq : lex_Words.f = some wordsL := by kernel_rfl
theorem words_len : wordsL.length = 10 := by decide
theorem index_no (s : ByteArray) (h : NoWord s) (d : Nat) : ∀ (k i : Nat), i + d = 10 → d < k → slices_Index_string_string.l0 k wordsL s 10 (i : Int) = some (-1) := by
  induction d with
  | zero =>
    intro k i hi hk
    obtain ⟨k, rfl⟩ : ∃ m, k = m + 1 := ⟨k - 1, by omega⟩
    simp only [slices_Index_string_string.l0]
    rw [if_neg (by omega)]
  | succ d ih =>
    intro k i hi hk
    obtain ⟨k, rfl⟩ : ∃ m, k = m + 1 := ⟨k - 1, by omega⟩
    simp only [slices_Index_string_string.l0]
    rw [if_pos (by omega), if_pos (by omega), if_pos (by rw [words_len]; omega), if_neg (fun e => h i (by omega) e.symm), w64 (by omega) (by omega)]
    exact ih k (i + 1) (by omega) (by omega)
theorem contains_no (s : ByteArray) (h : NoWord s) (k : Nat) (hk : 10 < k) : slices_Contains_string_string.f k wordsL s = some false := by
  unfold slices_Contains_string_string.f slices_Index_string_string.f
  rw [words_len]
  have := index_no s h 10 k 0 (by omega) (by omega)
  rw [show ((0 : Nat) : Int) = 0 from rfl] at this
  rw [show ((10 : Nat) : Int) = 10 from rfl, this]
  rfl
theorem bt_nat (s : ByteArray) (j : Nat) (h : j < s.size) : bt s (j : Int) = ((s[j]'h).toNat : Int) := by
  have := bt_at s (j : Int) (by simpa using h)
  rw [← this]; rfl
theorem okB_more (s : ByteArray) (j : Nat) (h : j < s.size) (hk : okB (bt s (j : Int))) : isMoreB (s[j]'h) = true := by
  rw [bt_nat s j h] at hk
  unfold okB at hk
  unfold isMoreB isLetterB isDigitB
  simp only [Bool.or_eq_true, decide_eq_true_eq]
  omega
theorem plen_every (p : UInt8 → Bool) : ∀ l : List UInt8, (∀ c ∈ l, p c = true) → plen p l = l.length
  | [], _ => rfl
  | c :: r, h => by
    unfold plen
    rw [if_pos (h c List.mem_cons_self), plen_every p r (fun x hx => h x (List.mem_cons_of_mem _ hx)), List.length_cons]
theorem runMore_all (s : ByteArray) (hs : s.size ≤ 12) (h : ∀ j : Nat, j < s.size → okB (bt s (j : Int))) : lex_runMore.f s = some (s.size : Int) := by
  unfold lex_runMore.f
  rw [if_pos (by omega), plen_every]
  · rw [Array.length_toList]; rfl
  · intro c hc
    obtain ⟨j, hj, rfl⟩ := List.mem_iff_getElem.1 hc
    have hj' : j < s.size := by simpa using hj
    rw [Array.getElem_toList]
    exact okB_more s j hj' (h j hj')
theorem name_tok (s : ByteArray) (h : NameB s) (k : Nat) (hk : 10 < k) : lex_token.f k s = some (1, s, 0, 0, (s.size : Int), true) := by
  obtain ⟨⟨h12, hall, hnw⟩, h0, hf1, hf2⟩ := h
  unfold lex_token.f
  have hl : lex_isLetter.f (bt s 0) = some true := by
    unfold lex_isLetter.f
    rw [if_pos (by omega), decide_eq_true (by omega)]
  have hn : lex_name.f k s = some (1, s, 0, 0, (s.size : Int), true) := by
    unfold lex_name.f
    rw [runMore_all s h12 hall, Option.bind_some, if_pos (by omega), if_pos (by omega), words_eq, Option.bind_some]
    rw [show s.extract 0 ((s.size : Int)).toNat = s from ext_all s _ (by omega)]
    rw [contains_no s hnw k hk, Option.bind_some, if_neg (by simp), decide_eq_true (by omega)]
  rw [if_pos (by omega), hl, Option.bind_some, if_pos rfl, hn, Option.bind_some]
theorem name_gap (s : ByteArray) (h : NameB s) : gapN s.data.toList = 0 := by
  obtain ⟨⟨h12, hall, hnw⟩, h0, hf1, hf2⟩ := h
  have hl : s.data.toList = s[0] :: s.data.toList.drop 1 := by
    have := List.drop_eq_getElem_cons (l := s.data.toList) (i := 0) (by simpa using h0)
    rw [List.drop_zero] at this; exact this
  have hb := bt_nat s 0 h0
  rw [show ((0 : Nat) : Int) = 0 from rfl] at hb
  rw [hl, gapN, if_neg (by omega), if_neg (by omega)]
theorem name_toks (s : ByteArray) (h : NameB s) (k : Nat) (hk : 10 < k) : lex_Tokens.f k s = some ([⟨1, s, 0, 0⟩, ⟨4, ⟨#[]⟩, 0, (s.size : Int)⟩], (s.size : Int), 0) := by
  have ht := name_tok s h k hk
  have hg := name_gap s h
  obtain ⟨⟨h12, hall, hnw⟩, h0, hf1, hf2⟩ := h
  unfold lex_Tokens.f
  rw [if_neg (by omega), tokGo, if_neg (by omega), ext_all s s.size rfl, hg, if_neg (by omega), ht, Option.bind_some]
  dsimp only
  rw [if_pos rfl, if_pos ⟨by omega, by omega⟩]
  have e : 0 + ((s.size : Int)).toNat = s.size := by omega
  rw [e]
  obtain ⟨n, hn⟩ : ∃ n, s.size = n + 1 := ⟨s.size - 1, by omega⟩
  rw [show tokGo k s s.size = tokGo k s (n + 1) by rw [hn], tokGo, if_pos rfl]
  rfl
theorem twork_loop (l : List Int) (hl : l.length ≤ 8) (h : ∀ x ∈ l, 1 ≤ x ∧ x ≤ 10000) (d : Nat) : ∀ (k i : Nat) (acc : Int), i + d = l.length → d < k → 0 ≤ acc → acc ≤ 10000 * i →
    task_Work.l0 k acc l (l.length : Int) (i : Int) = some (acc + TopSet.sum (l.drop i)) := by
  induction d with
  | zero =>
    intro k i acc hi hk h0 h1
    obtain ⟨k, rfl⟩ : ∃ m, k = m + 1 := ⟨k - 1, by omega⟩
    simp only [task_Work.l0]
    rw [if_neg (by omega), List.drop_eq_nil_of_le (by omega)]; simp [TopSet.sum]
  | succ d ih =>
    intro k i acc hi hk h0 h1
    obtain ⟨k, rfl⟩ : ∃ m, k = m + 1 := ⟨k - 1, by omega⟩
    have hlt : i < l.length := by omega
    have hm : rd l (i : Int) ∈ l := by
      unfold rd; rw [Int.toNat_natCast, List.getD_eq_getElem?_getD, List.getElem?_eq_getElem hlt]; exact List.getElem_mem hlt
    have hx := h _ hm
    simp only [task_Work.l0]
    rw [if_pos (by omega), if_pos (by omega), if_pos (by omega), w64 (n := acc + rd l (i : Int)) (by omega) (by omega), w64 (n := (i : Int) + 1) (by omega) (by omega), rd_drop hlt]
    have := ih k (i + 1) (acc + rd l (i : Int)) (by omega) (by omega) (by omega) (by omega)
    rw [show ((i + 1 : Nat) : Int) = (i : Int) + 1 by omega] at this
    rw [this]
    simp only [TopSet.sum]
    rw [Int.add_assoc]
theorem odd_no {l : List Int} (h : ∀ x ∈ l, 1 ≤ x ∧ x ≤ 10000) : l.any oddTime = false := by
  rw [List.any_eq_false]
  intro x hx
  have := h x hx
  unfold oddTime
  simp [this.1, this.2]
theorem time_in (n a : Int) (h : a ≤ n) (h2 : n ≤ 10000) : task_isTime.f n a = some true := by
  unfold task_isTime.f
  rw [if_pos h, decide_eq_true h2]
theorem isOk_of (t : S46) (p : Int) (h : TaskOK t p) : IsOk 20 t p := by
  obtain ⟨hN, r1, r8, hb, hr, hs, h21, h1, hm⟩ := h
  have hsum := sum_bound hr
  refine ⟨⟨0, 0, _, _, name_toks t.f0 hN 20 (by omega)⟩, ?_, ⟨TopSet.sum t.f6, ?_, hs⟩, h21, time_in _ _ (by omega) h1, ?_, by rw [hb]; rfl⟩
  · unfold task_isRegions.f task_oddRegions.f
    rw [if_pos (by omega), if_pos (by omega), odd_no hr]; rfl
  · unfold task_Work.f
    have := twork_loop t.f6 r8 hr t.f6.length 20 0 0 (by omega) (by omega) (by omega) (by omega)
    rw [List.drop_zero, Int.zero_add] at this
    exact this
  · unfold task_isMode.f
    rcases hm with ⟨a, b, c⟩ | ⟨a, b, c, d⟩ | ⟨a, b, c, d⟩
    · rw [if_pos a, if_pos b, c]; rfl
    · rw [if_neg (by omega), if_pos a, time_in _ _ b c, Option.bind_some, if_pos rfl, d]; rfl
    · rw [if_neg (by omega), if_neg (by omega), if_pos a, if_pos b, if_pos (by omega), decide_eq_true d]
theorem mem_rd (l : List S46) (x : S46) (h : x ∈ l) : ∃ j : Nat, j < l.length ∧ rd_T46 l (j : Int) = x := by
  obtain ⟨j, hj, rfl⟩ := List.mem_iff_getElem.1 h
  refine ⟨j, hj, ?_⟩
  unfold rd_T46
  rw [Int.toNat_natCast, List.getD_eq_getElem?_getD, List.getElem?_eq_getElem hj]; rfl
theorem mem_take_rd (l : List S46) (n : Nat) (x : S46) (h : x ∈ l.take n) : ∃ j : Nat, j < n ∧ j < l.length ∧ rd_T46 l (j : Int) = x := by
  obtain ⟨j, hj, rfl⟩ := List.mem_iff_getElem.1 h
  rw [List.length_take] at hj
  refine ⟨j, by omega, by omega, ?_⟩
  unfold rd_T46
  rw [Int.toNat_natCast, List.getD_eq_getElem?_getD, List.getElem?_eq_getElem (by omega), List.getElem_take]; rfl
theorem setOK_yes (rl : Int) (A : Option Addr) (c : Nat) (l : List S46) (h : SetOK rl l) (w : World) (hT : TabW w) (hr : Kd.C k46 w A l.length l) (hc : l.length ≤ c) :
    Calls Tryz.prog 20 #[.agg #[.int .i64 rl, .slice A l.length c]] w fun e w' => e = .returned (.bool true) ∧ Below w.heap.size w w' := by
  obtain ⟨h0, h1, l1, l8, hall, hdis⟩ := h
  refine All_yes 20 rl A c l w hT hr hc (time_in _ _ h0 h1) l1 l8 (fun j hj => isOk_of _ _ (hall _ (by omega) (by omega))) (fun j hj x hx e => ?_) (fun j hj => ?_)
  · obtain ⟨q, q1, q2, rfl⟩ := mem_take_rd l j x hx
    exact hdis j hj q q1 (by rw [e])
  · have := (hall (j : Int) (by omega) (by omega)).1.1.1; omega
theorem setOK_odd (rl : Int) (l : List S46) (h : SetOK rl l) : ∀ t ∈ l, 1 ≤ t.f6.length ∧ t.f6.length ≤ 8 ∧ t.f6.any oddTime = false := by
  intro t ht
  obtain ⟨j, hj, rfl⟩ := mem_rd l t ht
  obtain ⟨hN, r1, r8, hb, hr, hs, h21, h1, hm⟩ := h.2.2.2.2.1 (j : Int) (by omega) (by omega)
  exact ⟨r1, r8, odd_no hr⟩
theorem setOK_per (rl : Int) (l : List S46) (h : SetOK rl l) : (l.map (·.f1)).any oddTime = false := by
  refine odd_no fun x hx => ?_
  obtain ⟨t, ht, rfl⟩ := List.mem_map.1 hx
  obtain ⟨j, hj, rfl⟩ := mem_rd l t ht
  obtain ⟨hN, r1, r8, hb, hr, hs, h21, h1, hm⟩ := h.2.2.2.2.1 (j : Int) (by omega) (by omega)
  have := sum_bound hr
  omega
end Go.Proofs.YtaofmmnfenlofaaGreatDoor.QTc
namespace Go.Proofs.YtaofmmnfenlofaaGreatDoor.QTc
open Go.RowKit Go.Proofs.YtaofmmnfenlofaaGreatDoorW.PrintWords Go.Proofs.YtaofmmnfenlofaaGreatDoorW.PrintLast Go.Proofs.YtaofmmnfenlofaaGreatDoorW.PrintMore
attribute [local go_sem] max2_int min2_int max_two min_two max_three min_three max_four min_four
set_option linter.unusedVariables false
set_option linter.unusedSimpArgs false
mutual
def taskmastertop_greedy.l0 : Nat → List (List Int) → Int → Int → ByteArray → Int → Int → Int → Int → Int → List Int → Int → Int → Option (Bool)
 | 0, _, _, _, _, _, _, _, _, _, _, _, _ => none
 | k + 1, x1, x2, x7, x389000, x389001, x389002, x389003, x389004, x389005, x389006, x389007, x389008 => if x7 < (x389006.length : Int) then (if 0 ≤ x2 then (if x2 < (x1.length : Int) then (taskmastertop_greedy.j1 k x1 x2 x7 (decide (x7 < ((rd_L3 x1 x2).length : Int))) x389000 x389001 x389002 x389003 x389004 x389005 x389006 x389007 x389008) else (none)) else (none)) else (taskmastertop_greedy.j1 k x1 x2 x7 false x389000 x389001 x389002 x389003 x389004 x389005 x389006 x389007 x389008)
def taskmastertop_greedy.j1 : Nat → List (List Int) → Int → Int → Bool → ByteArray → Int → Int → Int → Int → Int → List Int → Int → Int → Option (Bool)
 | 0, _, _, _, _, _, _, _, _, _, _, _, _, _ => none
 | k + 1, x1, x2, x7, x25, x389000, x389001, x389002, x389003, x389004, x389005, x389006, x389007, x389008 => if x25 = true then (if 0 ≤ x2 then (if x2 < (x1.length : Int) then (if 0 ≤ x7 then (if x7 < ((rd_L3 x1 x2).length : Int) then (if x7 < (x389006.length : Int) then (if (rd (rd_L3 x1 x2) x7) > (rd x389006 x7) then (some true) else (taskmastertop_greedy.l0 k x1 x2 (wrap64 (x7 + 1)) x389000 x389001 x389002 x389003 x389004 x389005 x389006 x389007 x389008)) else (none)) else (none)) else (none)) else (none)) else (none)) else (some false)
end
def taskmastertop_greedy.f (k : Nat) (a0_0 : ByteArray) (a0_1 : Int) (a0_2 : Int) (a0_3 : Int) (a0_4 : Int) (a0_5 : Int) (l0_6 : List Int) (a0_7 : Int) (a0_8 : Int) (l1 : List (List Int)) (a2 : Int) : Option (Bool) := if a2 ≥ (l1.length : Int) then (some false) else (taskmastertop_greedy.l0 k l1 a2 0 a0_0 a0_1 a0_2 a0_3 a0_4 a0_5 l0_6 a0_7 a0_8)
set_option maxHeartbeats 8000000 in
set_option maxRecDepth 100000 in
theorem taskmastertop_greedy.calls (k : Nat) (a0_0 : ByteArray) (a0_1 : Int) (a0_2 : Int) (a0_3 : Int) (a0_4 : Int) (a0_5 : Int) (A0_6 : Option Addr) (c0_6 : Nat) (l0_6 : List Int) (a0_7 : Int) (a0_8 : Int) (A1 : Option Addr) (c1 : Nat) (l1 : List (List Int)) (a2 : Int) (r : Bool) (w : World) (hr0_6 : Kd.C (Kd.int .i64) w A0_6 l0_6.length l0_6) (hc0_6 : l0_6.length ≤ c0_6) (hr1 : Kd.C (Kd.slice 2 (Kd.int .i64)) w A1 l1.length l1) (hc1 : l1.length ≤ c1) (h : taskmastertop_greedy.f k a0_0 a0_1 a0_2 a0_3 a0_4 a0_5 l0_6 a0_7 a0_8 l1 a2 = some r) :
  Calls Tryz.prog 16 #[.agg #[.string a0_0, .int .i64 a0_1, .int .i64 a0_2, .int .i64 a0_3, .int .i64 a0_4, .int .i64 a0_5, .slice A0_6 l0_6.length c0_6, .int .u64 a0_7, .int .u64 a0_8], .slice A1 l1.length c1, .int .i64 a2] w fun e w' => e = .returned (.bool r) ∧ Below w.heap.size w w' := by
 have hu46 := Tryz.underlying46
 have HR0_6 := Aside0.mk hr0_6
 have HC0_6 := Aside0.mk hc0_6
 clear hr0_6 hc0_6
 have HR1 := Aside0.mk hr1
 have HC1 := Aside0.mk hc1
 clear hr1 hc1
 have HB := Aside0.mk (Below.refl w.heap.size w)
 have H : (if a2 ≥ (l1.length : Int) then (some false) else (taskmastertop_greedy.l0 k l1 a2 0 a0_0 a0_1 a0_2 a0_3 a0_4 a0_5 l0_6 a0_7 a0_8)) = some r := h
 clear h
 by_cases c4 : a2 ≥ (l1.length : Int)
 ·rw [if_pos c4] at H
  have c4b0 : decide ((l1.length : Int) ≤ a2) = true := decide_eq_true c4
  clear c4
  obtain rfl := Option.some.inj H
  go_enter Tryz.func16, Tryz.ntmps16
  go_wp2_with (first | ((with_reducible refine gate_dst (N := 3) rfl ?_); (try (refine gate_guard (by rfl) ?_; dsimp only)); refine box_event ?hg (N := 3) ?hd (cs := #[.string a0_0, .int .i64 a0_1, .int .i64 a0_2, .int .i64 a0_3, .int .i64 a0_4, .int .i64 a0_5, .slice A0_6 l0_6.length c0_6, .int .u64 a0_7, .int .u64 a0_8]) (t := 46) ?hr ?_; (case hd => rfl); (case hg => rfl); (case hr => first | (go_simp; done) | (go_simp; rfl)); intro gb388 hg w5 hbox hb; have n0_ := Aside0.mk (below_step (by repeat (first | (with_reducible first | exact HB.out | apply below_alloc | apply pw_below_drewN | apply below_drew1) | exact HB.out)) hb); have n1_ := Aside0.mk (hbox); have n2_ := Aside0.mk ((by rw [hg]; exact (below_size (by repeat (first | (with_reducible first | exact HB.out | apply below_alloc | apply pw_below_drewN | apply below_drew1) | exact HB.out))) : w.heap.size ≤ gb388)); have n3_ := Aside0.mk ((by rw [hg]; exact (below_size (by repeat (first | (with_reducible first | exact HB.out | apply below_alloc | apply pw_below_drewN | apply below_drew1) | exact HB.out))) : w.heap.size ≤ gb388)); clear HB; have HB := n0_; have BK388 := n1_; have GW388 := n2_; have GE388 := n3_; clear n0_ n1_ n2_ n3_; clear hb hbox hg))
  repeat (go_quiet (first | ((with_reducible refine gate_dst (N := 3) rfl ?_); (try (refine gate_guard (by rfl) ?_; dsimp only)); refine box_event ?hg (N := 3) ?hd (cs := #[.string a0_0, .int .i64 a0_1, .int .i64 a0_2, .int .i64 a0_3, .int .i64 a0_4, .int .i64 a0_5, .slice A0_6 l0_6.length c0_6, .int .u64 a0_7, .int .u64 a0_8]) (t := 46) ?hr ?_; (case hd => rfl); (case hg => rfl); (case hr => first | (go_simp; done) | (go_simp; rfl)); intro gb388 hg w5 hbox hb; have n0_ := Aside0.mk (below_step (by repeat (first | (with_reducible first | exact HB.out | apply below_alloc | apply pw_below_drewN | apply below_drew1) | exact HB.out)) hb); have n1_ := Aside0.mk (hbox); have n2_ := Aside0.mk ((by rw [hg]; exact (below_size (by repeat (first | (with_reducible first | exact HB.out | apply below_alloc | apply pw_below_drewN | apply below_drew1) | exact HB.out))) : w.heap.size ≤ gb388)); have n3_ := Aside0.mk ((by rw [hg]; exact (below_size (by repeat (first | (with_reducible first | exact HB.out | apply below_alloc | apply pw_below_drewN | apply below_drew1) | exact HB.out))) : w.heap.size ≤ gb388)); clear HB; have HB := n0_; have BK388 := n1_; have GW388 := n2_; have GE388 := n3_; clear n0_ n1_ n2_ n3_; clear hb hbox hg)); try go_wp2_with (first | ((with_reducible refine gate_dst (N := 3) rfl ?_); (try (refine gate_guard (by rfl) ?_; dsimp only)); refine box_event ?hg (N := 3) ?hd (cs := #[.string a0_0, .int .i64 a0_1, .int .i64 a0_2, .int .i64 a0_3, .int .i64 a0_4, .int .i64 a0_5, .slice A0_6 l0_6.length c0_6, .int .u64 a0_7, .int .u64 a0_8]) (t := 46) ?hr ?_; (case hd => rfl); (case hg => rfl); (case hr => first | (go_simp; done) | (go_simp; rfl)); intro gb388 hg w5 hbox hb; have n0_ := Aside0.mk (below_step (by repeat (first | (with_reducible first | exact HB.out | apply below_alloc | apply pw_below_drewN | apply below_drew1) | exact HB.out)) hb); have n1_ := Aside0.mk (hbox); have n2_ := Aside0.mk ((by rw [hg]; exact (below_size (by repeat (first | (with_reducible first | exact HB.out | apply below_alloc | apply pw_below_drewN | apply below_drew1) | exact HB.out))) : w.heap.size ≤ gb388)); have n3_ := Aside0.mk ((by rw [hg]; exact (below_size (by repeat (first | (with_reducible first | exact HB.out | apply below_alloc | apply pw_below_drewN | apply below_drew1) | exact HB.out))) : w.heap.size ≤ gb388)); clear HB; have HB := n0_; have BK388 := n1_; have GW388 := n2_; have GE388 := n3_; clear n0_ n1_ n2_ n3_; clear hb hbox hg)))
  go_ret
  exact ⟨by first | rfl | (simp [errW_none, errW_some] <;> rfl) | (simp [*, errW_none, errW_some] <;> rfl), by repeat (first | (with_reducible first | exact HB.out | apply below_alloc | apply pw_below_drewN | apply below_drew1 | refine below_set ?_ GE388.out) | exact HB.out)⟩
 ·rw [if_neg c4] at H
  have c4b0 : decide ((l1.length : Int) ≤ a2) = false := decide_eq_false c4
  clear c4
  have H' := Aside0.mk H
  clear H
  go_enter Tryz.func16, Tryz.ntmps16
  go_wp2_with (first | ((with_reducible refine gate_dst (N := 3) rfl ?_); (try (refine gate_guard (by rfl) ?_; dsimp only)); refine box_event ?hg (N := 3) ?hd (cs := #[.string a0_0, .int .i64 a0_1, .int .i64 a0_2, .int .i64 a0_3, .int .i64 a0_4, .int .i64 a0_5, .slice A0_6 l0_6.length c0_6, .int .u64 a0_7, .int .u64 a0_8]) (t := 46) ?hr ?_; (case hd => rfl); (case hg => rfl); (case hr => first | (go_simp; done) | (go_simp; rfl)); intro gb388 hg w6 hbox hb; have n0_ := Aside0.mk (below_step (by repeat (first | (with_reducible first | exact HB.out | apply below_alloc | apply pw_below_drewN | apply below_drew1) | exact HB.out)) hb); have n1_ := Aside0.mk (hbox); have n2_ := Aside0.mk ((by rw [hg]; exact (below_size (by repeat (first | (with_reducible first | exact HB.out | apply below_alloc | apply pw_below_drewN | apply below_drew1) | exact HB.out))) : w.heap.size ≤ gb388)); have n3_ := Aside0.mk ((by rw [hg]; exact (below_size (by repeat (first | (with_reducible first | exact HB.out | apply below_alloc | apply pw_below_drewN | apply below_drew1) | exact HB.out))) : w.heap.size ≤ gb388)); clear HB; have HB := n0_; have BK388 := n1_; have GW388 := n2_; have GE388 := n3_; clear n0_ n1_ n2_ n3_; clear hb hbox hg))
  repeat (go_quiet (first | ((with_reducible refine gate_dst (N := 3) rfl ?_); (try (refine gate_guard (by rfl) ?_; dsimp only)); refine box_event ?hg (N := 3) ?hd (cs := #[.string a0_0, .int .i64 a0_1, .int .i64 a0_2, .int .i64 a0_3, .int .i64 a0_4, .int .i64 a0_5, .slice A0_6 l0_6.length c0_6, .int .u64 a0_7, .int .u64 a0_8]) (t := 46) ?hr ?_; (case hd => rfl); (case hg => rfl); (case hr => first | (go_simp; done) | (go_simp; rfl)); intro gb388 hg w6 hbox hb; have n0_ := Aside0.mk (below_step (by repeat (first | (with_reducible first | exact HB.out | apply below_alloc | apply pw_below_drewN | apply below_drew1) | exact HB.out)) hb); have n1_ := Aside0.mk (hbox); have n2_ := Aside0.mk ((by rw [hg]; exact (below_size (by repeat (first | (with_reducible first | exact HB.out | apply below_alloc | apply pw_below_drewN | apply below_drew1) | exact HB.out))) : w.heap.size ≤ gb388)); have n3_ := Aside0.mk ((by rw [hg]; exact (below_size (by repeat (first | (with_reducible first | exact HB.out | apply below_alloc | apply pw_below_drewN | apply below_drew1) | exact HB.out))) : w.heap.size ≤ gb388)); clear HB; have HB := n0_; have BK388 := n1_; have GW388 := n2_; have GE388 := n3_; clear n0_ n1_ n2_ n3_; clear hb hbox hg)); try go_wp2_with (first | ((with_reducible refine gate_dst (N := 3) rfl ?_); (try (refine gate_guard (by rfl) ?_; dsimp only)); refine box_event ?hg (N := 3) ?hd (cs := #[.string a0_0, .int .i64 a0_1, .int .i64 a0_2, .int .i64 a0_3, .int .i64 a0_4, .int .i64 a0_5, .slice A0_6 l0_6.length c0_6, .int .u64 a0_7, .int .u64 a0_8]) (t := 46) ?hr ?_; (case hd => rfl); (case hg => rfl); (case hr => first | (go_simp; done) | (go_simp; rfl)); intro gb388 hg w6 hbox hb; have n0_ := Aside0.mk (below_step (by repeat (first | (with_reducible first | exact HB.out | apply below_alloc | apply pw_below_drewN | apply below_drew1) | exact HB.out)) hb); have n1_ := Aside0.mk (hbox); have n2_ := Aside0.mk ((by rw [hg]; exact (below_size (by repeat (first | (with_reducible first | exact HB.out | apply below_alloc | apply pw_below_drewN | apply below_drew1) | exact HB.out))) : w.heap.size ≤ gb388)); have n3_ := Aside0.mk ((by rw [hg]; exact (below_size (by repeat (first | (with_reducible first | exact HB.out | apply below_alloc | apply pw_below_drewN | apply below_drew1) | exact HB.out))) : w.heap.size ≤ gb388)); clear HB; have HB := n0_; have BK388 := n1_; have GW388 := n2_; have GE388 := n3_; clear n0_ n1_ n2_ n3_; clear hb hbox hg)))
  go_loopg [7] k (fun kq v7 w' => ∃ (x7_1 : Int), v7 = .int .i64 x7_1 ∧ Aside0 (taskmastertop_greedy.l0 kq l1 a2 x7_1 a0_0 a0_1 a0_2 a0_3 a0_4 a0_5 l0_6 a0_7 a0_8 = some r) ∧ Aside0 (kq ≤ k) ∧ Aside0 (w'.heap[gb388]? = some (.cells #[.string a0_0, .int .i64 a0_1, .int .i64 a0_2, .int .i64 a0_3, .int .i64 a0_4, .int .i64 a0_5, (.slice A0_6 l0_6.length c0_6), .int .u64 a0_7, .int .u64 a0_8] 46 (0, 0))) ∧ Aside0 (Below w.heap.size w w'))
  case atStart => exact ⟨(0), (by first | rfl | (simp; done) | (simp [*]; done)), H', ⟨Nat.le_refl _⟩, ⟨by (with_reducible repeat (first | refine blk_drewN ?_ _ | refine blk_drew ?_ | refine blk_alloc ?_ _)); exact BK388.out⟩, ⟨by repeat (first | (with_reducible first | exact HB.out | apply below_alloc | apply pw_below_drewN | apply below_drew1 | refine below_set ?_ GE388.out) | exact HB.out)⟩⟩
  case round =>
   clear H'
   try clear c1
   try clear p2
   try clear c4
   try clear c4b0
   obtain ⟨x7_1, rfl, HA, HK1, BK388, HB⟩ := hrel
   cases gk with
   | zero => exact absurd HA.out (by simp [taskmastertop_greedy.l0])
   | succ k1 =>
    have H := HA.out
    clear HA
    simp only [taskmastertop_greedy.l0] at H
    have HC7 := Aside0.mk H
    clear H
    go_upto_region 4 with (fail)
    repeat (go_quiet (fail); go_upto_region 4 with (fail))
    go_cut [25] (fun v25 wc => ∃ (kq : Nat) (x25_6 : Bool), v25 = .bool x25_6 ∧ Aside0 (taskmastertop_greedy.j1 kq l1 a2 x7_1 x25_6 a0_0 a0_1 a0_2 a0_3 a0_4 a0_5 l0_6 a0_7 a0_8 = some r) ∧ Aside0 (kq ≤ k1) ∧ Aside0 (wc.heap[gb388]? = some (.cells #[.string a0_0, .int .i64 a0_1, .int .i64 a0_2, .int .i64 a0_3, .int .i64 a0_4, .int .i64 a0_5, (.slice A0_6 l0_6.length c0_6), .int .u64 a0_7, .int .u64 a0_8] 46 (0, 0))) ∧ Aside0 (Below w.heap.size w wc))
    case first =>
     have H := HC7.out
     clear HC7
     by_cases c8 : x7_1 < (l0_6.length : Int)
     ·rw [if_pos c8] at H
      have c8b0 : decide (x7_1 < (l0_6.length : Int)) = true := decide_eq_true c8
      clear c8
      (first | rw [c8b0] | (simp only [i64_w, i32_w]; rw [c8b0]) | skip)
      by_cases c9 : 0 ≤ a2
      ·rw [if_pos c9] at H
       have c9b0 : decide (0 ≤ a2) = true := decide_eq_true c9
       clear c9
       by_cases c10 : a2 < (l1.length : Int)
       ·rw [if_pos c10] at H
        have c10b0 : decide (a2 < (l1.length : Int)) = true := decide_eq_true c10
        clear c10
        have H' := Aside0.mk H
        clear H
        obtain ⟨hcz11_0, hcz11_1, hcz11_2, hcz11_3, hcz11_4, hcz11_5, hcz11_6, hcz11_7, hcz11_8, hfz11_0, hfz11_1, hfz11_2, hfz11_3, hfz11_4, hfz11_5, hfz11_6, hfz11_7, hfz11_8⟩ := cells9 BK388.out
        have p389 : 0 ≤ (a2 : Int) := of_decide_eq_true (by first | (with_reducible assumption) | assumption)
        have q389 : a2 < (l1.length : Int) := of_decide_eq_true (by first | (with_reducible assumption) | assumption)
        obtain ⟨ad389, A389_0, c389_0, e389, hx389_0, hl389_0, hi389_0⟩ := at_L3 HR1.out a2 p389 q389
        cases e389
        replace hx389_0 := (HB.out.cell (World.block_lt_of_cell? w _ hx389_0)).trans hx389_0
        have HR389_0 := Aside0.mk hi389_0
        have HC389_0 := Aside0.mk hl389_0
        clear hi389_0 hl389_0
        replace p389 := eq_true p389
        replace q389 := eq_true q389
        go_wp2
        repeat (go_quiet (fail); try go_wp2)
        go_meet
        case rel => exact ⟨_, (decide (x7_1 < ((rd_L3 l1 a2).length : Int))), (by first | rfl | (simp; done) | (simp [*]; done)), H', ⟨by have := HK1.out; first | omega | exact Nat.le_refl _⟩, ⟨by (with_reducible repeat (first | refine blk_drewN ?_ _ | refine blk_drew ?_ | refine blk_alloc ?_ _)); exact BK388.out⟩, ⟨by repeat (first | (with_reducible first | exact HB.out | apply below_alloc | apply pw_below_drewN | apply below_drew1 | refine below_set ?_ GE388.out) | exact HB.out)⟩⟩
       ·rw [if_neg c10] at H
        exact absurd H (by simp)
      ·rw [if_neg c9] at H
       exact absurd H (by simp)
     ·rw [if_neg c8] at H
      have c8b0 : decide (x7_1 < (l0_6.length : Int)) = false := decide_eq_false c8
      clear c8
      (first | rw [c8b0] | (simp only [i64_w, i32_w]; rw [c8b0]) | skip)
      have H' := Aside0.mk H
      clear H
      obtain ⟨hcz12_0, hcz12_1, hcz12_2, hcz12_3, hcz12_4, hcz12_5, hcz12_6, hcz12_7, hcz12_8, hfz12_0, hfz12_1, hfz12_2, hfz12_3, hfz12_4, hfz12_5, hfz12_6, hfz12_7, hfz12_8⟩ := cells9 BK388.out
      go_wp2
      repeat (go_quiet (fail); try go_wp2)
      go_meet
      case rel => exact ⟨_, (false), (by first | rfl | (simp; done) | (simp [*]; done)), H', ⟨by have := HK1.out; first | omega | exact Nat.le_refl _⟩, ⟨by (with_reducible repeat (first | refine blk_drewN ?_ _ | refine blk_drew ?_ | refine blk_alloc ?_ _)); exact BK388.out⟩, ⟨by repeat (first | (with_reducible first | exact HB.out | apply below_alloc | apply pw_below_drewN | apply below_drew1 | refine below_set ?_ GE388.out) | exact HB.out)⟩⟩
    case rest =>
     clear HC7
     try clear c1
     try clear p2
     try clear c3
     try clear p3
     try clear q3
     try clear hx3
     try clear c4
     try clear c4b0
     try clear c8
     try clear c8b0
     try clear c9
     try clear c9b0
     try clear c10
     try clear c10b0
     try clear hcz11_0
     try clear hcz11_1
     try clear hcz11_2
     try clear hcz11_3
     try clear hcz11_4
     try clear hcz11_5
     try clear hcz11_6
     try clear hcz11_7
     try clear hcz11_8
     try clear hcz12_0
     try clear hcz12_1
     try clear hcz12_2
     try clear hcz12_3
     try clear hcz12_4
     try clear hcz12_5
     try clear hcz12_6
     try clear hcz12_7
     try clear hcz12_8
     try clear hfz11_0
     try clear hfz11_1
     try clear hfz11_2
     try clear hfz11_3
     try clear hfz11_4
     try clear hfz11_5
     try clear hfz11_6
     try clear hfz11_7
     try clear hfz11_8
     try clear hfz12_0
     try clear hfz12_1
     try clear hfz12_2
     try clear hfz12_3
     try clear hfz12_4
     try clear hfz12_5
     try clear hfz12_6
     try clear hfz12_7
     try clear hfz12_8
     try clear hx389_0
     try clear p2
     try clear p389
     try clear q389
     obtain ⟨kq, x25_6, rfl, HA, HJ6, BK388, HB⟩ := hcut
     cases kq with
     | zero => exact absurd HA.out (by simp [taskmastertop_greedy.j1])
     | succ kj6 =>
      have H := HA.out
      clear HA
      simp only [taskmastertop_greedy.j1] at H
      by_cases c13 : x25_6 = true
      ·subst c13
       have H1 : (if 0 ≤ a2 then (if a2 < (l1.length : Int) then (if 0 ≤ x7_1 then (if x7_1 < ((rd_L3 l1 a2).length : Int) then (if x7_1 < (l0_6.length : Int) then (if (rd (rd_L3 l1 a2) x7_1) > (rd l0_6 x7_1) then (some true) else (taskmastertop_greedy.l0 kj6 l1 a2 (wrap64 (x7_1 + 1)) a0_0 a0_1 a0_2 a0_3 a0_4 a0_5 l0_6 a0_7 a0_8)) else (none)) else (none)) else (none)) else (none)) else (none)) = some r := by rw [if_pos rfl] at H; exact H
       clear H
       have H := H1
       clear H1
       by_cases c14 : 0 ≤ a2
       ·rw [if_pos c14] at H
        have c14b0 : decide (0 ≤ a2) = true := decide_eq_true c14
        clear c14
        by_cases c15 : a2 < (l1.length : Int)
        ·rw [if_pos c15] at H
         have c15b0 : decide (a2 < (l1.length : Int)) = true := decide_eq_true c15
         clear c15
         by_cases c16 : 0 ≤ x7_1
         ·rw [if_pos c16] at H
          have c16b0 : decide (0 ≤ x7_1) = true := decide_eq_true c16
          clear c16
          by_cases c17 : x7_1 < ((rd_L3 l1 a2).length : Int)
          ·rw [if_pos c17] at H
           have c17b0 : decide (x7_1 < ((rd_L3 l1 a2).length : Int)) = true := decide_eq_true c17
           clear c17
           by_cases c18 : x7_1 < (l0_6.length : Int)
           ·rw [if_pos c18] at H
            have c18b0 : decide (x7_1 < (l0_6.length : Int)) = true := decide_eq_true c18
            clear c18
            by_cases c19 : (rd (rd_L3 l1 a2) x7_1) > (rd l0_6 x7_1)
            ·rw [if_pos c19] at H
             have c19b0 : decide ((rd l0_6 x7_1) < (rd (rd_L3 l1 a2) x7_1)) = true := decide_eq_true c19
             clear c19
             obtain rfl := Option.some.inj H
             have p390 : 0 ≤ (a2 : Int) := of_decide_eq_true (by first | (with_reducible assumption) | assumption)
             have q390 : a2 < (l1.length : Int) := of_decide_eq_true (by first | (with_reducible assumption) | assumption)
             obtain ⟨ad390, A390_0, c390_0, e390, hx390_0, hl390_0, hi390_0⟩ := at_L3 HR1.out a2 p390 q390
             cases e390
             replace hx390_0 := (HB.out.cell (World.block_lt_of_cell? w _ hx390_0)).trans hx390_0
             have HR390_0 := Aside0.mk hi390_0
             have HC390_0 := Aside0.mk hl390_0
             clear hi390_0 hl390_0
             replace p390 := eq_true p390
             replace q390 := eq_true q390
             have p391 : 0 ≤ (x7_1 : Int) := of_decide_eq_true (by first | (with_reducible assumption) | assumption)
             have q391 : x7_1 < ((rd_L3 l1 a2).length : Int) := of_decide_eq_true (by first | (with_reducible assumption) | assumption)
             obtain ⟨ad391, e391, hx391_0⟩ := Kd.at_int HR390_0.out x7_1 p391 q391
             cases e391
             replace hx391_0 := (HB.out.cell (World.block_lt_of_cell? w _ hx391_0)).trans hx391_0
             replace p391 := eq_true p391
             replace q391 := eq_true q391
             obtain ⟨hcz20_0, hcz20_1, hcz20_2, hcz20_3, hcz20_4, hcz20_5, hcz20_6, hcz20_7, hcz20_8, hfz20_0, hfz20_1, hfz20_2, hfz20_3, hfz20_4, hfz20_5, hfz20_6, hfz20_7, hfz20_8⟩ := cells9 BK388.out
             have p392 : 0 ≤ (x7_1 : Int) := of_decide_eq_true (by first | (with_reducible assumption) | assumption)
             have q392 : x7_1 < (l0_6.length : Int) := of_decide_eq_true (by first | (with_reducible assumption) | assumption)
             obtain ⟨ad392, e392, hx392_0⟩ := Kd.at_int HR0_6.out x7_1 p392 q392
             cases e392
             replace hx392_0 := (HB.out.cell (World.block_lt_of_cell? w _ hx392_0)).trans hx392_0
             replace p392 := eq_true p392
             replace q392 := eq_true q392
             go_wp2
             repeat (go_quiet (fail); try go_wp2)
             go_ret
             exact ⟨by first | rfl | (simp [errW_none, errW_some] <;> rfl) | (simp [*, errW_none, errW_some] <;> rfl), by repeat (first | (with_reducible first | exact HB.out | apply below_alloc | apply pw_below_drewN | apply below_drew1 | refine below_set ?_ GE388.out) | exact HB.out)⟩
            ·rw [if_neg c19] at H
             have c19b0 : decide ((rd l0_6 x7_1) < (rd (rd_L3 l1 a2) x7_1)) = false := decide_eq_false c19
             clear c19
             have H' := Aside0.mk H
             clear H
             have p390 : 0 ≤ (a2 : Int) := of_decide_eq_true (by first | (with_reducible assumption) | assumption)
             have q390 : a2 < (l1.length : Int) := of_decide_eq_true (by first | (with_reducible assumption) | assumption)
             obtain ⟨ad390, A390_0, c390_0, e390, hx390_0, hl390_0, hi390_0⟩ := at_L3 HR1.out a2 p390 q390
             cases e390
             replace hx390_0 := (HB.out.cell (World.block_lt_of_cell? w _ hx390_0)).trans hx390_0
             have HR390_0 := Aside0.mk hi390_0
             have HC390_0 := Aside0.mk hl390_0
             clear hi390_0 hl390_0
             replace p390 := eq_true p390
             replace q390 := eq_true q390
             have p391 : 0 ≤ (x7_1 : Int) := of_decide_eq_true (by first | (with_reducible assumption) | assumption)
             have q391 : x7_1 < ((rd_L3 l1 a2).length : Int) := of_decide_eq_true (by first | (with_reducible assumption) | assumption)
             obtain ⟨ad391, e391, hx391_0⟩ := Kd.at_int HR390_0.out x7_1 p391 q391
             cases e391
             replace hx391_0 := (HB.out.cell (World.block_lt_of_cell? w _ hx391_0)).trans hx391_0
             replace p391 := eq_true p391
             replace q391 := eq_true q391
             obtain ⟨hcz21_0, hcz21_1, hcz21_2, hcz21_3, hcz21_4, hcz21_5, hcz21_6, hcz21_7, hcz21_8, hfz21_0, hfz21_1, hfz21_2, hfz21_3, hfz21_4, hfz21_5, hfz21_6, hfz21_7, hfz21_8⟩ := cells9 BK388.out
             have p392 : 0 ≤ (x7_1 : Int) := of_decide_eq_true (by first | (with_reducible assumption) | assumption)
             have q392 : x7_1 < (l0_6.length : Int) := of_decide_eq_true (by first | (with_reducible assumption) | assumption)
             obtain ⟨ad392, e392, hx392_0⟩ := Kd.at_int HR0_6.out x7_1 p392 q392
             cases e392
             replace hx392_0 := (HB.out.cell (World.block_lt_of_cell? w _ hx392_0)).trans hx392_0
             replace p392 := eq_true p392
             replace q392 := eq_true q392
             go_wp2
             repeat (go_quiet (fail); try go_wp2)
             go_roundg kj6
             case measure => have := HK1.out; have := HJ6.out; omega
             case rel => exact ⟨(wrap64 (x7_1 + 1)), (by first | rfl | (simp; done) | (simp [*]; done)), H', ⟨by have := HK1.out; have := HJ6.out; omega⟩, ⟨by (with_reducible repeat (first | refine blk_drewN ?_ _ | refine blk_drew ?_ | refine blk_alloc ?_ _)); exact BK388.out⟩, ⟨by repeat (first | (with_reducible first | exact HB.out | apply below_alloc | apply pw_below_drewN | apply below_drew1 | refine below_set ?_ GE388.out) | exact HB.out)⟩⟩
           ·rw [if_neg c18] at H
            exact absurd H (by simp)
          ·rw [if_neg c17] at H
           exact absurd H (by simp)
         ·rw [if_neg c16] at H
          exact absurd H (by simp)
        ·rw [if_neg c15] at H
         exact absurd H (by simp)
       ·rw [if_neg c14] at H
        exact absurd H (by simp)
      ·replace c13 := Bool.eq_false_iff.mpr c13
       subst c13
       have H1 : (some false) = some r := by rw [if_neg (show ¬ (false = true) by decide)] at H; exact H
       clear H
       have H := H1
       clear H1
       obtain rfl := Option.some.inj H
       go_wp2
       repeat (go_quiet (fail); try go_wp2)
       go_ret
       exact ⟨by first | rfl | (simp [errW_none, errW_some] <;> rfl) | (simp [*, errW_none, errW_some] <;> rfl), by repeat (first | (with_reducible first | exact HB.out | apply below_alloc | apply pw_below_drewN | apply below_drew1 | refine below_set ?_ GE388.out) | exact HB.out)⟩
mutual
def taskmastertop_long.l0 : Nat → List (S52) → Int → Option (Bool)
 | 0, _, _ => none
 | k + 1, x0, x3 => if x3 < (x0.length : Int) then (taskmastertop_long.j1 k x0 x3 (decide (x3 < 300))) else (taskmastertop_long.j1 k x0 x3 false)
def taskmastertop_long.j1 : Nat → List (S52) → Int → Bool → Option (Bool)
 | 0, _, _, _ => none
 | k + 1, x0, x3, x12 => if x12 = true then (if 0 ≤ x3 then (if x3 < (x0.length : Int) then (if (((rd_T52 x0 x3).f1).length : Int) > 20 then (some true) else (taskmastertop_long.l1 k x0 x3 0)) else (none)) else (none)) else (some (decide ((x0.length : Int) > 250)))
def taskmastertop_long.l1 : Nat → List (S52) → Int → Int → Option (Bool)
 | 0, _, _, _ => none
 | k + 1, x0, x3, x4 => if 0 ≤ x3 then (if x3 < (x0.length : Int) then (if x4 < (((rd_T52 x0 x3).f1).length : Int) then (if 0 ≤ x4 then (if ((rd_L3 ((rd_T52 x0 x3).f1) x4).length : Int) > 20 then (some true) else (taskmastertop_long.l1 k x0 x3 (wrap64 (x4 + 1)))) else (none)) else (taskmastertop_long.l0 k x0 (wrap64 (x3 + 1)))) else (none)) else (none)
end
def taskmastertop_long.f (k : Nat) (l0 : List (S52)) : Option (Bool) := taskmastertop_long.l0 k l0 0
set_option maxHeartbeats 8000000 in
set_option maxRecDepth 100000 in
theorem taskmastertop_long.calls (k : Nat) (A0 : Option Addr) (c0 : Nat) (l0 : List (S52)) (r : Bool) (w : World) (hr0 : Kd.C k52 w A0 l0.length l0) (hc0 : l0.length ≤ c0) (h : taskmastertop_long.f k l0 = some r) :
  Calls Tryz.prog 8 #[.slice A0 l0.length c0] w fun e w' => e = .returned (.bool r) ∧ Drawn0 w w' := by
 have HR0 := Aside0.mk hr0
 have HC0 := Aside0.mk hc0
 clear hr0 hc0
 have H : (taskmastertop_long.l0 k l0 0) = some r := h
 clear h
 have H' := Aside0.mk H
 clear H
 go_enter Tryz.func8, Tryz.ntmps8
 go_wp2
 go_loopg [3] k (fun kq v3 w' => ∃ (x3_1 : Int), v3 = .int .i64 x3_1 ∧ Aside0 (taskmastertop_long.l0 kq l0 x3_1 = some r) ∧ Aside0 (kq ≤ k) ∧ Drawn0 w w')
 case atStart => exact ⟨(0), (by first | rfl | (simp; done) | (simp [*]; done)), H', ⟨Nat.le_refl _⟩, by repeat (first | exact Drawn0.refl _ | apply Drawn0.step)⟩
 case round =>
  clear H'
  obtain ⟨x3_1, rfl, HA, HK1, ⟨m1, rfl⟩⟩ := hrel
  cases gk with
  | zero => exact absurd HA.out (by simp [taskmastertop_long.l0])
  | succ k1 =>
   have H := HA.out
   clear HA
   simp only [taskmastertop_long.l0] at H
   have HC2 := Aside0.mk H
   clear H
   go_upto_region 2 with (fail)
   go_cut [12] (fun v12 wc => ∃ (kq : Nat) (x12_1 : Bool), v12 = .bool x12_1 ∧ Aside0 (taskmastertop_long.j1 kq l0 x3_1 x12_1 = some r) ∧ Aside0 (kq ≤ k1) ∧ Drawn0 w wc)
   case first =>
    have H := HC2.out
    clear HC2
    by_cases c3 : x3_1 < (l0.length : Int)
    ·rw [if_pos c3] at H
     have c3b0 : decide (x3_1 < (l0.length : Int)) = true := decide_eq_true c3
     clear c3
     (first | rw [c3b0] | (simp only [i64_w, i32_w]; rw [c3b0]) | skip)
     have H' := Aside0.mk H
     clear H
     go_wp2
     go_meet
     case rel => exact ⟨_, (decide (x3_1 < 300)), (by first | rfl | (simp; done) | (simp [*]; done)), H', ⟨by have := HK1.out; first | omega | exact Nat.le_refl _⟩, by repeat (first | exact Drawn0.refl _ | apply Drawn0.step)⟩
    ·rw [if_neg c3] at H
     have c3b0 : decide (x3_1 < (l0.length : Int)) = false := decide_eq_false c3
     clear c3
     (first | rw [c3b0] | (simp only [i64_w, i32_w]; rw [c3b0]) | skip)
     have H' := Aside0.mk H
     clear H
     go_wp2
     go_meet
     case rel => exact ⟨_, (false), (by first | rfl | (simp; done) | (simp [*]; done)), H', ⟨by have := HK1.out; first | omega | exact Nat.le_refl _⟩, by repeat (first | exact Drawn0.refl _ | apply Drawn0.step)⟩
   case rest =>
    clear HC2
    try clear p2
    try clear c3
    try clear c3b0
    obtain ⟨kq, x12_1, rfl, HA, HJ1, ⟨mc1, rfl⟩⟩ := hcut
    cases kq with
    | zero => exact absurd HA.out (by simp [taskmastertop_long.j1])
    | succ kj1 =>
     have H := HA.out
     clear HA
     simp only [taskmastertop_long.j1] at H
     by_cases c4 : x12_1 = true
     ·subst c4
      have H1 : (if 0 ≤ x3_1 then (if x3_1 < (l0.length : Int) then (if (((rd_T52 l0 x3_1).f1).length : Int) > 20 then (some true) else (taskmastertop_long.l1 kj1 l0 x3_1 0)) else (none)) else (none)) = some r := by rw [if_pos rfl] at H; exact H
      clear H
      have H := H1
      clear H1
      by_cases c5 : 0 ≤ x3_1
      ·rw [if_pos c5] at H
       have c5b0 : decide (0 ≤ x3_1) = true := decide_eq_true c5
       clear c5
       by_cases c6 : x3_1 < (l0.length : Int)
       ·rw [if_pos c6] at H
        have c6b0 : decide (x3_1 < (l0.length : Int)) = true := decide_eq_true c6
        clear c6
        by_cases c7 : (((rd_T52 l0 x3_1).f1).length : Int) > 20
        ·rw [if_pos c7] at H
         have c7b0 : decide (20 < (((rd_T52 l0 x3_1).f1).length : Int)) = true := decide_eq_true c7
         have c7b1 : decide (20 < ((rd_T52 l0 x3_1).f1).length) = true := decide_eq_true (by omega)
         clear c7
         obtain rfl := Option.some.inj H
         have p101 : 0 ≤ (x3_1 : Int) := of_decide_eq_true (by first | (with_reducible assumption) | assumption)
         have q101 : x3_1 < (l0.length : Int) := of_decide_eq_true (by first | (with_reducible assumption) | assumption)
         obtain ⟨ad101, A101_1, c101_1, e101, hx101_0, hx101_1, hx101_2, hl101_1, hi101_1⟩ := at_T52 HR0.out x3_1 p101 q101
         cases e101
         have HR101_1 := Aside0.mk hi101_1
         have HC101_1 := Aside0.mk hl101_1
         clear hi101_1 hl101_1
         replace p101 := eq_true p101
         replace q101 := eq_true q101
         go_wp2
         go_ret
         exact ⟨by first | rfl | (simp; done) | (simp [*]; done), by repeat (first | exact Drawn0.refl _ | apply Drawn0.step)⟩
        ·rw [if_neg c7] at H
         have c7b0 : decide (20 < (((rd_T52 l0 x3_1).f1).length : Int)) = false := decide_eq_false c7
         have c7b1 : decide (20 < ((rd_T52 l0 x3_1).f1).length) = false := decide_eq_false (by omega)
         clear c7
         have H' := Aside0.mk H
         clear H
         have p101 : 0 ≤ (x3_1 : Int) := of_decide_eq_true (by first | (with_reducible assumption) | assumption)
         have q101 : x3_1 < (l0.length : Int) := of_decide_eq_true (by first | (with_reducible assumption) | assumption)
         obtain ⟨ad101, A101_1, c101_1, e101, hx101_0, hx101_1, hx101_2, hl101_1, hi101_1⟩ := at_T52 HR0.out x3_1 p101 q101
         cases e101
         have HR101_1 := Aside0.mk hi101_1
         have HC101_1 := Aside0.mk hl101_1
         clear hi101_1 hl101_1
         replace p101 := eq_true p101
         replace q101 := eq_true q101
         go_wp2
         go_loopg [4] kj1 (fun kq v4 w' => ∃ (x4_3 : Int), v4 = .int .i64 x4_3 ∧ Aside0 (taskmastertop_long.l1 kq l0 x3_1 x4_3 = some r) ∧ Aside0 (kq ≤ kj1) ∧ Drawn0 w w')
         case atStart => exact ⟨(0), (by first | rfl | (simp; done) | (simp [*]; done)), H', ⟨Nat.le_refl _⟩, by repeat (first | exact Drawn0.refl _ | apply Drawn0.step)⟩
         case round =>
          clear H'
          try clear c1
          try clear p1
          try clear q1
          try clear hx1
          try clear p2
          try clear c3
          try clear c3b0
          try clear c4
          try clear c5
          try clear c5b0
          try clear c6
          try clear c6b0
          try clear c7
          try clear c7b0
          try clear c7b1
          try clear hx101_0
          try clear hx101_1
          try clear hx101_2
          try clear p101
          try clear p2
          try clear q101
          obtain ⟨x4_3, rfl, HA, HK3, ⟨m3, rfl⟩⟩ := hrel
          cases gk with
          | zero => exact absurd HA.out (by simp [taskmastertop_long.l1])
          | succ k3 =>
           have H := HA.out
           clear HA
           simp only [taskmastertop_long.l1] at H
           by_cases c8 : 0 ≤ x3_1
           ·rw [if_pos c8] at H
            have c8b0 : decide (0 ≤ x3_1) = true := decide_eq_true c8
            clear c8
            by_cases c9 : x3_1 < (l0.length : Int)
            ·rw [if_pos c9] at H
             have c9b0 : decide (x3_1 < (l0.length : Int)) = true := decide_eq_true c9
             clear c9
             by_cases c10 : x4_3 < (((rd_T52 l0 x3_1).f1).length : Int)
             ·rw [if_pos c10] at H
              have c10b0 : decide (x4_3 < (((rd_T52 l0 x3_1).f1).length : Int)) = true := decide_eq_true c10
              clear c10
              by_cases c11 : 0 ≤ x4_3
              ·rw [if_pos c11] at H
               have c11b0 : decide (0 ≤ x4_3) = true := decide_eq_true c11
               clear c11
               by_cases c12 : ((rd_L3 ((rd_T52 l0 x3_1).f1) x4_3).length : Int) > 20
               ·rw [if_pos c12] at H
                have c12b0 : decide (20 < ((rd_L3 ((rd_T52 l0 x3_1).f1) x4_3).length : Int)) = true := decide_eq_true c12
                have c12b1 : decide (20 < (rd_L3 ((rd_T52 l0 x3_1).f1) x4_3).length) = true := decide_eq_true (by omega)
                clear c12
                obtain rfl := Option.some.inj H
                have p102 : 0 ≤ (x3_1 : Int) := of_decide_eq_true (by first | (with_reducible assumption) | assumption)
                have q102 : x3_1 < (l0.length : Int) := of_decide_eq_true (by first | (with_reducible assumption) | assumption)
                obtain ⟨ad102, A102_1, c102_1, e102, hx102_0, hx102_1, hx102_2, hl102_1, hi102_1⟩ := at_T52 HR0.out x3_1 p102 q102
                obtain rfl : ad101 = ad102 := (by injection e102)
                have HR102_1 := Aside0.mk hi102_1
                have HC102_1 := Aside0.mk hl102_1
                clear hi102_1 hl102_1
                replace p102 := eq_true p102
                replace q102 := eq_true q102
                have p103 : 0 ≤ (x3_1 : Int) := of_decide_eq_true (by first | (with_reducible assumption) | assumption)
                have q103 : x3_1 < (l0.length : Int) := of_decide_eq_true (by first | (with_reducible assumption) | assumption)
                obtain ⟨ad103, A103_1, c103_1, e103, hx103_0, hx103_1, hx103_2, hl103_1, hi103_1⟩ := at_T52 HR0.out x3_1 p103 q103
                obtain rfl : ad101 = ad103 := (by injection e103)
                have HR103_1 := Aside0.mk hi103_1
                have HC103_1 := Aside0.mk hl103_1
                clear hi103_1 hl103_1
                replace p103 := eq_true p103
                replace q103 := eq_true q103
                have ea_ := Option.some.inj (hx102_1.symm.trans hx103_1)
                injection ea_ with ea_ en_ ec_
                subst ea_
                subst ec_
                clear en_
                have p104 : 0 ≤ (x4_3 : Int) := of_decide_eq_true (by first | (with_reducible assumption) | assumption)
                have q104 : x4_3 < (((rd_T52 l0 x3_1).f1).length : Int) := of_decide_eq_true (by first | (with_reducible assumption) | assumption)
                obtain ⟨ad104, A104_0, c104_0, e104, hx104_0, hl104_0, hi104_0⟩ := at_L3 HR103_1.out x4_3 p104 q104
                cases e104
                have HR104_0 := Aside0.mk hi104_0
                have HC104_0 := Aside0.mk hl104_0
                clear hi104_0 hl104_0
                replace p104 := eq_true p104
                replace q104 := eq_true q104
                go_wp2
                go_ret
                exact ⟨by first | rfl | (simp; done) | (simp [*]; done), by repeat (first | exact Drawn0.refl _ | apply Drawn0.step)⟩
               ·rw [if_neg c12] at H
                have c12b0 : decide (20 < ((rd_L3 ((rd_T52 l0 x3_1).f1) x4_3).length : Int)) = false := decide_eq_false c12
                have c12b1 : decide (20 < (rd_L3 ((rd_T52 l0 x3_1).f1) x4_3).length) = false := decide_eq_false (by omega)
                clear c12
                have H' := Aside0.mk H
                clear H
                have p102 : 0 ≤ (x3_1 : Int) := of_decide_eq_true (by first | (with_reducible assumption) | assumption)
                have q102 : x3_1 < (l0.length : Int) := of_decide_eq_true (by first | (with_reducible assumption) | assumption)
                obtain ⟨ad102, A102_1, c102_1, e102, hx102_0, hx102_1, hx102_2, hl102_1, hi102_1⟩ := at_T52 HR0.out x3_1 p102 q102
                obtain rfl : ad101 = ad102 := (by injection e102)
                have HR102_1 := Aside0.mk hi102_1
                have HC102_1 := Aside0.mk hl102_1
                clear hi102_1 hl102_1
                replace p102 := eq_true p102
                replace q102 := eq_true q102
                have p103 : 0 ≤ (x3_1 : Int) := of_decide_eq_true (by first | (with_reducible assumption) | assumption)
                have q103 : x3_1 < (l0.length : Int) := of_decide_eq_true (by first | (with_reducible assumption) | assumption)
                obtain ⟨ad103, A103_1, c103_1, e103, hx103_0, hx103_1, hx103_2, hl103_1, hi103_1⟩ := at_T52 HR0.out x3_1 p103 q103
                obtain rfl : ad101 = ad103 := (by injection e103)
                have HR103_1 := Aside0.mk hi103_1
                have HC103_1 := Aside0.mk hl103_1
                clear hi103_1 hl103_1
                replace p103 := eq_true p103
                replace q103 := eq_true q103
                have ea_ := Option.some.inj (hx102_1.symm.trans hx103_1)
                injection ea_ with ea_ en_ ec_
                subst ea_
                subst ec_
                clear en_
                have p104 : 0 ≤ (x4_3 : Int) := of_decide_eq_true (by first | (with_reducible assumption) | assumption)
                have q104 : x4_3 < (((rd_T52 l0 x3_1).f1).length : Int) := of_decide_eq_true (by first | (with_reducible assumption) | assumption)
                obtain ⟨ad104, A104_0, c104_0, e104, hx104_0, hl104_0, hi104_0⟩ := at_L3 HR103_1.out x4_3 p104 q104
                cases e104
                have HR104_0 := Aside0.mk hi104_0
                have HC104_0 := Aside0.mk hl104_0
                clear hi104_0 hl104_0
                replace p104 := eq_true p104
                replace q104 := eq_true q104
                go_wp2
                go_roundg k3
                case measure => have := HK1.out; have := HJ1.out; have := HK3.out; omega
                case rel => exact ⟨(wrap64 (x4_3 + 1)), (by first | rfl | (simp; done) | (simp [*]; done)), H', ⟨by have := HK1.out; have := HJ1.out; have := HK3.out; omega⟩, by repeat (first | exact Drawn0.refl _ | apply Drawn0.step)⟩
              ·rw [if_neg c11] at H
               exact absurd H (by simp)
             ·rw [if_neg c10] at H
              have c10b0 : decide (x4_3 < (((rd_T52 l0 x3_1).f1).length : Int)) = false := decide_eq_false c10
              clear c10
              have H' := Aside0.mk H
              clear H
              have p102 : 0 ≤ (x3_1 : Int) := of_decide_eq_true (by first | (with_reducible assumption) | assumption)
              have q102 : x3_1 < (l0.length : Int) := of_decide_eq_true (by first | (with_reducible assumption) | assumption)
              obtain ⟨ad102, A102_1, c102_1, e102, hx102_0, hx102_1, hx102_2, hl102_1, hi102_1⟩ := at_T52 HR0.out x3_1 p102 q102
              obtain rfl : ad101 = ad102 := (by injection e102)
              have HR102_1 := Aside0.mk hi102_1
              have HC102_1 := Aside0.mk hl102_1
              clear hi102_1 hl102_1
              replace p102 := eq_true p102
              replace q102 := eq_true q102
              go_wp2
              go_roundg k3
              case measure => have := HK1.out; have := HJ1.out; have := HK3.out; omega
              case rel => exact ⟨(wrap64 (x3_1 + 1)), (by first | rfl | (simp; done) | (simp [*]; done)), H', ⟨by have := HK1.out; have := HJ1.out; have := HK3.out; omega⟩, by repeat (first | exact Drawn0.refl _ | apply Drawn0.step)⟩
            ·rw [if_neg c9] at H
             exact absurd H (by simp)
           ·rw [if_neg c8] at H
            exact absurd H (by simp)
       ·rw [if_neg c6] at H
        exact absurd H (by simp)
      ·rw [if_neg c5] at H
       exact absurd H (by simp)
     ·replace c4 := Bool.eq_false_iff.mpr c4
      subst c4
      have H1 : (some (decide ((l0.length : Int) > 250))) = some r := by rw [if_neg (show ¬ (false = true) by decide)] at H; exact H
      clear H
      have H := H1
      clear H1
      obtain rfl := Option.some.inj H
      go_wp2
      go_ret
      exact ⟨by first | rfl | (simp; done) | (simp [*]; done), by repeat (first | exact Drawn0.refl _ | apply Drawn0.step)⟩
end Go.Proofs.YtaofmmnfenlofaaGreatDoor.QTc
namespace Go.Proofs.YtaofmmnfenlofaaGreatDoor.QTc
open Go.RowKit Go.Proofs.YtaofmmnfenlofaaGreatDoor.TopSet Go.Proofs.YtaofmmnfenlofaaGreatDoorW.PrintWords Go.Proofs.YtaofmmnfenlofaaGreatDoorW.PrintLast Go.Proofs.YtaofmmnfenlofaaGreatDoorW.PrintMore
set_option linter.unusedVariables false
theorem greedy_loop (t : S46) (d : List (List Int)) (i : Int) (h0 : 0 ≤ i) (h1 : i < d.length) (h8 : t.f6.length ≤ 8) (n : Nat) : ∀ (j k : Nat), j + n = t.f6.length → 2 * n + 2 ≤ k → (∀ q : Nat, q < j → q < (rd_L3 d i).length ∧ ¬ rd (rd_L3 d i) (q : Int) > rd t.f6 (q : Int)) →
    taskmastertop_greedy.l0 k d i (j : Int) t.f0 t.f1 t.f2 t.f3 t.f4 t.f5 t.f6 t.f7 t.f8 = some ((List.range t.f6.length).any fun q => decide (q < (rd_L3 d i).length) && decide (rd (rd_L3 d i) (q : Int) > rd t.f6 (q : Int))) := by
  induction n with
  | zero =>
    intro j k hj hk hq
    obtain ⟨k, rfl⟩ : ∃ m, k = m + 2 := ⟨k - 2, by omega⟩
    rw [taskmastertop_greedy.l0, if_neg (by omega), taskmastertop_greedy.j1, if_neg (by simp)]
    congr 1
    symm
    rw [List.any_eq_false]
    intro q hqm
    rw [List.mem_range] at hqm
    have := hq q (by omega)
    simp [this.2]
  | succ n ih =>
    intro j k hj hk hq
    obtain ⟨k, rfl⟩ : ∃ m, k = m + 2 := ⟨k - 2, by omega⟩
    rw [taskmastertop_greedy.l0, if_pos (by omega), if_pos h0, if_pos h1, taskmastertop_greedy.j1]
    by_cases hlt : j < (rd_L3 d i).length
    · rw [if_pos (by simpa using hlt), if_pos h0, if_pos h1, if_pos (by omega), if_pos (by omega), if_pos (by omega)]
      by_cases hgt : rd (rd_L3 d i) (j : Int) > rd t.f6 (j : Int)
      · rw [if_pos hgt]
        congr 1
        symm
        rw [List.any_eq_true]
        exact ⟨j, List.mem_range.2 (by omega), by simp [hlt, hgt]⟩
      · rw [if_neg hgt, w64 (by omega) (by omega)]
        exact ih (j + 1) k (by omega) (by omega) (fun q hql => by
          by_cases e : q = j
          · subst e; exact ⟨hlt, hgt⟩
          · exact hq q (by omega))
    · rw [if_neg (by simpa using hlt)]
      congr 1
      symm
      rw [List.any_eq_false]
      intro q hqm
      by_cases e : q < j
      · have := hq q e
        simp [this.2]
      · have : ¬ q < (rd_L3 d i).length := by omega
        simp [this]
theorem greedy_f (t : S46) (d : List (List Int)) (i : Int) (h0 : 0 ≤ i) (h8 : t.f6.length ≤ 8) : taskmastertop_greedy.f 30 t.f0 t.f1 t.f2 t.f3 t.f4 t.f5 t.f6 t.f7 t.f8 d i = some (greedyB t d i) := by
  unfold taskmastertop_greedy.f greedyB
  by_cases h : i ≥ (d.length : Int)
  · rw [if_pos h, if_pos h]
  · rw [if_neg h, if_neg h]
    exact greedy_loop t d i h0 (by omega) h8 t.f6.length 0 30 (by omega) (by omega) (fun q hq => absurd hq (Nat.not_lt_zero _))
theorem long_in (l : List S52) (x : Int) (hx : x ≤ 300) (h0 : 0 ≤ x) (h1 : x < l.length) (h8 : (rd_T52 l x).f1.length ≤ 20) {P : Bool → Prop} (hP : P true) (hn : EndsP P (fun k => taskmastertop_long.l0 k l (x + 1))) (n : Nat) : ∀ j : Nat, j + n = (rd_T52 l x).f1.length →
    EndsP P (fun k => taskmastertop_long.l1 k l x (j : Int)) := by
  induction n with
  | zero =>
    intro j hj
    refine endsPStep (fun k => by rw [taskmastertop_long.l1]) ?_
    refine endsPIf (fun _ => endsPIf (fun _ => endsPIf (fun h => absurd h (by omega)) (fun _ => ?_)) (fun h => absurd h1 h)) (fun h => absurd h0 h)
    rw [w64 (by omega) (by omega)]; exact hn
  | succ n ih =>
    intro j hj
    refine endsPStep (fun k => by rw [taskmastertop_long.l1]) ?_
    refine endsPIf (fun _ => endsPIf (fun _ => endsPIf (fun _ => endsPIf (fun _ => endsPIf (fun _ => endsPNow _ hP) (fun _ => ?_)) (fun h => absurd (Int.natCast_nonneg j) h)) (fun h => absurd (show (j : Int) < ((rd_T52 l x).f1.length : Int) by omega) h)) (fun h => absurd h1 h)) (fun h => absurd h0 h)
    rw [w64 (by omega) (by omega)]
    exact ih (j + 1) (by omega)
theorem long_loop (l : List S52) (n : Nat) : ∀ x : Nat, x + n = 300 → EndsP (fun b => b = false → l.length ≤ 250) (fun k => taskmastertop_long.l0 k l (x : Int)) := by
  induction n with
  | zero =>
    intro x hx
    refine endsPStep (fun k => by rw [taskmastertop_long.l0]) ?_
    have e : decide ((x : Int) < 300) = false := decide_eq_false (by omega)
    refine endsPIf (fun _ => ?_) (fun _ => ?_)
    · rw [e]
      refine endsPStep (fun k => by rw [taskmastertop_long.j1]) ?_
      exact endsPIf (fun h => by cases h) (fun _ => endsPNow _ (fun h => by have := of_decide_eq_false h; omega))
    · refine endsPStep (fun k => by rw [taskmastertop_long.j1]) ?_
      exact endsPIf (fun h => by cases h) (fun _ => endsPNow _ (fun h => by have := of_decide_eq_false h; omega))
  | succ n ih =>
    intro x hx
    refine endsPStep (fun k => by rw [taskmastertop_long.l0]) ?_
    have e : decide ((x : Int) < 300) = true := decide_eq_true (by omega)
    refine endsPIf (fun hlt => ?_) (fun _ => ?_)
    · rw [e]
      refine endsPStep (fun k => by rw [taskmastertop_long.j1]) ?_
      refine endsPIf (fun _ => endsPIf (fun _ => endsPIf (fun _ => endsPIf (fun _ => endsPNow _ (fun h => by cases h)) (fun h20 => ?_)) (fun h => absurd hlt h)) (fun h => absurd (Int.natCast_nonneg x) h)) (fun h => absurd rfl h)
      exact long_in l (x : Int) (by omega) (by omega) hlt (by omega) (P := fun b => b = false → l.length ≤ 250) (fun h => by cases h) (ih (x + 1) (by omega)) (rd_T52 l (x : Int)).f1.length 0 (by omega)
    · refine endsPStep (fun k => by rw [taskmastertop_long.j1]) ?_
      exact endsPIf (fun h => by cases h) (fun _ => endsPNow _ (fun h => by have := of_decide_eq_false h; omega))
theorem long_f (l : List S52) : EndsP (fun b => b = false → l.length ≤ 250) (fun k => taskmastertop_long.f k l) := by
  unfold taskmastertop_long.f
  exact long_loop l 300 0 (by omega)
end Go.Proofs.YtaofmmnfenlofaaGreatDoor.QTc
namespace Go.Proofs.YtaofmmnfenlofaaGreatDoor.QTc
open Go.RowKit Go.Proofs.YtaofmmnfenlofaaGreatDoorW.PrintWords Go.Proofs.YtaofmmnfenlofaaGreatDoorW.PrintLast Go.Proofs.YtaofmmnfenlofaaGreatDoorW.PrintMore
set_option linter.unusedVariables false
set_option linter.unusedSimpArgs false
def arrB (o : Int → Bool) : Array Value := #[.bool (o 0), .bool (o 1), .bool (o 2), .bool (o 3), .bool (o 4), .bool (o 5), .bool (o 6), .bool (o 7)]
theorem arrB_at (o : Int → Bool) (q : Nat) (h : q < 8) : (arrB o)[q]? = some (.bool (o (q : Int))) := by
  rcases q with _ | _ | _ | _ | _ | _ | _ | _ | q <;> first | rfl | omega
theorem arrB_set (o : Int → Bool) (q : Nat) (h : q < 8) (b : Bool) : (arrB o).setIfInBounds q (.bool b) = arrB (fun x => if x = (q : Int) then b else o x) := by
  rcases q with _ | _ | _ | _ | _ | _ | _ | _ | q <;> first | rfl | omega
structure CI (w3 : World) (o : Int → Bool) (W : World) : Prop where
  hB : Below w3.heap.size w3 W
  arr : W.heap[w3.heap.size]? = some (.cells (arrB o) 48 (0, 0))
theorem CI.below {w3 W W' : World} {o : Int → Bool} (h : CI w3 o W) (hb : Below W.heap.size W W') : CI w3 o W' := ⟨h.hB.trans (hb.mono h.hB.size), blk_below h.arr hb⟩
theorem CI.set {w3 W : World} {o : Int → Bool} (h : CI w3 o W) (q : Nat) (hq : q < 8) (b : Bool) : CI w3 (fun x => if x = (q : Int) then b else o x) (W.setCell ⟨w3.heap.size, q, none⟩ (.bool b)) :=
  ⟨below_set h.hB (Nat.le_refl _), by rw [← arrB_set o q hq b]; exact blk_set h.arr q _⟩
theorem Kp.cell {w w' : World} {S : Nat → Prop} (h : Kp w w' S) {p : Addr} {v : Value} (hb : ¬ S p.block) (hc : w.cell? p = some v) : w'.cell? p = some v := by
  have lt := World.block_lt_of_cell? w p hc
  unfold World.cell? at *
  rw [h.block _ lt hb]; exact hc
theorem drop_T43 {l : List S43} {i : Nat} (h : i < l.length) : l.drop i = rd_T43 l (i : Int) :: l.drop (i + 1) := by
  rw [List.drop_eq_getElem_cons h]; unfold rd_T43
  rw [Int.toNat_natCast, List.getD_eq_getElem?_getD, List.getElem?_eq_getElem h]; rfl
structure CW (w : World) (rl : Int) (A0 : Option Addr) (c0 : Nat) (T : List S46) (AI : Option Addr) (cI : Nat) (I : List S52) (A5 : Option Addr) (evs : List S43) (w3 : World) : Prop where
  hB : Below w.heap.size w w3
  box : w3.heap[w.heap.size]? = some (.cells #[.int .i64 rl, .slice A0 T.length c0] 24 (0, 0))
  hr : Kd.C k46 w3 A0 T.length T
  hI : Kd.C k52 w3 AI I.length I
  hE : Kd.C k43 w3 A5 evs.length evs
set_option maxHeartbeats 16000000 in
set_option maxRecDepth 100000 in
theorem cut_calls (w : World) (rl : Int) (A0 : Option Addr) (c0 : Nat) (T : List S46) (AI : Option Addr) (cI : Nat) (I : List S52) (hT : TabW w) (hr : Kd.C k46 w A0 T.length T) (hc : T.length ≤ c0)
    (hI : Kd.C k52 w AI I.length I) (hcI : I.length ≤ cI) (hN : ∀ y ∈ T, y.f0.size ≤ 9223372036854775807)
    (hU : ∀ t ∈ T, (0 ≤ t.f7 ∧ t.f7 < 18446744073709551616) ∧ (0 ≤ t.f8 ∧ t.f8 < 18446744073709551616))
    (hIU : ∀ x ∈ I, (0 ≤ x.f0 ∧ x.f0 < 18446744073709551616) ∧ (0 ≤ x.f2 ∧ x.f2 < 18446744073709551616)) :
    Calls Tryz.prog 4 #[.agg #[.int .i64 rl, .slice A0 T.length c0], .slice AI I.length cI] w fun e w' => e = .returned (.bool true) ∧ Below w.heap.size w w' := by
  have hbo : Below w.heap.size w (w.alloc (.cells #[.int .i64 rl, .slice A0 T.length c0] 24)) := Below.alloc (Below.refl _ _) (Nat.le_refl _) _
  obtain ⟨bA, ⟨kA, hkA⟩, hset⟩ := TopSet.all_ends rl T hN
  obtain ⟨bL, ⟨kL, hkL⟩, hlong⟩ := long_f I
  have HA := Aside0.mk (fun W (hW : Below w.heap.size w W) => taskmasterref5_All.calls kA rl A0 c0 T bA W (Kd.C_below hr hW) hc (hkA kA (Nat.le_refl _)))
  have HL := Aside0.mk (fun W (hW : Below w.heap.size w W) => taskmastertop_long.calls kL AI cI I bL W (Kd.C_below hI hW) hcI (hkL kL (Nat.le_refl _)))
  have HTw := Aside0.mk (fun W (hW : Below w.heap.size w W) => hT.below hW)
  have HR := Aside0.mk hr
  have HI := Aside0.mk hI
  have HBO := Aside0.mk hbo
  replace hU := Aside0.mk hU
  replace hIU := Aside0.mk hIU
  clear hT hr hI hbo hN hkA hkL
  go_enter Tryz.func4, Tryz.ntmps4
  by_cases h10 : T.length > 10
  · have q2 : decide ((T.length : Int) > 10) = true := decide_eq_true (by omega)
    have q3 : decide (10 < T.length) = true := decide_eq_true h10
    go_wp2
    go_ret
    exact ⟨rfl, HBO.out⟩
  have q2 : decide ((T.length : Int) > 10) = false := decide_eq_false (by omega)
  have q3 : decide (10 < T.length) = false := decide_eq_false h10
  cases bA with
  | false =>
    go_wp2_with (go_at_call 15; (with_reducible refine (HA.out _ HBO.out).mono ?_); rintro e w1 ⟨rfl, hb1⟩; have HB1 := Aside0.mk (HBO.out.trans (hb1.mono HBO.out.size)); clear hb1)
    go_ret
    exact ⟨rfl, HB1.out⟩
  | true =>
  cases bL with
  | true =>
    go_wp2_with (first | (go_at_call 15; (with_reducible refine (HA.out _ HBO.out).mono ?_); rintro e w1 ⟨rfl, hb1⟩; have HB1 := Aside0.mk (HBO.out.trans (hb1.mono HBO.out.size)); clear hb1) | (go_at_call 8; (with_reducible refine (HL.out _ HB1.out).mono ?_); rintro e w2 ⟨rfl, hb2⟩; have HB2 := Aside0.mk (HB1.out.trans (hb2.below.mono HB1.out.size)); clear hb2))
    go_ret
    exact ⟨rfl, HB2.out⟩
  | false =>
  have hS := hset rfl
  have h250 := hlong rfl
  have h8 : T.length ≤ 8 := hS.2.2.2.1
  have h1 : 1 ≤ T.length := hS.2.2.1
  have HS := Aside0.mk hS
  clear hS hset hlong
  have HRUN := Aside0.mk (fun W (hW : Below w.heap.size w W) => lawRun_calls W rl A0 c0 T AI cI I (Kd.C_below HR.out hW) hc h1 h8 (fun W2 h2 => setOK_yes rl A0 c0 T HS.out W2 (HTw.out W2 (hW.trans (h2.mono hW.size))) (Kd.C_below (Kd.C_below HR.out hW) h2) hc) (setOK_odd rl T HS.out) (setOK_per rl T HS.out) hU.out (Kd.C_below HI.out hW) hcI h250 hIU.out (fun W2 h2 => HTw.out W2 (hW.trans (h2.mono hW.size))))
  go_wp2_with (first | (go_at_call 15; (with_reducible refine (HA.out _ HBO.out).mono ?_); rintro e w1 ⟨rfl, hb1⟩; have HB1 := Aside0.mk (HBO.out.trans (hb1.mono HBO.out.size)); have z1 := blk_below (blk_new w (.cells #[.int .i64 rl, .slice A0 T.length c0] 24)) hb1; have z10 := (blk_cell z1 0).trans rfl; have z11 := (blk_cell z1 1).trans rfl; clear hb1) | (go_at_call 8; (with_reducible refine (HL.out _ HB1.out).mono ?_); rintro e w2 ⟨rfl, hb2⟩; have HB2 := Aside0.mk (HB1.out.trans (hb2.below.mono HB1.out.size)); have z2 := blk_below z1 hb2.below; have z20 := (blk_cell z2 0).trans rfl; have z21 := (blk_cell z2 1).trans rfl; clear hb2 z1 z10 z11) | (go_at_call 13; (with_reducible refine (HRUN.out _ HB2.out).mono ?_); rintro e w3 ⟨v, evs, odd, rfl, hr3, hl3, hlaw, hb3⟩; have HB3 := Aside0.mk (HB2.out.trans (hb3.mono HB2.out.size)); have z3 := blk_below z2 hb3; clear z20 z21))
  obtain ⟨A5, c5, rfl⟩ := Kd.R_slice hr3
  have hE := (Kd.R_reads' hr3).2.2
  have HCW := Aside0.mk (show CW w rl A0 c0 T AI cI I A5 evs w3 from ⟨HB3.out, z3, Kd.C_below HR.out HB3.out, Kd.C_below HI.out HB3.out, hE⟩)
  replace hlaw := Aside0.mk hlaw
  clear hr3 hE z3 z2 HB1 HB2 HB3 HA HL HRUN HR HI HBO
  go_loopg [8] (evs.length + 1) (fun kq v8 w' => ∃ (i : Nat) (o : Int → Bool), kq + i = evs.length + 1 ∧ v8 = .int .i64 (i : Int) ∧ i ≤ evs.length ∧ Aside0 (lawL T I o (evs.drop i) = some odd) ∧ Aside0 (CI w3 o w'))
  case atStart => exact ⟨0, fun _ => false, by omega, rfl, by omega, ⟨by rw [List.drop_zero]; exact hlaw.out⟩, ⟨⟨Below.alloc (Below.refl _ _) (Nat.le_refl _) _, heap_alloc_new w3 _⟩⟩⟩
  case round =>
    clear hlaw
    obtain ⟨i, o, hq, rfl, hi, HLW, INV⟩ := hrel
    cases gk with
    | zero => exfalso; omega
    | succ k1 =>
    by_cases hlt : i < evs.length
    · have hlt1 : decide ((i : Int) < (evs.length : Int)) = true := decide_eq_true (by omega)
      obtain ⟨ad, rfl, y0, y1, y2, y3⟩ := at_T43 (Kd.C_below HCW.out.hE INV.out.hB) (i : Int) (by omega) (by omega)
      rw [Int.toNat_natCast] at y0 y1 y2 y3
      obtain ⟨o', hev, hrest⟩ : ∃ o', lawEv T I o (rd_T43 evs (i : Int)) = some o' ∧ lawL T I o' (evs.drop (i + 1)) = some odd := by
        have h := HLW.out
        rw [drop_T43 hlt] at h
        exact Option.bind_eq_some_iff.1 h
      replace hrest := Aside0.mk hrest
      generalize rd_T43 evs (i : Int) = e at y0 y1 y2 y3 hev
      obtain ⟨e0, e1, e2, e3⟩ := e
      dsimp only at y0 y1 y2 y3
      clear HLW
      go_upto_region 9 with (fail)
      have H0 := Aside0.mk (INV.out.below (Below.alloc (Below.refl _ _) (Nat.le_refl _) (.cells #[.int .i64 e0, .int .i64 e1, .int .i64 e2, .int .i64 e3] 43)))
      have l1 := heap_alloc_new wr (.cells #[.int .i64 e0, .int .i64 e1, .int .i64 e2, .int .i64 e3] 43)
      clear INV y0 y1 y2 y3
      generalize (wr.alloc (.cells #[.int .i64 e0, .int .i64 e1, .int .i64 e2, .int .i64 e3] 43)) = W1 at H0 l1 ⊢
      generalize wr.heap.size = ib at l1 ⊢
      have y0 := (blk_cell l1 0).trans rfl
      have y1 := (blk_cell l1 1).trans rfl
      have y2 := (blk_cell l1 2).trans rfl
      have y3 := (blk_cell l1 3).trans rfl
      have lb := blk_below HCW.out.box H0.out.hB
      have x1 := (blk_cell lb 1).trans rfl
      dsimp only [lawEv] at hev
      by_cases b1 : e2 < 0
      · rw [if_pos (Or.inl b1)] at hev
        obtain rfl := Option.some.inj hev
        have c1 : decide (e2 < 0) = true := decide_eq_true b1
        go_wp2
        go_roundg k1
        case measure => exact Nat.lt_succ_self _
        case rel => exact ⟨i + 1, o, by omega, by rw [show ((i : Int) + 1) = ((i + 1 : Nat) : Int) by omega], by omega, hrest, H0⟩
      have c1 : decide (e2 < 0) = false := decide_eq_false b1
      by_cases b2 : e2 ≥ (T.length : Int)
      · rw [if_pos (Or.inr (Or.inl b2))] at hev
        obtain rfl := Option.some.inj hev
        have c2 : decide (e2 ≥ (T.length : Int)) = true := decide_eq_true b2
        have c2' : decide ((T.length : Int) ≤ e2) = true := decide_eq_true b2
        go_wp2
        go_roundg k1
        case measure => exact Nat.lt_succ_self _
        case rel => exact ⟨i + 1, o, by omega, by rw [show ((i : Int) + 1) = ((i + 1 : Nat) : Int) by omega], by omega, hrest, H0⟩
      have c2 : decide (e2 ≥ (T.length : Int)) = false := decide_eq_false b2
      have c2' : decide ((T.length : Int) ≤ e2) = false := decide_eq_false b2
      by_cases b3 : e0 < 0
      · rw [if_pos (Or.inr (Or.inr (Or.inl b3)))] at hev
        obtain rfl := Option.some.inj hev
        have c3 : decide (e0 < 0) = true := decide_eq_true b3
        go_wp2
        go_roundg k1
        case measure => exact Nat.lt_succ_self _
        case rel => exact ⟨i + 1, o, by omega, by rw [show ((i : Int) + 1) = ((i + 1 : Nat) : Int) by omega], by omega, hrest, H0⟩
      have c3 : decide (e0 < 0) = false := decide_eq_false b3
      by_cases b4 : e0 ≥ (I.length : Int)
      · rw [if_pos (Or.inr (Or.inr (Or.inr b4)))] at hev
        obtain rfl := Option.some.inj hev
        have c4 : decide (e0 ≥ (I.length : Int)) = true := decide_eq_true b4
        have c4' : decide ((I.length : Int) ≤ e0) = true := decide_eq_true b4
        go_wp2
        go_roundg k1
        case measure => exact Nat.lt_succ_self _
        case rel => exact ⟨i + 1, o, by omega, by rw [show ((i : Int) + 1) = ((i + 1 : Nat) : Int) by omega], by omega, hrest, H0⟩
      have c4 : decide (e0 ≥ (I.length : Int)) = false := decide_eq_false b4
      have c4' : decide ((I.length : Int) ≤ e0) = false := decide_eq_false b4
      rw [if_neg (by omega)] at hev
      go_upto_region 11 with (fail)
      obtain ⟨q, rfl⟩ := Int.eq_ofNat_of_zero_le (show 0 ≤ e2 by omega)
      obtain ⟨p, rfl⟩ := Int.eq_ofNat_of_zero_le (show 0 ≤ e0 by omega)
      have hq8 : q < 8 := by omega
      have hqT : q < T.length := by omega
      have hpI : p < I.length := by omega
      have HC := H0.out
      have ya := (blk_cell HC.arr q).trans (arrB_at o q hq8)
      have yf := blk_frozen HC.arr q
      have hne1 : ¬ ib = w3.heap.size := blk_ne l1 HC.arr (by decide)
      have hne2 : ¬ w.heap.size = w3.heap.size := blk_ne lb HC.arr (by decide)
      clear HC l1 lb c1 c2 c2' c3 c4 c4' b1 b2 b3 b4
      by_cases k1e : e1 = 1
      · subst k1e
        rw [if_pos rfl] at hev
        obtain rfl := Option.some.inj hev
        obtain ⟨adt, A6, c6, rfl, t0, t1, t2, t3, t4, t5, t6, t7, t8, hl6, hC6⟩ := at_T46 HCW.out.hr (q : Int) (by omega) (by omega)
        obtain ⟨adi, A1, cD, rfl, i0, i1, i2, hl1, hC1⟩ := at_T52 HCW.out.hI (p : Int) (by omega) (by omega)
        rw [Int.toNat_natCast] at t0 t1 t2 t3 t4 t5 t6 t7 t8 i0 i1 i2
        have hne3 : ¬ (adt.add (q * 9)).block = w3.heap.size := Nat.ne_of_lt (World.block_lt_of_cell? w3 _ t0)
        have hne4 : ¬ (adi.add (p * 3)).block = w3.heap.size := Nat.ne_of_lt (World.block_lt_of_cell? w3 _ i0)
        replace hC6 := Kd.C_below hC6 H0.out.hB
        replace hC1 := Kd.C_below hC1 H0.out.hB
        replace t0 := pw_cell_below H0.out.hB t0
        replace t1 := pw_cell_below H0.out.hB t1
        replace t2 := pw_cell_below H0.out.hB t2
        replace t3 := pw_cell_below H0.out.hB t3
        replace t4 := pw_cell_below H0.out.hB t4
        replace t5 := pw_cell_below H0.out.hB t5
        replace t6 := pw_cell_below H0.out.hB t6
        replace t7 := pw_cell_below H0.out.hB t7
        replace t8 := pw_cell_below H0.out.hB t8
        replace i1 := pw_cell_below H0.out.hB i1
        have hg8 : (rd_T46 T (q : Int)).f6.length ≤ 8 := by
          refine (setOK_odd rl T HS.out _ ?_).2.1
          unfold rd_T46
          rw [Int.toNat_natCast, List.getD_eq_getElem?_getD, List.getElem?_eq_getElem hqT]; exact List.getElem_mem hqT
        have HG := Aside0.mk (fun W (hW : Below W1.heap.size W1 W) => taskmastertop_greedy.calls 30 (rd_T46 T (q : Int)).f0 (rd_T46 T (q : Int)).f1 (rd_T46 T (q : Int)).f2 (rd_T46 T (q : Int)).f3 (rd_T46 T (q : Int)).f4 (rd_T46 T (q : Int)).f5 A6 c6 (rd_T46 T (q : Int)).f6 (rd_T46 T (q : Int)).f7 (rd_T46 T (q : Int)).f8 A1 cD (rd_T52 I (p : Int)).f1 (q : Int) _ W (Kd.C_below hC6 hW) hl6 (Kd.C_below hC1 hW) hl1 (greedy_f (rd_T46 T (q : Int)) (rd_T52 I (p : Int)).f1 (q : Int) (by omega) hg8))
        clear i0 i2 hC6 hC1 hl6 hl1 hg8
        generalize rd_T46 T (q : Int) = t at *
        generalize (rd_T52 I (p : Int)).f1 = D at *
        obtain ⟨f0, f1, f2, f3, f4, f5, f6, f7, f8⟩ := t
        dsimp only at t0 t1 t2 t3 t4 t5 t6 t7 t8 HG
        have HSF := Aside0.mk (fun W (h : Kp W1 W (· = w3.heap.size)) => (show W.cell? ⟨ib, 0, none⟩ = some (.int .i64 (p : Int)) ∧ W.cell? ⟨ib, 2, none⟩ = some (.int .i64 (q : Int)) ∧ W.cell? ⟨w.heap.size, 1, none⟩ = some (.slice (some adt) T.length c0) ∧ W.cell? (adt.add (q * 9)) = some (.string f0) ∧ W.cell? ⟨(adt.add (q * 9)).block, (adt.add (q * 9)).off + 1, none⟩ = some (.int .i64 f1) ∧ W.cell? ⟨(adt.add (q * 9)).block, (adt.add (q * 9)).off + 2, none⟩ = some (.int .i64 f2) ∧ W.cell? ⟨(adt.add (q * 9)).block, (adt.add (q * 9)).off + 3, none⟩ = some (.int .i64 f3) ∧ W.cell? ⟨(adt.add (q * 9)).block, (adt.add (q * 9)).off + 4, none⟩ = some (.int .i64 f4) ∧ W.cell? ⟨(adt.add (q * 9)).block, (adt.add (q * 9)).off + 5, none⟩ = some (.int .i64 f5) ∧ W.cell? ⟨(adt.add (q * 9)).block, (adt.add (q * 9)).off + 6, none⟩ = some (.slice A6 f6.length c6) ∧ W.cell? ⟨(adt.add (q * 9)).block, (adt.add (q * 9)).off + 7, none⟩ = some (.int .u64 f7) ∧ W.cell? ⟨(adt.add (q * 9)).block, (adt.add (q * 9)).off + 8, none⟩ = some (.int .u64 f8) ∧ W.cell? ⟨(adi.add (p * 3)).block, (adi.add (p * 3)).off + 1, none⟩ = some (.slice A1 D.length cD) from ⟨h.cell hne1 y0, h.cell hne1 y2, h.cell hne2 x1, h.cell hne3 t0, h.cell hne3 t1, h.cell hne3 t2, h.cell hne3 t3, h.cell hne3 t4, h.cell hne3 t5, h.cell hne3 t6, h.cell hne3 t7, h.cell hne3 t8, h.cell hne4 i1⟩))
        have HK0 := Aside0.mk (Kp.refl W1 (· = w3.heap.size))
        have HK1 := Aside0.mk ((Kp.refl W1 (· = w3.heap.size)).drew)
        have hV := blk_lt H0.out.arr
        have hq8' : (q : Int) < 8 := by omega
        have hq0 : 0 ≤ (q : Int) := by omega
        have hqT' : (q : Int) < (T.length : Int) := by omega
        have hp0 : 0 ≤ (p : Int) := by omega
        have hpI' : (p : Int) < (I.length : Int) := by omega
        clear hne1 hne2 hne3 hne4
        go_upto_region 12 with (fail)
        go_region_held3 (fun W => W.cell? ⟨ib, 0, none⟩ = some (.int .i64 (p : Int)) ∧ W.cell? ⟨ib, 2, none⟩ = some (.int .i64 (q : Int)) ∧ W.cell? ⟨w.heap.size, 1, none⟩ = some (.slice (some adt) T.length c0) ∧ W.cell? (adt.add (q * 9)) = some (.string f0) ∧ W.cell? ⟨(adt.add (q * 9)).block, (adt.add (q * 9)).off + 1, none⟩ = some (.int .i64 f1) ∧ W.cell? ⟨(adt.add (q * 9)).block, (adt.add (q * 9)).off + 2, none⟩ = some (.int .i64 f2) ∧ W.cell? ⟨(adt.add (q * 9)).block, (adt.add (q * 9)).off + 3, none⟩ = some (.int .i64 f3) ∧ W.cell? ⟨(adt.add (q * 9)).block, (adt.add (q * 9)).off + 4, none⟩ = some (.int .i64 f4) ∧ W.cell? ⟨(adt.add (q * 9)).block, (adt.add (q * 9)).off + 5, none⟩ = some (.int .i64 f5) ∧ W.cell? ⟨(adt.add (q * 9)).block, (adt.add (q * 9)).off + 6, none⟩ = some (.slice A6 f6.length c6) ∧ W.cell? ⟨(adt.add (q * 9)).block, (adt.add (q * 9)).off + 7, none⟩ = some (.int .u64 f7) ∧ W.cell? ⟨(adt.add (q * 9)).block, (adt.add (q * 9)).off + 8, none⟩ = some (.int .u64 f8) ∧ W.cell? ⟨(adi.add (p * 3)).block, (adi.add (p * 3)).off + 1, none⟩ = some (.slice A1 D.length cD)) (first | (with_reducible exact HSF.out _ HK0.out) | (with_reducible exact HSF.out _ HK1.out) | (with_reducible exact HSF.out _ HK5.out) | (with_reducible exact HSF.out _ (Kp.set1 HK5.out _ _)))
          ((go_at_call 16; (with_reducible refine (HG.out _ (below_drew (Below.refl _ _))).mono ?_); rintro e w5 ⟨rfl, hb5⟩; have HK5 := Aside0.mk (HK1.out.step hb5); have H5 := Aside0.mk (H0.out.below ((below_drew (Below.refl _ _)).trans hb5)); have ya5 := (blk_cell H5.out.arr q).trans (arrB_at o q hq8); have yf5 := blk_frozen H5.out.arr q; clear hb5))
        have H9 := Aside0.mk (H5.out.set q hq8 (greedyB ⟨f0, f1, f2, f3, f4, f5, f6, f7, f8⟩ D (q : Int)))
        clear HSF HK0 HK1 HK5 H5 ya5 yf5 HG
        go_wp2
        go_roundg k1
        case measure => exact Nat.lt_succ_self _
        case rel => exact ⟨i + 1, _, by omega, by rw [show ((i : Int) + 1) = ((i + 1 : Nat) : Int) by omega], by omega, hrest, H9⟩
      have d1 : (e1 == 1) = false := by simpa using k1e
      rw [if_neg k1e] at hev
      by_cases k8 : e1 = 8
      · subst k8
        rw [if_pos rfl] at hev
        by_cases ho : o (q : Int) = true
        · rw [if_pos ho] at hev; cases hev
        · rw [if_neg ho] at hev
          obtain rfl := Option.some.inj hev
          have ho' : o (q : Int) = false := by simpa using ho
          rw [ho'] at ya
          go_wp2
          go_roundg k1
          case measure => exact Nat.lt_succ_self _
          case rel => exact ⟨i + 1, o, by omega, by rw [show ((i : Int) + 1) = ((i + 1 : Nat) : Int) by omega], by omega, hrest, H0⟩
      have d8 : (e1 == 8) = false := by simpa using k8
      rw [if_neg k8] at hev
      by_cases k9 : e1 = 9
      · subst k9
        rw [if_pos rfl] at hev
        by_cases ho : o (q : Int) = true
        · rw [if_pos ho] at hev
          obtain rfl := Option.some.inj hev
          rw [ho] at ya
          go_wp2
          go_roundg k1
          case measure => exact Nat.lt_succ_self _
          case rel => exact ⟨i + 1, o, by omega, by rw [show ((i : Int) + 1) = ((i + 1 : Nat) : Int) by omega], by omega, hrest, H0⟩
        · rw [if_neg ho] at hev; cases hev
      have d9 : (e1 == 9) = false := by simpa using k9
      rw [if_neg k9] at hev
      obtain rfl := Option.some.inj hev
      go_wp2
      go_roundg k1
      case measure => exact Nat.lt_succ_self _
      case rel => exact ⟨i + 1, o, by omega, by rw [show ((i : Int) + 1) = ((i + 1 : Nat) : Int) by omega], by omega, hrest, H0⟩
    · have hlt1 : decide ((i : Int) < (evs.length : Int)) = false := decide_eq_false (by omega)
      have HK := Aside0.mk (fun W (hW : Below w3.heap.size w3 W) => known_calls W (HTw.out W (HCW.out.hB.trans (hW.mono HCW.out.hB.size))))
      go_wp2_with (go_at_call 12; (with_reducible refine (HK.out _ INV.out.hB).mono ?_); rintro e w4 ⟨rfl, hb4⟩; have HB4 := Aside0.mk (INV.out.hB.trans (hb4.mono INV.out.hB.size)); clear hb4)
      go_ret
      exact ⟨rfl, HCW.out.hB.trans (HB4.out.mono HCW.out.hB.size)⟩
end Go.Proofs.YtaofmmnfenlofaaGreatDoor.QTc
namespace Go.Proofs.YtaofmmnfenlofaaGreatDoor.QTc
open Go.RowKit Go.Proofs.YtaofmmnfenlofaaGreatDoorW.PrintWords Go.Proofs.YtaofmmnfenlofaaGreatDoorW.PrintLast Go.Proofs.YtaofmmnfenlofaaGreatDoorW.PrintMore
set_option linter.unusedVariables false
def CutIn (l0_1 : List S46) (l1 : List S52) : Prop :=
 (∀ y ∈ l0_1, y.f0.size ≤ 9223372036854775807) ∧ (∀ t ∈ l0_1, (0 ≤ t.f7 ∧ t.f7 < 18446744073709551616) ∧ (0 ≤ t.f8 ∧ t.f8 < 18446744073709551616)) ∧
  ∀ x ∈ l1, (0 ≤ x.f0 ∧ x.f0 < 18446744073709551616) ∧ (0 ≤ x.f2 ∧ x.f2 < 18446744073709551616)
open Classical in
noncomputable def taskmastertop_TopCut.f (a0_0 : Int) (l0_1 : List S46) (l1 : List S52) : Option Bool := if CutIn l0_1 l1 then some true else none
theorem taskmastertop_TopCut.calls (a0_0 : Int) (A0_1 : Option Addr) (c0_1 : Nat) (l0_1 : List S46) (A1 : Option Addr) (c1 : Nat) (l1 : List S52) (r : Bool) (w : World) (hT : TabW w) (hr0_1 : Kd.C k46 w A0_1 l0_1.length l0_1) (hc0_1 : l0_1.length ≤ c0_1) (hr1 : Kd.C k52 w A1 l1.length l1) (hc1 : l1.length ≤ c1) (h : taskmastertop_TopCut.f a0_0 l0_1 l1 = some r) :
  Calls Tryz.prog 4 #[.agg #[.int .i64 a0_0, .slice A0_1 l0_1.length c0_1], .slice A1 l1.length c1] w fun e w' => e = .returned (.bool r) ∧ Below w.heap.size w w' := by
 unfold taskmastertop_TopCut.f at h
 split at h
 ·rename_i hc
  obtain rfl := Option.some.inj h
  exact cut_calls w a0_0 A0_1 c0_1 l0_1 A1 c1 l1 hT hr0_1 hc0_1 hr1 hc1 hc.1 hc.2.1 hc.2.2
 ·cases h
end Go.Proofs.YtaofmmnfenlofaaGreatDoor.QTc
namespace Go.Proofs.YtaofmmnfenlofaaGreatDoor.Open
open Go.RowKit Go.Proofs.YtaofmmnfenlofaaGreatDoorW.PrintWords Go.Proofs.YtaofmmnfenlofaaGreatDoorW.PrintLast Go.WideShapes
set_option linter.unusedVariables false
structure Opens (P : Program) {α : Type} (k : Kd α) (t : TypeId) (W : α → Prop) : Prop where
  out : ∀ {H : Type} {enc : TypeId × Value → H} {w : World} {base : Nat} {spare : Nat → Bool} {held : Bool} {fuel : Nat} {cs : List Value} {x : DataW H × List MemPlace},
    DataW.trod enc P w base spare held fuel t cs = some x → ∃ a : α, k.K w a cs ∧ W a
theorem opens_int {P : Program} {t : TypeId} {k : IntKind} (ht : P.underlying t = some (.int k)) : Opens P (Kd.int k) t (fun n => (Lit.int k n).wf = true) := by
  refine ⟨fun {H enc w base spare held fuel cs x} h => ?_⟩
  obtain ⟨n, rfl, _, hw⟩ := DataW.trod_int ht h
  exact ⟨n, rfl, hw⟩
theorem opens_string {P : Program} {t : TypeId} (ht : P.underlying t = some .string) : Opens P Kd.string t (fun s => s.size ≤ maxLen) := by
  refine ⟨fun {H enc w base spare held fuel cs x} h => ?_⟩
  obtain ⟨s, rfl, _, hs⟩ := DataW.trod_string ht h
  exact ⟨s, rfl, hs⟩
theorem addr_add (a : Addr) (i j : Nat) : (a.add i).add j = a.add (i + j) := Go.Deep.add_add a i j
theorem opens_slice {P : Program} {α : Type} [Inhabited α] {d : Kd α} {t e : TypeId} {W : α → Prop} (ht : P.underlying t = some (.slice e)) (hs : P.cellsOf e = d.sz) (hd : Opens P d e W) :
    Opens P (Kd.slice e d) t (fun xs => ∀ x ∈ xs, W x) := by
  refine ⟨fun {H enc w base spare held fuel cs x} h => ?_⟩
  rcases Go.Deep.open_slice ht h with ⟨rfl, _⟩ | ⟨a, len, cap, m, n, D, Pl, rfl, hb, hl, hc, hm, _, hel⟩
  · exact ⟨[], ⟨none, 0, rfl, Nat.le_refl _, rfl, Nat.zero_le _, fun h => absurd h (Nat.lt_irrefl _)⟩, fun x hx => absurd hx (List.not_mem_nil)⟩
  · have hlm : len ≤ m := by rw [hm]; split <;> omega
    have each : ∀ i, i < len → ∃ y : α, (∃ cs', w.cells? base (a.add (i * P.cellsOf e)) (P.cellsOf e) = some cs' ∧ d.K w y cs') ∧ W y := fun i hi => by
      obtain ⟨cs', h1, h2⟩ := hel i (by omega)
      obtain ⟨y, hy, hw⟩ := hd.out h2
      exact ⟨y, ⟨cs', h1, hy⟩, hw⟩
    obtain ⟨f, hf⟩ := Go.Deep.choose_lt each
    have hlen : ((List.range len).map f).length = len := by simp
    refine ⟨(List.range len).map f, ⟨some a, cap, by rw [hlen], by rw [hlen]; exact hl, rfl, ?_, ?_⟩, ?_⟩
    · rw [hlen]; unfold maxLen at hc; omega
    · intro _
      refine ⟨a, rfl, fun j p hp => ?_⟩
      obtain ⟨hj, rfl⟩ := List.getElem?_eq_some_iff.1 hp
      rw [hlen] at hj
      obtain ⟨⟨cs', h1, h2⟩, _⟩ := hf j hj
      obtain ⟨_, h4, h5⟩ := World.cells?_some h1
      refine ⟨cs', by rw [h4, hs], by simpa using h2, fun i u hu => ?_⟩
      have hi : i < cs'.length := by
        by_cases q : i < cs'.length
        · exact q
        · rw [List.getElem?_eq_none (by omega)] at hu; cases hu
      have := h5 i (by omega)
      rw [addr_add, hs] at this
      rw [this]; exact hu
    · intro x hx
      obtain ⟨i, hi, rfl⟩ := List.mem_map.1 hx
      exact (hf i (List.mem_range.1 hi)).2
structure OpensFrom (P : Program) (fs : Array Field) (i : Nat) (off : Nat) {α : Type} (k : Kd α) (W : α → Prop) : Prop where
  out : ∀ {H : Type} {enc : TypeId × Value → H} {w : World} {base : Nat} {spare : Nat → Bool} {held : Bool} {n : Nat} {cs : List Value} {xs : List (DataW H × List MemPlace)},
    xs.length = fs.size → cs.length = off + k.sz →
    (∀ (j : Nat) (f : Field), fs[j]? = some f → DataW.trod enc P w base spare held n f.type ((cs.drop f.offset).take (P.cellsOf f.type)) = xs[j]?) → ∃ a : α, k.K w a (cs.drop off) ∧ W a
theorem opensFrom_last {P : Program} {fs : Array Field} {i off : Nat} {α : Type} {k : Kd α} {W : α → Prop} (f : Field) (hf : fs[i]? = some f) (ho : f.offset = off) (hs : P.cellsOf f.type = k.sz) (hd : Opens P k f.type W) : OpensFrom P fs i off k W := by
  refine ⟨fun {H enc w base spare held n cs xs} hx hl h => ?_⟩
  have hi : i < xs.length := by
    rw [hx]
    by_cases q : i < fs.size
    · exact q
    · rw [Array.getElem?_eq_none (by omega)] at hf; cases hf
  have h1 := h i f hf
  rw [List.getElem?_eq_getElem hi, ho, hs, List.take_of_length_le (by simp; omega)] at h1
  exact hd.out h1
theorem opensFrom_cons {P : Program} {fs : Array Field} {i off : Nat} {α β : Type} {k : Kd α} {l : Kd β} {W : α → Prop} {V : β → Prop} (f : Field) (hf : fs[i]? = some f) (ho : f.offset = off) (hs : P.cellsOf f.type = k.sz)
    (hd : Opens P k f.type W) (hr : OpensFrom P fs (i + 1) (off + k.sz) l V) : OpensFrom P fs i off (Kd.pair k l) (fun x => W x.1 ∧ V x.2) := by
  refine ⟨fun {H enc w base spare held n cs xs} hx hl h => ?_⟩
  have hi : i < xs.length := by
    rw [hx]
    by_cases q : i < fs.size
    · exact q
    · rw [Array.getElem?_eq_none (by omega)] at hf; cases hf
  have hl' : cs.length = off + (k.sz + l.sz) := hl
  have h1 := h i f hf
  rw [List.getElem?_eq_getElem hi, ho, hs] at h1
  obtain ⟨a, ka, wa⟩ := hd.out h1
  obtain ⟨b, kb, wb⟩ := hr.out hx (by omega) h
  refine ⟨(a, b), ⟨_, _, ?_, ka, kb⟩, wa, wb⟩
  rw [← List.drop_drop, List.take_append_drop]
theorem opens_struct {P : Program} {t : TypeId} {fs : Array Field} {α β : Type} {k : Kd α} {g : β → α} {W : α → Prop} {V : β → Prop} (ht : P.underlying t = some (.struct fs)) (hs : P.cellsOf t = k.sz) (hd : OpensFrom P fs 0 0 k W)
    (inv : α → β) (hg : ∀ a, g (inv a) = a) (hW : ∀ a, W a → V (inv a)) : Opens P (Kd.iso k g) t V := by
  refine ⟨fun {H enc w base spare held fuel cs x} h => ?_⟩
  obtain ⟨xs, n, _, _, hl, hx, hall⟩ := DataW.trod_struct ht h
  obtain ⟨a, ka, wa⟩ := hd.out hx (by rw [hl, hs]; omega) hall
  exact ⟨inv a, by show k.K w (g (inv a)) cs; rw [hg]; simpa using ka, hW a wa⟩
theorem arg_slice {P : Program} {H : Type} {enc : TypeId × Value → H} {w : World} {base : Nat} {spare : Nat → Bool} {held : Bool} {α : Type} {d : Kd α} {t e : TypeId} {W : List α → Prop} {v : Value} {x : DataW H} {ps : List MemPlace} {r : Reach} {b0 : Nat}
    (ht : P.underlying t = some (.slice e)) (hv : Value.okWide P w r b0 t v) (ho : Opens P (Kd.slice e d) t W) (h : DataW.Trod enc P w base spare held t v x ps) :
    ∃ (A : Option Addr) (c : Nat) (xs : List α), v = .slice A xs.length c ∧ xs.length ≤ c ∧ Kd.C d w A xs.length xs ∧ W xs := by
  obtain ⟨fuel, hf⟩ := h
  obtain ⟨a, len, cap, rfl⟩ := okWide_slice ht hv
  obtain ⟨xs, ⟨A, c, e1, h1, h2⟩, hw⟩ := ho.out hf
  have e2 : ([.slice a len cap] : List Value) = [.slice A xs.length c] := e1
  injection e2 with e2
  exact ⟨A, c, xs, e2, h1, h2, hw⟩
theorem arg_struct {P : Program} {H : Type} {enc : TypeId × Value → H} {w : World} {base : Nat} {spare : Nat → Bool} {held : Bool} {α : Type} {d : Kd α} {t : TypeId} {fs : Array Field} {W : α → Prop} {v : Value} {x : DataW H} {ps : List MemPlace} {r : Reach} {b0 : Nat}
    (ht : P.underlying t = some (.struct fs)) (hv : Value.okWide P w r b0 t v) (ho : Opens P d t W) (h : DataW.Trod enc P w base spare held t v x ps) :
    ∃ (a : α) (cs : List Value), v = .agg cs.toArray ∧ d.K w a cs ∧ W a := by
  obtain ⟨fuel, hf⟩ := h
  obtain ⟨cs, rfl, _⟩ := okWide_struct ht hv
  obtain ⟨a, ha, hw⟩ := ho.out hf
  exact ⟨a, cs.toList, by simp, ha, hw⟩
end Go.Proofs.YtaofmmnfenlofaaGreatDoor.Open
namespace Go.Proofs.YtaofmmnfenlofaaGreatDoor.QTc
open Go.RowKit Go.Proofs.YtaofmmnfenlofaaGreatDoorW.PrintWords Go.Proofs.YtaofmmnfenlofaaGreatDoorW.PrintLast Go.Proofs.YtaofmmnfenlofaaGreatDoor.Open
set_option linter.unusedVariables false
instance : Inhabited S46 := ⟨z46⟩
def wf46 (x : S46) : Prop := ((x.f0).size ≤ maxLen) ∧ ((Lit.int .i64 x.f1).wf = true) ∧ ((Lit.int .i64 x.f2).wf = true) ∧ ((Lit.int .i64 x.f3).wf = true) ∧ ((Lit.int .i64 x.f4).wf = true) ∧ ((Lit.int .i64 x.f5).wf = true) ∧ (∀ y ∈ x.f6, (Lit.int .i64 y).wf = true) ∧ ((Lit.int .u64 x.f7).wf = true) ∧ ((Lit.int .u64 x.f8).wf = true)
theorem opens46 : Opens Tryz.prog k46 46 wf46 :=
  opens_struct Tryz.underlying46 (by kernel_rfl) (opensFrom_cons _ rfl rfl (by kernel_rfl) (opens_string Tryz.underlying9) (opensFrom_cons _ rfl rfl (by kernel_rfl) (opens_int Tryz.underlying2) (opensFrom_cons _ rfl rfl (by kernel_rfl) (opens_int Tryz.underlying2) (opensFrom_cons _ rfl rfl (by kernel_rfl) (opens_int Tryz.underlying3) (opensFrom_cons _ rfl rfl (by kernel_rfl) (opens_int Tryz.underlying2) (opensFrom_cons _ rfl rfl (by kernel_rfl) (opens_int Tryz.underlying3) (opensFrom_cons _ rfl rfl (by kernel_rfl) (opens_slice Tryz.underlying28 (by kernel_rfl) (opens_int Tryz.underlying2)) (opensFrom_cons _ rfl rfl (by kernel_rfl) (opens_int Tryz.underlying44) (opensFrom_last _ rfl rfl (by kernel_rfl) (opens_int Tryz.underlying44)))))))))) (fun a => ⟨a.1, a.2.1, a.2.2.1, a.2.2.2.1, a.2.2.2.2.1, a.2.2.2.2.2.1, a.2.2.2.2.2.2.1, a.2.2.2.2.2.2.2.1, a.2.2.2.2.2.2.2.2⟩) (fun _ => rfl) (fun _ h => h)
structure S24 where
  f0 : Int
  f1 : (List S46)
def z24 : S24 := ⟨0, []⟩
def k24 : Kd S24 := Kd.iso (Kd.pair (Kd.int .i64) (Kd.slice 46 k46)) (fun x : S24 => (x.f0, x.f1))
theorem k24_open {w : World} {x : S24} {cs : List Value} (h : k24.K w x cs) : ∃ A1 c1, cs = [.int .i64 x.f0, .slice A1 x.f1.length c1] ∧ x.f1.length ≤ c1 ∧ Kd.C k46 w A1 x.f1.length x.f1 := by
  obtain ⟨_, _, rfl, rfl, ⟨A1, c1, rfl, l1, g1⟩⟩ := h
  exact ⟨A1, c1, rfl, l1, g1⟩
instance : Inhabited S24 := ⟨z24⟩
def wf24 (x : S24) : Prop := ((Lit.int .i64 x.f0).wf = true) ∧ (∀ y ∈ x.f1, wf46 y)
theorem opens24 : Opens Tryz.prog k24 24 wf24 :=
  opens_struct Tryz.underlying24 (by kernel_rfl) (opensFrom_cons _ rfl rfl (by kernel_rfl) (opens_int Tryz.underlying2) (opensFrom_last _ rfl rfl (by kernel_rfl) (opens_slice Tryz.underlying22 (by kernel_rfl) opens46))) (fun a => ⟨a.1, a.2⟩) (fun _ => rfl) (fun _ h => h)
instance : Inhabited S52 := ⟨z52⟩
def wf52 (x : S52) : Prop := ((Lit.int .u64 x.f0).wf = true) ∧ (∀ y ∈ x.f1, ∀ z ∈ y, (Lit.int .i64 z).wf = true) ∧ ((Lit.int .u64 x.f2).wf = true)
theorem opens52 : Opens Tryz.prog k52 52 wf52 :=
  opens_struct Tryz.underlying52 (by kernel_rfl) (opensFrom_cons _ rfl rfl (by kernel_rfl) (opens_int Tryz.underlying44) (opensFrom_cons _ rfl rfl (by kernel_rfl) (opens_slice Tryz.underlying50 (by kernel_rfl) (opens_slice Tryz.underlying28 (by kernel_rfl) (opens_int Tryz.underlying2))) (opensFrom_last _ rfl rfl (by kernel_rfl) (opens_int Tryz.underlying44)))) (fun a => ⟨a.1, a.2.1, a.2.2⟩) (fun _ => rfl) (fun _ h => h)
end Go.Proofs.YtaofmmnfenlofaaGreatDoor.QTc
namespace Go.Proofs.YtaofmmnfenlofaaGreatDoor.Pure
open Go.RowKit Go.Proofs.YtaofmmnfenlofaaGreatDoor.QTc Go.Proofs.YtaofmmnfenlofaaGreatDoorW.PrintWords Go.Proofs.YtaofmmnfenlofaaGreatDoorW.PrintLast Go.Proofs.YtaofmmnfenlofaaGreatDoor.Open
set_option linter.unusedVariables false
theorem TopCut (a0 : S24) (l1 : (List S52)) (w0 : wf24 a0) (w1 : ∀ y ∈ l1, wf52 y) : ∃ k : Nat, taskmastertop_TopCut.f a0.f0 a0.f1 l1 = some true := by
  refine ⟨0, ?_⟩
  unfold taskmastertop_TopCut.f
  rw [if_pos]
  refine ⟨fun y hy => ?_, fun t ht => ?_, fun x hx => ?_⟩
  · have := (w0.2 y hy).1; unfold maxLen at this; omega
  · have h := w0.2 t ht
    exact ⟨u64_in h.2.2.2.2.2.2.2.1, u64_in h.2.2.2.2.2.2.2.2⟩
  · have h := w1 x hx
    exact ⟨u64_in h.1, u64_in h.2.2⟩
end Go.Proofs.YtaofmmnfenlofaaGreatDoor.Pure
namespace Go.Proofs.YtaofmmnfenlofaaGreatDoor.QTc
open Go.RowKit
set_option linter.unusedVariables false
theorem returnsInHanded_and_shaped {H : Type} {enc : TypeId × Value → H} {a : Assume} {C : Checked} {os : Os} {f : FuncId} {fn : Func} {s : ChangeSpec} {conds : List PathCond} {apart fresh handsOn again : Bool} {X : World → Array Value → Prop}
    (hX : ∀ (w w' : World) (args : Array Value), w.heap = w'.heap → X w args → X w' args)
    (own : ownKnob C.prog.godebug = none) (started : os.Started) (noInit : C.prog.inits.idxOf? f = none) (hfn : C.prog.funcs[f]? = some fn)
    (witness : ∃ (w : World) (tape : Tape) (i : Input), w.os = os ∧ (w.forCall tape i).Shaped C.prog ∧ i.vars = [] ∧ Input.okWide C.prog (w.forCall tape i) .any w.heap.size f i ∧
      ((s.pre enc C.prog fn conds apart (w.forCall tape i).memory i.args ∧ X (w.forCall tape i).memory i.args) ∧ sizedMet enc C.prog fn (OpenSpec.ofChange s) apart (w.forCall tape i).memory i.args) ∧ a.holds C.prog (lone (Frame.enter C.prog f i.args .normal) [] (w.forCall tape i)))
    (contract : ∀ (W : World) (base : Nat) (args : Array Value) (ds gs : List (DataW H)) (before : List MemPlace),
      (∀ (j : Nat) t v, fn.params[j]? = some t → args[j]? = some v → Value.okWide C.prog W .any base t v) →
      DataW.Whole enc C.prog fn.params.toList s.vars apart W args.toList ds gs before →
      conds.all (PathCond.test C.prog ⟨fn.params.toList, ds, s.plain.varTypes C.prog, gs⟩) = true →
      (DataW.weightsEach C.prog (fn.params.toList ++ s.plain.varTypes C.prog) (ds ++ gs)).all (· ≤ reachBytes) = true → X W args → W.ShapedOpen C.prog →
      a.holds C.prog (lone (Frame.enter C.prog f args .normal) [] W) →
      Calls C.prog f args W fun e W' => ∃ v, e = .returned v ∧ s.post enc C.prog fn apart fresh handsOn again W args v W') :
    ReturnsInHanded a C os f .any (fun w args => (s.pre enc C.prog fn conds apart w args ∧ X w args) ∧ sizedMet enc C.prog fn (OpenSpec.ofChange s) apart w args) (s.post enc C.prog fn apart fresh handsOn again) := by
  refine returnsInHanded_of_calls own started noInit witness ?_
  intro w tape i _ hsh _ hok hpre hholds
  obtain ⟨_, _, _, fn', hfn', _, _, _, _, hval⟩ := hok
  have e : fn' = fn := Option.some.inj (hfn'.symm.trans hfn)
  subst e
  obtain ⟨⟨⟨ds, gs, before, hw, hc⟩, hx⟩, hz⟩ := hpre
  have hw' := DataW.Whole.of_heap (w' := w.forCall tape i) (by rfl) hw
  refine (contract (w.forCall tape i) w.heap.size i.args ds gs before hval hw' hc (hz.weights hw) (hX _ _ _ (by rfl) hx) hsh hholds).mono fun e W' ⟨v, he, hp⟩ => ?_
  subst he
  exact ChangeSpec.post_blind hp
abbrev laidL : List (String × DataW Unit) := [("math/bits.deBruijn32tab", Rows.laid_math_bits_deBruijn32tab), ("math/bits.deBruijn64tab", Rows.laid_math_bits_deBruijn64tab), ("internal/strconv.uint64pow10", Rows.laid_internal_strconv_uint64pow10), ("unicode.White_Space", Rows.laid_unicode_White_Space), ("strings.asciiSpace", Rows.laid_strings_asciiSpace)]
def tabZ : List Int := List.map Int.ofNat Lib.deBruijn64tab
theorem vars_tail {W : World} {x : String × DataW Unit} {r : List (String × DataW Unit)} {ps : List MemPlace} (h : DataW.LaidVars Tryz.prog W (x :: r) ps) : ∃ q, DataW.LaidVars Tryz.prog W r q := by
  obtain ⟨_, _, _, _, _, q, _, _, _, _, h2, _⟩ := h
  exact ⟨q, h2⟩
theorem tab_of_vars {W : World} {name : String} {k : IntKind} {zs : List Int} {rest : List (String × DataW Unit)} {ps : List MemPlace} {g : Nat} {t e : TypeId} {n : Nat}
    (hg : Tryz.prog.globalNamed name = some g) (hty : (Tryz.prog.globals[g]?).map (·.type) = some t) (ht : Tryz.prog.underlying t = some (.array n e)) (he : Tryz.prog.underlying e = some (.int k)) (hce : Tryz.prog.cellsOf e = 1) (hct : Tryz.prog.cellsOf t = n)
    (h : DataW.LaidVars Tryz.prog W ((name, Lib.tabData k zs) :: rest) ps) : Lib.TabIs Tryz.prog W name k zs := by
  obtain ⟨g', t', cs, fuel, p, q, hg', ht', hvar, hd, _, _⟩ := h
  obtain rfl := Option.some.inj (hg.symm.trans hg')
  obtain rfl := Option.some.inj (hty.symm.trans ht')
  unfold Lib.TabIs
  rw [hvar, ← Lib.cells_of_tab ht he hce hct hd]
theorem gTab : Tryz.prog.globalNamed "math/bits.deBruijn64tab" = some 0 := by kernel_rfl
theorem tTab : (Tryz.prog.globals[0]?).map (·.type) = some 209 := by kernel_rfl
theorem tSpace : (Tryz.prog.globals[3]?).map (·.type) = some 250 := by kernel_rfl
set_option maxRecDepth 100000 in
theorem de_eq : (Rows.laid_math_bits_deBruijn64tab : DataW Unit) = Lib.tabData .u8 tabZ := by rfl
set_option maxRecDepth 100000 in
theorem sp_eq : (Rows.laid_strings_asciiSpace : DataW Unit) = Lib.tabData .u8 Lib.asciiSpaceTab := by rfl
theorem tab_of_laid {W : World} (h : laidMetH Tryz.prog laidL W) (hsh : W.ShapedOpen Tryz.prog) : TabW W := by
  rw [MakeChecks.laidMetH_plain _ _ _ (by kernel_rfl)] at h
  obtain ⟨ps, hv, _⟩ := h
  obtain ⟨q1, h1⟩ := vars_tail hv
  obtain ⟨q2, h2⟩ := vars_tail h1
  obtain ⟨q3, h3⟩ := vars_tail h2
  obtain ⟨q4, h4⟩ := vars_tail h3
  rw [de_eq] at h1
  rw [sp_eq] at h4
  have ht : Lib.TabIs Tryz.prog W "math/bits.deBruijn64tab" .u8 tabZ := tab_of_vars (e := 5) (n := 64) gTab tTab (by kernel_rfl) (by kernel_rfl) (by kernel_rfl) (by kernel_rfl) h1
  have hp : Lib.TabIs Tryz.prog W "strings.asciiSpace" .u8 Lib.asciiSpaceTab := tab_of_vars (e := 5) (n := 256) gSpace tSpace (by kernel_rfl) (by kernel_rfl) (by kernel_rfl) (by kernel_rfl) h4
  have all : TabAt 0 Lib.deBruijn64tab W := fun j hj => by
    have hl : tabZ.length = 64 := by decide
    have hj' : j < 64 := hj
    rw [ht.cell gTab j (by omega)]
    have e : tabZ.getD j 0 = ((Lib.deBruijn64tab.getD j 0 : Nat) : Int) := (show ∀ j, j < 64 → tabZ.getD j 0 = ((Lib.deBruijn64tab.getD j 0 : Nat) : Int) by decide) j hj'
    rw [e]
  exact ⟨⟨World.block_lt_of_cell? W _ (all 0 (by decide)), all⟩, hp⟩
theorem door_met (os : Os) (args : Array Value) : laidMetH Tryz.prog laidL ((World.laidAll Tryz.prog os laidL).forCall (fun _ _ => 0) ⟨#[], args, []⟩).memory := by
  rw [MakeChecks.laidMetH_plain _ _ _ (by kernel_rfl)]
  exact laidMet_laidAll _ (by kernel_rfl) (by kernel_rfl)
end Go.Proofs.YtaofmmnfenlofaaGreatDoor.QTc
namespace Go.Proofs.YtaofmmnfenlofaaGreatDoor.topCut
open Go.ChangeShapes Go.WideShapes Go.ChangeAt Go.RowKit
open Go.ChangeMaps (open_string shut_string)
open Go.Proofs.YtaofmmnfenlofaaGreatDoorW.PrintWords Go.Proofs.YtaofmmnfenlofaaGreatDoorW.PrintLast Go.Proofs.YtaofmmnfenlofaaGreatDoor.QTc Go.Proofs.YtaofmmnfenlofaaGreatDoor.Open
set_option linter.unusedVariables false
theorem own : ownKnob Tryz.prog.godebug = none := by kernel_rfl
theorem laidOut : laidOutB Tryz.prog = true := by kernel_rfl
set_option maxRecDepth 100000 in
theorem lifted (os : Os) (started : os.Started) (H : Type) (enc : TypeId × Value → H) :
    ReturnsInHanded {} Tryz.checked os 4 .any (fun w args => (Rows.topCutSpec.pre enc Tryz.prog Tryz.f4 [] false w args ∧ laidMetH Tryz.prog laidL w) ∧ sizedMet enc Tryz.prog Tryz.f4 (OpenSpec.ofChange Rows.topCutSpec) false w args) (Rows.topCutSpec.post enc Tryz.prog Tryz.f4 false true false false) := by
  refine returnsInHanded_and_shaped (C := Tryz.checked) (X := fun w _ => laidMetH Tryz.prog laidL w) (fun _ _ _ hh h => h.of_heap hh) own started (by kernel_rfl) Tryz.func4
    (ChangeSpec.witness_shaped (enc := enc) (C := Tryz.checked) (os := os) (X := fun w _ => laidMetH Tryz.prog laidL w) false (World.laidAll Tryz.prog os laidL) #[.agg #[.int .i64 0, .slice none 0 0], .slice none 0 0] 8 (World.laidAll_os _ _ _) (World.shaped_of_ZipB (by kernel_rfl) (by kernel_rfl)) (by kernel_rfl) (by kernel_rfl) (by kernel_rfl) (door_met os _)) ?_
  intro W base args ds gs before hval0 hW hcnd hsz0 hL hShp _
  have hTab := tab_of_laid hL hShp
  clear hL hShp
  have hsz : (DataW.weightsEach Tryz.prog (Tryz.f4.params.toList ++ Rows.topCutSpec.plain.varTypes Tryz.prog) (ds ++ gs)).all (· ≤ reachBytes) = true := hsz0
  have hval : ∀ (j : Nat) t v, Tryz.f4.params[j]? = some t → args[j]? = some v → Value.okWide Tryz.prog W .any base t v := hval0
  have hW' := hW
  obtain ⟨p, q, hA0, hV, rfl, hfz, hnd⟩ := hW
  have hA : DataW.TrodAll enc Tryz.prog W 0 (fun _ => true) true Tryz.f4.params.toList args.toList ds p := hA0
  rw [Tryz.params4] at hA hval hsz
  obtain ⟨v0, vs0, d0, ds0, p0, q0, hargs, rfl, rfl, h0, r0⟩ := trodAll_cons hA
  obtain ⟨v1, vs1, d1, ds1, p1, q1, rfl, rfl, rfl, h1, r1⟩ := trodAll_cons r0
  obtain ⟨rfl, rfl, rfl⟩ := trodAll_nil r1
  obtain rfl : args = #[v0, v1] := by cases args; simp_all
  obtain ⟨rfl, rfl⟩ := trodVars_none hV
  have k0 := h0
  have lt0 : ∀ x ∈ p0, x.block < W.heap.size := by obtain ⟨m, hm⟩ := k0; exact DataW.trod_lt m _ _ _ hm
  obtain ⟨a0, cs0, rfl, hk0, hw0⟩ := arg_struct Tryz.underlying24 (hval 0 24 v0 rfl rfl) opens24 h0
  obtain ⟨A0_1, c0_1, rfl, hc0_1, hr0_1⟩ := k24_open hk0
  have k1 := h1
  have lt1 : ∀ x ∈ p1, x.block < W.heap.size := by obtain ⟨m, hm⟩ := k1; exact DataW.trod_lt m _ _ _ hm
  obtain ⟨A1, c1, l1, rfl, hc1, hr1, hw1⟩ := arg_slice Tryz.underlying25 (hval 1 25 v1 rfl rfl) (opens_slice Tryz.underlying25 (by kernel_rfl) opens52) h1
  clear hA0 hval0 hsz0 hsz
  obtain ⟨k, hk⟩ := Pure.TopCut a0 l1 hw0 hw1
  refine (taskmastertop_TopCut.calls (w := W) (h := hk) (hT := hTab) (hc0_1 := hc0_1) (hc1 := hc1) (hr0_1 := hr0_1) (hr1 := hr1)).mono fun e W' ⟨he, bel0⟩ => ?_
  have bel : Below W.heap.size W W' := bel0
  subst he
  exact ⟨_, rfl, _, _, _, [], _, [], hW', trodAll_mk1 (shut_bool Tryz.underlying4 _), (trodAll_cons_mk (Below.trod laidOut (by kernel_rfl) (of_decide_eq_true (by kernel_rfl)) k0 bel lt0) (trodAll_cons_mk (Below.trod laidOut (by kernel_rfl) (of_decide_eq_true (by kernel_rfl)) k1 bel lt1) trodAll_mk0)), rfl, bel.frame _, fun h => by cases h⟩
theorem over : Rows.topCutRow.holds Tryz.pinned (OpenSpec.ofChange Rows.topCutSpec) :=
  OpenClaim.holds_of_wide 4 Tryz.f4 rfl rfl rfl rfl rfl rfl rfl ⟨rfl, rfl, rfl, rfl, rfl⟩ rfl rfl rfl rfl rfl (by kernel_rfl) Tryz.func4 (by kernel_rfl)
    (of_decide_eq_true (by kernel_rfl)) (by unfold Func.isWrapper; first | (rw [if_pos (by decide +kernel)]; kernel_rfl) | (rw [if_neg (by decide +kernel)]; exact ⟨rfl, rfl⟩))
    (fun os started H enc _ => lifted os started H enc)
theorem proved : Rows.TopCutSaid := over
end Go.Proofs.YtaofmmnfenlofaaGreatDoor.topCut
namespace Go.Proofs.YtaofmmnfenlofaaGreatDoor
theorem topCut_holds : Rows.TopCutCardSaid :=
  Claim7.holds_tied_plain_at .later [] [.data, .data, .data, .listed, .data] true Rows.topCutCard.stood.harness Rows.topCutCard.stood.looks
    topCut.proved (fun _ h => by cases h) (by kernel_rfl) (fun _ h => by cases h) topCut_row_tie rfl ⟨rfl, rfl⟩ (by kernel_rfl) rfl
    (fun f fn hf hfn => by
      obtain rfl : f = 4 := Option.some.inj ((show Tryz.prog.funcNamed "taskmaster/taskmastertop.TopCut" = some 4 by kernel_rfl).symm.trans hf) |>.symm
      obtain rfl : fn = Tryz.f4 := (Option.some.inj (Tryz.func4.symm.trans hfn)).symm
      exact ⟨by kernel_rfl, fun j t ht => by
        rw [Tryz.params4] at ht
        have hm : t ∈ [24, 25] := by simpa using Array.mem_of_getElem? ht
        have hall : ([24, 25].all fun u => !Tryz.prog.wantsStandIn u) = true := by kernel_rfl
        exact (show Tryz.prog.wantsStandIn t = false by simpa using List.all_eq_true.1 hall t hm)⟩)
    (by kernel_rfl)
end Go.Proofs.YtaofmmnfenlofaaGreatDoor

/- What is proved: contracts and plain facts on the way to the row RowTopCut, and, in the last text, the row itself; conditions as each theorem names them. -/
import Derived.Deep.Cut
import Derived.Shelf.Strings.Builder1
import Derived.Shelf.Strings.Builder2
import Derived.Shelf.Strconv.Itoa0
import Derived.Shelf.Strings.Prefix
import Derived.Shelf.Strings.Fields
import Derived.Shelf.LaysM
import Derived.Shelf.Strings.SplitShaped
import Derived.Shelf.Unicode.Latin
import Derived.Shelf.Unicode.Is16White
import Derived.Shelf.Unicode.IsSpaceAny
import Derived.Shelf.Unicode.Is16WhiteD
import Derived.Shelf.Unicode.IsSpaceAnyD
import Derived.Shelf.Strings.FieldsAny
import Derived.Shelf.Strings.FieldsFuncAny
import Derived.Shelf.Unicode.Is16Any
import Derived.Shelf.Unicode.Is32Any
import Derived.Shelf.Unicode.ExclAny
import Derived.Shelf.Slices.Turned
import Derived.Test.YtaofmmnfenlofaaGreatDoorProg
import Derived.Test.YtaofmmnfenlofaaGreatDoorSkCut1
import Derived.Test.YtaofmmnfenlofaaGreatDoorSkCut2
namespace Go.Proofs.YtaofmmnfenlofaaGreatDoor.QTc
open Go.RowKit Go.Proofs.YtaofmmnfenlofaaGreatDoorW.PrintWords Go.Proofs.YtaofmmnfenlofaaGreatDoorW.PrintLast Go.Proofs.YtaofmmnfenlofaaGreatDoorW.PrintMore
attribute [local go_sem] max2_int min2_int max_two min_two max_three min_three max_four min_four
set_option linter.unusedVariables false
set_option linter.unusedSimpArgs false
def rule_Held.j0 : Nat → List (S132) → Int → Int → Bool → Int → List (S46) → Option (Bool)
 | 0, _, _, _, _, _, _ => none
 | k + 1, x1, x2, x3, x21, x326000, x326001 => if x21 = true then (some false) else (if 0 ≤ x2 then (if x2 < (x326001.length : Int) then (if ((rd_T46 x326001 x2).f3) = 0 then (if x2 < (x1.length : Int) then (some ((rd_T132 x1 x2).f2)) else (none)) else (if ((rd_T46 x326001 x2).f3) = 1 then (if x2 ≤ (x1.length : Int) then ((rule_waits.f k (x1.take (x2 : Int).toNat) ((rd_T46 x326001 x2).f4) x3).bind fun t335 => (some t335)) else (none)) else (some false))) else (none)) else (none))
def rule_Held.f (k : Nat) (a0_0 : Int) (l0_1 : List (S46)) (l1 : List (S132)) (a2 : Int) (a3 : Int) : Option (Bool) := (rule_is.f a0_0 l0_1 l1 a2).bind fun t326 => (if t326 = true then (if 0 ≤ a2 then (if a2 < (l1.length : Int) then (rule_Held.j0 k l1 a2 a3 (!((rd_T132 l1 a2).f1)) a0_0 l0_1) else (none)) else (none)) else (rule_Held.j0 k l1 a2 a3 true a0_0 l0_1))
def rule_Held.T7 : Bool × List (List Nat × List Nat) := (true, [([], []), ([], []), ([0, 1], [0, 1]), ([], []), ([3], [3]), ([], []), ([4, 5], [4, 5]), ([6], [6]), ([7], [7]), ([], []), ([2, 8, 9], [2, 8, 9]), ([10, 10, 0, 1, 2, 3, 4, 5, 6, 7, 8, 9, 10], [10])])
def rule_Held.B7 : List Nat := [0, 0, 3, 0, 8, 0, 56, 120, 248, 0, 1023, 2047]
theorem rule_Held.tab7 : rtab .any (opsOf Tryz.f85 7) = rule_Held.T7 := by kernel_rfl
theorem rule_Held.bits7 : waitsOk rule_Held.T7.2 rule_Held.B7 = true := by kernel_rfl
set_option maxHeartbeats 8000000 in
set_option maxRecDepth 100000 in
theorem rule_Held.calls (k : Nat) (a0_0 : Int) (A0_1 : Option Addr) (c0_1 : Nat) (l0_1 : List (S46)) (A1 : Option Addr) (c1 : Nat) (l1 : List (S132)) (a2 : Int) (a3 : Int) (r : Bool) (w : World) (hr0_1 : Kd.C k46 w A0_1 l0_1.length l0_1) (hc0_1 : l0_1.length ≤ c0_1) (hr1 : Kd.C k132 w A1 l1.length l1) (hc1 : l1.length ≤ c1) (h : rule_Held.f k a0_0 l0_1 l1 a2 a3 = some r) :
  Calls Tryz.prog 85 #[.agg #[.int .i64 a0_0, .slice A0_1 l0_1.length c0_1], .slice A1 l1.length c1, .int .i64 a2, .int .i64 a3] w fun e w' => e = .returned (.bool r) ∧ Below w.heap.size w w' := by
 have hu24 := Tryz.underlying24
 have HR0_1 := Aside0.mk hr0_1
 have HC0_1 := Aside0.mk hc0_1
 clear hr0_1 hc0_1
 have HR1 := Aside0.mk hr1
 have HC1 := Aside0.mk hc1
 clear hr1 hc1
 have HB := Aside0.mk (Below.refl w.heap.size w)
 have H : ((rule_is.f a0_0 l0_1 l1 a2).bind fun t326 => (if t326 = true then (if 0 ≤ a2 then (if a2 < (l1.length : Int) then (rule_Held.j0 k l1 a2 a3 (!((rd_T132 l1 a2).f1)) a0_0 l0_1) else (none)) else (none)) else (rule_Held.j0 k l1 a2 a3 true a0_0 l0_1))) = some r := h
 clear h
 have HC5 := Aside0.mk H
 clear H
 go_enter Tryz.func85, Tryz.ntmps85
 go_upto_region 1 with (first | ((with_reducible refine gate_dst (N := 4) rfl ?_); refine box_event ?hg (N := 4) ?hd (cs := #[.int .i64 a0_0, .slice A0_1 l0_1.length c0_1]) (t := 24) ?hr ?_; (case hd => rfl); (case hg => rfl); (case hr => first | (go_simp; done) | (go_simp; rfl)); intro gb325 hg w6 hbox hb; have n0_ := Aside0.mk (below_step (by repeat (first | (with_reducible first | exact HB.out | apply below_alloc | apply pw_below_drewN | apply below_drew1) | exact HB.out)) hb); have n1_ := Aside0.mk (hbox); have n2_ := Aside0.mk ((by rw [hg]; exact (below_size (by repeat (first | (with_reducible first | exact HB.out | apply below_alloc | apply pw_below_drewN | apply below_drew1) | exact HB.out))) : w.heap.size ≤ gb325)); have n3_ := Aside0.mk ((by rw [hg]; exact (below_size (by repeat (first | (with_reducible first | exact HB.out | apply below_alloc | apply pw_below_drewN | apply below_drew1) | exact HB.out))) : w.heap.size ≤ gb325)); clear HB; have HB := n0_; have BK325 := n1_; have GW325 := n2_; have GE325 := n3_; clear n0_ n1_ n2_ n3_; clear hb hbox hg))
 (try simp only [Act.put, List.setIfInBounds_toArray, List.set_cons_zero, List.set_cons_succ])
 go_cut [21] (fun v21 wc => ∃ (kq : Nat) (x21_4 : Bool), v21 = .bool x21_4 ∧ Aside0 (rule_Held.j0 kq l1 a2 a3 x21_4 a0_0 l0_1 = some r) ∧ Aside0 (kq ≤ k) ∧ Aside0 (wc.heap[gb325]? = some (.cells #[.int .i64 a0_0, (.slice A0_1 l0_1.length c0_1)] 24 (0, 0))) ∧ Aside0 (Below w.heap.size w wc))
 case first =>
  have H := HC5.out
  clear HC5
  replace H := Option.bind_eq_some_iff.mp H
  obtain ⟨t326, A70, H⟩ := H
  replace H : (if t326 = true then (if 0 ≤ a2 then (if a2 < (l1.length : Int) then (rule_Held.j0 k l1 a2 a3 (!((rd_T132 l1 a2).f1)) a0_0 l0_1) else (none)) else (none)) else (rule_Held.j0 k l1 a2 a3 true a0_0 l0_1)) = some r := H
  have A7 := Aside0.mk A70
  clear A70
  by_cases c8 : t326 = true
  ·subst c8
   have H1 : (if 0 ≤ a2 then (if a2 < (l1.length : Int) then (rule_Held.j0 k l1 a2 a3 (!((rd_T132 l1 a2).f1)) a0_0 l0_1) else (none)) else (none)) = some r := by rw [if_pos rfl] at H; exact H
   clear H
   have H := H1
   clear H1
   by_cases c9 : 0 ≤ a2
   ·rw [if_pos c9] at H
    have c9b0 : decide (0 ≤ a2) = true := decide_eq_true c9
    clear c9
    (first | rw [c9b0] | (simp only [i64_w, i32_w]; rw [c9b0]) | skip)
    by_cases c10 : a2 < (l1.length : Int)
    ·rw [if_pos c10] at H
     have c10b0 : decide (a2 < (l1.length : Int)) = true := decide_eq_true c10
     clear c10
     have H' := Aside0.mk H
     clear H
     have hcz11_0 : w6.cell? ⟨gb325, 0, none⟩ = some (.int .i64 a0_0) := (blk_cell BK325.out 0).trans rfl
     have hcz11_1 : w6.cell? ⟨gb325, 1, none⟩ = some (.slice A0_1 l0_1.length c0_1) := (blk_cell BK325.out 1).trans rfl
     have hfz11_0 := blk_frozen BK325.out 0
     have hfz11_1 := blk_frozen BK325.out 1
     go_wp2_with (first | ((with_reducible refine gate_callee (f := 86) rfl ?_); refine goesL_ (some 12) rfl rfl Tryz.func86 (by kernel_rfl) rfl #[.agg #[.int .i64 a0_0, .slice A0_1 l0_1.length c0_1], .slice A1 l1.length c1, .int .i64 a2] rfl (by (try simp only [List.map_toArray, List.map_cons, List.map_nil]); first | done | rfl | (simp only [List.length_drop, List.length_take]; rfl)) ?_; (with_reducible refine (rule_is.calls a0_0 _ _ l0_1 _ _ l1 a2 true _ ?side1 ?side2 ?side3 ?side4 A7.out).mono ?_); (case side1 => repeat (first | exact (Kd.C_below HR0_1.out HB.out) | (with_reducible refine Kd.C_alloc ?_ _) | (with_reducible refine Kd.C_drewN ?_ _) | (with_reducible refine Kd.C_drew ?_))); (case side2 => exact HC0_1.out); (case side3 => repeat (first | exact (Kd.C_below HR1.out HB.out) | (with_reducible refine Kd.C_alloc ?_ _) | (with_reducible refine Kd.C_drewN ?_ _) | (with_reducible refine Kd.C_drew ?_))); (case side4 => exact HC1.out); rintro e w12 ⟨rfl, hb⟩; refine ⟨_, rfl, ?_⟩; have n0_ := Aside0.mk (blk_below (g := gb325) (o := .cells #[.int .i64 a0_0, .slice A0_1 l0_1.length c0_1] 24 (0, 0)) (by (with_reducible repeat (first | refine blk_drewN ?_ _ | refine blk_drew ?_ | refine blk_alloc ?_ _)); exact BK325.out) hb); have n1_ := Aside0.mk (below_step (by repeat (first | (with_reducible first | exact HB.out | apply below_alloc | apply pw_below_drewN | apply below_drew1 | refine below_set ?_ GE325.out) | exact HB.out)) hb); clear BK325; clear HB; have BK325 := n0_; have HB := n1_; clear n0_ n1_; (try clear hb); (try clear hb2); (try clear hk); (try clear hi); have p327 : 0 ≤ (a2 : Int) := of_decide_eq_true (by first | (with_reducible assumption) | assumption); have q327 : a2 < (l1.length : Int) := of_decide_eq_true (by first | (with_reducible assumption) | assumption); obtain ⟨ad327, e327, hx327_0, hx327_1, hx327_2, hx327_3⟩ := at_T132 HR1.out a2 p327 q327; cases e327; replace hx327_0 := (HB.out.cell (World.block_lt_of_cell? w _ hx327_0)).trans hx327_0; replace hx327_1 := (HB.out.cell (World.block_lt_of_cell? w _ hx327_1)).trans hx327_1; replace hx327_2 := (HB.out.cell (World.block_lt_of_cell? w _ hx327_2)).trans hx327_2; replace hx327_3 := (HB.out.cell (World.block_lt_of_cell? w _ hx327_3)).trans hx327_3; replace p327 := eq_true p327; replace q327 := eq_true q327))
     go_meet
     case rel => exact ⟨_, (!((rd_T132 l1 a2).f1)), (by first | rfl | (simp; done) | (simp [*]; done)), H', ⟨by first | omega | exact Nat.le_refl _⟩, ⟨by (with_reducible repeat (first | refine blk_drewN ?_ _ | refine blk_drew ?_ | refine blk_alloc ?_ _)); exact BK325.out⟩, ⟨by repeat (first | (with_reducible first | exact HB.out | apply below_alloc | apply pw_below_drewN | apply below_drew1 | refine below_set ?_ GE325.out) | exact HB.out)⟩⟩
    ·rw [if_neg c10] at H
     exact absurd H (by simp)
   ·rw [if_neg c9] at H
    exact absurd H (by simp)
  ·replace c8 := Bool.eq_false_iff.mpr c8
   subst c8
   have H1 : (rule_Held.j0 k l1 a2 a3 true a0_0 l0_1) = some r := by rw [if_neg (show ¬ (false = true) by decide)] at H; exact H
   clear H
   have H := H1
   clear H1
   have H' := Aside0.mk H
   clear H
   have hcz13_0 : w6.cell? ⟨gb325, 0, none⟩ = some (.int .i64 a0_0) := (blk_cell BK325.out 0).trans rfl
   have hcz13_1 : w6.cell? ⟨gb325, 1, none⟩ = some (.slice A0_1 l0_1.length c0_1) := (blk_cell BK325.out 1).trans rfl
   have hfz13_0 := blk_frozen BK325.out 0
   have hfz13_1 := blk_frozen BK325.out 1
   go_wp2_with (first | ((with_reducible refine gate_callee (f := 86) rfl ?_); refine goesL_ (some 12) rfl rfl Tryz.func86 (by kernel_rfl) rfl #[.agg #[.int .i64 a0_0, .slice A0_1 l0_1.length c0_1], .slice A1 l1.length c1, .int .i64 a2] rfl (by (try simp only [List.map_toArray, List.map_cons, List.map_nil]); first | done | rfl | (simp only [List.length_drop, List.length_take]; rfl)) ?_; (with_reducible refine (rule_is.calls a0_0 _ _ l0_1 _ _ l1 a2 false _ ?side1 ?side2 ?side3 ?side4 A7.out).mono ?_); (case side1 => repeat (first | exact (Kd.C_below HR0_1.out HB.out) | (with_reducible refine Kd.C_alloc ?_ _) | (with_reducible refine Kd.C_drewN ?_ _) | (with_reducible refine Kd.C_drew ?_))); (case side2 => exact HC0_1.out); (case side3 => repeat (first | exact (Kd.C_below HR1.out HB.out) | (with_reducible refine Kd.C_alloc ?_ _) | (with_reducible refine Kd.C_drewN ?_ _) | (with_reducible refine Kd.C_drew ?_))); (case side4 => exact HC1.out); rintro e w14 ⟨rfl, hb⟩; refine ⟨_, rfl, ?_⟩; have n0_ := Aside0.mk (blk_below (g := gb325) (o := .cells #[.int .i64 a0_0, .slice A0_1 l0_1.length c0_1] 24 (0, 0)) (by (with_reducible repeat (first | refine blk_drewN ?_ _ | refine blk_drew ?_ | refine blk_alloc ?_ _)); exact BK325.out) hb); have n1_ := Aside0.mk (below_step (by repeat (first | (with_reducible first | exact HB.out | apply below_alloc | apply pw_below_drewN | apply below_drew1 | refine below_set ?_ GE325.out) | exact HB.out)) hb); clear BK325; clear HB; have BK325 := n0_; have HB := n1_; clear n0_ n1_; (try clear hb); (try clear hb2); (try clear hk); (try clear hi)))
   go_meet
   case rel => exact ⟨_, (true), (by first | rfl | (simp; done) | (simp [*]; done)), H', ⟨by first | omega | exact Nat.le_refl _⟩, ⟨by (with_reducible repeat (first | refine blk_drewN ?_ _ | refine blk_drew ?_ | refine blk_alloc ?_ _)); exact BK325.out⟩, ⟨by repeat (first | (with_reducible first | exact HB.out | apply below_alloc | apply pw_below_drewN | apply below_drew1 | refine below_set ?_ GE325.out) | exact HB.out)⟩⟩
 case rest =>
  clear HC5
  try clear c1
  try clear p2
  try clear p3
  try clear q3
  try clear hx3
  try clear c8
  try clear c9
  try clear c9b0
  try clear c10
  try clear c10b0
  try clear hcz11_0
  try clear hcz11_1
  try clear hcz13_0
  try clear hcz13_1
  try clear hfz11_0
  try clear hfz11_1
  try clear hfz13_0
  try clear hfz13_1
  try clear hx327_0
  try clear hx327_1
  try clear hx327_2
  try clear hx327_3
  try clear p327
  try clear q327
  obtain ⟨kq, x21_4, rfl, HA, HJ4, BK325, HB⟩ := hcut
  cases kq with
  | zero => exact absurd HA.out (by simp [rule_Held.j0])
  | succ kj4 =>
   have H := HA.out
   clear HA
   simp only [rule_Held.j0] at H
   by_cases c15 : x21_4 = true
   ·subst c15
    have H1 : (some false) = some r := by rw [if_pos rfl] at H; exact H
    clear H
    have H := H1
    clear H1
    obtain rfl := Option.some.inj H
    go_wp2
    go_ret
    exact ⟨by first | rfl | (simp [errW_none, errW_some] <;> rfl) | (simp [*, errW_none, errW_some] <;> rfl), by repeat (first | (with_reducible first | exact HB.out | apply below_alloc | apply pw_below_drewN | apply below_drew1 | refine below_set ?_ GE325.out) | exact HB.out)⟩
   ·replace c15 := Bool.eq_false_iff.mpr c15
    subst c15
    have H1 : (if 0 ≤ a2 then (if a2 < (l0_1.length : Int) then (if ((rd_T46 l0_1 a2).f3) = 0 then (if a2 < (l1.length : Int) then (some ((rd_T132 l1 a2).f2)) else (none)) else (if ((rd_T46 l0_1 a2).f3) = 1 then (if a2 ≤ (l1.length : Int) then ((rule_waits.f kj4 (l1.take (a2 : Int).toNat) ((rd_T46 l0_1 a2).f4) a3).bind fun t335 => (some t335)) else (none)) else (some false))) else (none)) else (none)) = some r := by rw [if_neg (show ¬ (false = true) by decide)] at H; exact H
    clear H
    have H := H1
    clear H1
    by_cases c16 : 0 ≤ a2
    ·rw [if_pos c16] at H
     have c16b0 : decide (0 ≤ a2) = true := decide_eq_true c16
     clear c16
     by_cases c17 : a2 < (l0_1.length : Int)
     ·rw [if_pos c17] at H
      have c17b0 : decide (a2 < (l0_1.length : Int)) = true := decide_eq_true c17
      clear c17
      by_cases c18 : ((rd_T46 l0_1 a2).f3) = 0
      ·rw [if_pos c18] at H
       have c18b0 : (((rd_T46 l0_1 a2).f3) == 0) = true := beq_iff_eq.mpr c18
       have c18b1 : (((rd_T46 l0_1 a2).f3) != 0) = false := bne_eq_false_iff_eq.mpr c18
       clear c18
       by_cases c19 : a2 < (l1.length : Int)
       ·rw [if_pos c19] at H
        have c19b0 : decide (a2 < (l1.length : Int)) = true := decide_eq_true c19
        clear c19
        obtain rfl := Option.some.inj H
        have hcz20_0 : wc.cell? ⟨gb325, 0, none⟩ = some (.int .i64 a0_0) := (blk_cell BK325.out 0).trans rfl
        have hcz20_1 : wc.cell? ⟨gb325, 1, none⟩ = some (.slice A0_1 l0_1.length c0_1) := (blk_cell BK325.out 1).trans rfl
        have hfz20_0 := blk_frozen BK325.out 0
        have hfz20_1 := blk_frozen BK325.out 1
        have p328 : 0 ≤ (a2 : Int) := of_decide_eq_true (by first | (with_reducible assumption) | assumption)
        have q328 : a2 < (l0_1.length : Int) := of_decide_eq_true (by first | (with_reducible assumption) | assumption)
        obtain ⟨ad328, A328_6, c328_6, e328, hx328_0, hx328_1, hx328_2, hx328_3, hx328_4, hx328_5, hx328_6, hx328_7, hx328_8, hl328_6, hi328_6⟩ := at_T46 HR0_1.out a2 p328 q328
        cases e328
        replace hx328_0 := (HB.out.cell (World.block_lt_of_cell? w _ hx328_0)).trans hx328_0
        replace hx328_1 := (HB.out.cell (World.block_lt_of_cell? w _ hx328_1)).trans hx328_1
        replace hx328_2 := (HB.out.cell (World.block_lt_of_cell? w _ hx328_2)).trans hx328_2
        replace hx328_3 := (HB.out.cell (World.block_lt_of_cell? w _ hx328_3)).trans hx328_3
        replace hx328_4 := (HB.out.cell (World.block_lt_of_cell? w _ hx328_4)).trans hx328_4
        replace hx328_5 := (HB.out.cell (World.block_lt_of_cell? w _ hx328_5)).trans hx328_5
        replace hx328_6 := (HB.out.cell (World.block_lt_of_cell? w _ hx328_6)).trans hx328_6
        replace hx328_7 := (HB.out.cell (World.block_lt_of_cell? w _ hx328_7)).trans hx328_7
        replace hx328_8 := (HB.out.cell (World.block_lt_of_cell? w _ hx328_8)).trans hx328_8
        have HR328_6 := Aside0.mk hi328_6
        have HC328_6 := Aside0.mk hl328_6
        clear hi328_6 hl328_6
        replace p328 := eq_true p328
        replace q328 := eq_true q328
        have p329 : 0 ≤ (a2 : Int) := of_decide_eq_true (by first | (with_reducible assumption) | assumption)
        have q329 : a2 < (l1.length : Int) := of_decide_eq_true (by first | (with_reducible assumption) | assumption)
        obtain ⟨ad329, e329, hx329_0, hx329_1, hx329_2, hx329_3⟩ := at_T132 HR1.out a2 p329 q329
        cases e329
        replace hx329_0 := (HB.out.cell (World.block_lt_of_cell? w _ hx329_0)).trans hx329_0
        replace hx329_1 := (HB.out.cell (World.block_lt_of_cell? w _ hx329_1)).trans hx329_1
        replace hx329_2 := (HB.out.cell (World.block_lt_of_cell? w _ hx329_2)).trans hx329_2
        replace hx329_3 := (HB.out.cell (World.block_lt_of_cell? w _ hx329_3)).trans hx329_3
        replace p329 := eq_true p329
        replace q329 := eq_true q329
        go_wp2
        go_ret
        exact ⟨by first | rfl | (simp [errW_none, errW_some] <;> rfl) | (simp [*, errW_none, errW_some] <;> rfl), by repeat (first | (with_reducible first | exact HB.out | apply below_alloc | apply pw_below_drewN | apply below_drew1 | refine below_set ?_ GE325.out) | exact HB.out)⟩
       ·rw [if_neg c19] at H
        exact absurd H (by simp)
      ·rw [if_neg c18] at H
       have c18b0 : (((rd_T46 l0_1 a2).f3) == 0) = false := beq_eq_false_iff_ne.mpr c18
       have c18b1 : (((rd_T46 l0_1 a2).f3) != 0) = true := bne_iff_ne.mpr c18
       by_cases c21 : ((rd_T46 l0_1 a2).f3) = 1
       ·rw [if_pos c21] at H
        have c21b0 : (((rd_T46 l0_1 a2).f3) == 1) = true := beq_iff_eq.mpr c21
        have c21b1 : (((rd_T46 l0_1 a2).f3) != 1) = false := bne_eq_false_iff_eq.mpr c21
        clear c21
        have c22b0 := eq_true (of_decide_eq_true (by first | (with_reducible assumption) | assumption) : 0 ≤ a2)
        by_cases c23 : a2 ≤ (l1.length : Int)
        ·rw [if_pos c23] at H
         have c23b0 := eq_true c23
         have c23b1 : decide (a2 ≤ (l1.length : Int)) = true := decide_eq_true c23
         clear c23
         obtain ⟨y330, hy330⟩ : ∃ y_ : List (S132), y_ = (l1.take (a2 : Int).toNat) := ⟨_, rfl⟩
         replace H : ((rule_waits.f kj4 y330 ((rd_T46 l0_1 a2).f4) a3).bind fun t335 => (some t335)) = some r := by first | (rw [hy330]; with_reducible exact H) | (have H2_ := (Option.bind_some _ _).symm.trans H; rw [hy330]; with_reducible exact H2_) | (have H2_ := (Option.bind_some _ _).symm.trans H; with_reducible exact H2_) | with_reducible exact H | (rw [hy330]; exact H) | exact H
         have Ny330 := Aside0.mk hy330
         clear hy330
         replace H := Option.bind_eq_some_iff.mp H
         obtain ⟨t335, A240, H⟩ := H
         replace H : (some t335) = some r := H
         have A24 := Aside0.mk A240
         clear A240
         obtain rfl := Option.some.inj H
         have hcz25_0 : wc.cell? ⟨gb325, 0, none⟩ = some (.int .i64 a0_0) := (blk_cell BK325.out 0).trans rfl
         have hcz25_1 : wc.cell? ⟨gb325, 1, none⟩ = some (.slice A0_1 l0_1.length c0_1) := (blk_cell BK325.out 1).trans rfl
         have hfz25_0 := blk_frozen BK325.out 0
         have hfz25_1 := blk_frozen BK325.out 1
         have p328 : 0 ≤ (a2 : Int) := of_decide_eq_true (by first | (with_reducible assumption) | assumption)
         have q328 : a2 < (l0_1.length : Int) := of_decide_eq_true (by first | (with_reducible assumption) | assumption)
         obtain ⟨ad328, A328_6, c328_6, e328, hx328_0, hx328_1, hx328_2, hx328_3, hx328_4, hx328_5, hx328_6, hx328_7, hx328_8, hl328_6, hi328_6⟩ := at_T46 HR0_1.out a2 p328 q328
         cases e328
         replace hx328_0 := (HB.out.cell (World.block_lt_of_cell? w _ hx328_0)).trans hx328_0
         replace hx328_1 := (HB.out.cell (World.block_lt_of_cell? w _ hx328_1)).trans hx328_1
         replace hx328_2 := (HB.out.cell (World.block_lt_of_cell? w _ hx328_2)).trans hx328_2
         replace hx328_3 := (HB.out.cell (World.block_lt_of_cell? w _ hx328_3)).trans hx328_3
         replace hx328_4 := (HB.out.cell (World.block_lt_of_cell? w _ hx328_4)).trans hx328_4
         replace hx328_5 := (HB.out.cell (World.block_lt_of_cell? w _ hx328_5)).trans hx328_5
         replace hx328_6 := (HB.out.cell (World.block_lt_of_cell? w _ hx328_6)).trans hx328_6
         replace hx328_7 := (HB.out.cell (World.block_lt_of_cell? w _ hx328_7)).trans hx328_7
         replace hx328_8 := (HB.out.cell (World.block_lt_of_cell? w _ hx328_8)).trans hx328_8
         have HR328_6 := Aside0.mk hi328_6
         have HC328_6 := Aside0.mk hl328_6
         clear hi328_6 hl328_6
         replace p328 := eq_true p328
         replace q328 := eq_true q328
         try go_wp2
         have n0_ := Aside0.mk (blk_drew BK325.out)
         have n1_ := Aside0.mk (below_drew1 HB.out)
         clear BK325
         clear HB
         have BK325 := n0_
         have HB := n1_
         clear n0_ n1_
         have q27 : (a2 : Int) ≤ ((l1.length : Int) : Int) := of_decide_eq_true (by first | (with_reducible assumption) | assumption)
         obtain ⟨i027, hi027, _, hsz27, _⟩ := info_parts info132
         have hroom27 : l1.length ≤ c1 := HC1.out
         have hC27 : Kd.C k132 _ A1 l1.length l1 := HR1.out
         have hcut27 := cut_to (P := Tryz.prog) 100 132 .i64 Tryz.underlying100 hi027 A1 l1.length c1 a2 (of_decide_eq_true (by first | (with_reducible assumption) | assumption)) q27 hroom27
         have hr27 := Kd.C_take (m := (a2 : Int).toNat) hC27 (by omega)
         have hy27 : y330.length = (a2 : Int).toNat := (by rw [Ny330.out, List.length_take]; omega)
         rw [← Ny330.out] at hr27
         rw [← hy27] at hcut27
         have HR333 := Aside0.mk hr27
         have HC333 := Aside0.mk (show y330.length ≤ c1 from by omega)
         clear hr27 hC27 hroom27 hi027 hsz27
         have KY27 := Aside0.mk hy27
         clear hy27
         replace q27 := eq_true q27
         have p334 : 0 ≤ (a2 : Int) := of_decide_eq_true (by first | (with_reducible assumption) | assumption)
         have q334 : a2 < (l0_1.length : Int) := of_decide_eq_true (by first | (with_reducible assumption) | assumption)
         obtain ⟨ad334, A334_6, c334_6, e334, hx334_0, hx334_1, hx334_2, hx334_3, hx334_4, hx334_5, hx334_6, hx334_7, hx334_8, hl334_6, hi334_6⟩ := at_T46 HR0_1.out a2 p334 q334
         have hw334_8 := hx334_8
         have hw334_7 := hx334_7
         have hw334_6 := hx334_6
         have hw334_5 := hx334_5
         have hw334_4 := hx334_4
         have hw334_3 := hx334_3
         have hw334_2 := hx334_2
         have hw334_1 := hx334_1
         have hw334_0 := hx334_0
         obtain rfl : ad328 = ad334 := (by injection e334)
         replace hx334_0 := (HB.out.cell (World.block_lt_of_cell? w _ hx334_0)).trans hx334_0
         replace hx334_1 := (HB.out.cell (World.block_lt_of_cell? w _ hx334_1)).trans hx334_1
         replace hx334_2 := (HB.out.cell (World.block_lt_of_cell? w _ hx334_2)).trans hx334_2
         replace hx334_3 := (HB.out.cell (World.block_lt_of_cell? w _ hx334_3)).trans hx334_3
         replace hx334_4 := (HB.out.cell (World.block_lt_of_cell? w _ hx334_4)).trans hx334_4
         replace hx334_5 := (HB.out.cell (World.block_lt_of_cell? w _ hx334_5)).trans hx334_5
         replace hx334_6 := (HB.out.cell (World.block_lt_of_cell? w _ hx334_6)).trans hx334_6
         replace hx334_7 := (HB.out.cell (World.block_lt_of_cell? w _ hx334_7)).trans hx334_7
         replace hx334_8 := (HB.out.cell (World.block_lt_of_cell? w _ hx334_8)).trans hx334_8
         have HR334_6 := Aside0.mk hi334_6
         have HC334_6 := Aside0.mk hl334_6
         clear hi334_6 hl334_6
         replace p334 := eq_true p334
         replace q334 := eq_true q334
         refine start_ (n := 12) (S := fun w' => w'.cell? ⟨gb325, 0, none⟩ = some (.int .i64 a0_0) ∧ w'.cell? ⟨gb325, 1, none⟩ = some (.slice (some ad328) l0_1.length c0_1) ∧ w'.cell? (ad328.add ((a2).toNat * 9)) = some (.string ((rd_T46 l0_1 a2).f0)) ∧ w'.cell? ⟨(ad328.add ((a2).toNat * 9)).block, (ad328.add ((a2).toNat * 9)).off + 1, none⟩ = some (.int .i64 ((rd_T46 l0_1 a2).f1)) ∧ w'.cell? ⟨(ad328.add ((a2).toNat * 9)).block, (ad328.add ((a2).toNat * 9)).off + 2, none⟩ = some (.int .i64 ((rd_T46 l0_1 a2).f2)) ∧ w'.cell? ⟨(ad328.add ((a2).toNat * 9)).block, (ad328.add ((a2).toNat * 9)).off + 3, none⟩ = some (.int .i64 ((rd_T46 l0_1 a2).f3)) ∧ w'.cell? ⟨(ad328.add ((a2).toNat * 9)).block, (ad328.add ((a2).toNat * 9)).off + 4, none⟩ = some (.int .i64 ((rd_T46 l0_1 a2).f4)) ∧ w'.cell? ⟨(ad328.add ((a2).toNat * 9)).block, (ad328.add ((a2).toNat * 9)).off + 5, none⟩ = some (.int .i64 ((rd_T46 l0_1 a2).f5)) ∧ w'.cell? ⟨(ad328.add ((a2).toNat * 9)).block, (ad328.add ((a2).toNat * 9)).off + 6, none⟩ = some (.slice A334_6 ((rd_T46 l0_1 a2).f6).length c334_6) ∧ w'.cell? ⟨(ad328.add ((a2).toNat * 9)).block, (ad328.add ((a2).toNat * 9)).off + 7, none⟩ = some (.int .u64 ((rd_T46 l0_1 a2).f7)) ∧ w'.cell? ⟨(ad328.add ((a2).toNat * 9)).block, (ad328.add ((a2).toNat * 9)).off + 8, none⟩ = some (.int .u64 ((rd_T46 l0_1 a2).f8))) (ds := []) #[false, false, false, false, false, false, false, false, false, false, false, false] (by kernel_rfl) rfl rfl ⟨(blk_cell BK325.out 0).trans rfl, (blk_cell BK325.out 1).trans rfl, ((HB.out.cell (World.block_lt_of_cell? w _ hw334_0)).trans hw334_0), ((HB.out.cell (World.block_lt_of_cell? w _ hw334_1)).trans hw334_1), ((HB.out.cell (World.block_lt_of_cell? w _ hw334_2)).trans hw334_2), ((HB.out.cell (World.block_lt_of_cell? w _ hw334_3)).trans hw334_3), ((HB.out.cell (World.block_lt_of_cell? w _ hw334_4)).trans hw334_4), ((HB.out.cell (World.block_lt_of_cell? w _ hw334_5)).trans hw334_5), ((HB.out.cell (World.block_lt_of_cell? w _ hw334_6)).trans hw334_6), ((HB.out.cell (World.block_lt_of_cell? w _ hw334_7)).trans hw334_7), ((HB.out.cell (World.block_lt_of_cell? w _ hw334_8)).trans hw334_8)⟩ (fun hHeld => ?_); refine with_tabW rule_Held.tab7 rule_Held.bits7 (fun HT_ HW_ => ?_)
         generalize wc.drew = w26 at BK325 HB HR333 HR334_6 hx334_0 hx334_1 hx334_2 hx334_3 hx334_4 hx334_5 hx334_6 hx334_7 hx334_8 hHeld ⊢
         refine pure_ (i := 0) (N := some 37) (v := ?_) (a' := ?_) #[true, false, false, false, false, false, false, false, false, false, false, false] rfl rfl (any_of HT_.out (by kernel_rfl)) (fun _ _ _ h => h) (Or.inl ⟨by rfl, ?_⟩) ?_ ?_
         rotate_left
         ·intro w'
          go_simp
          with_reducible rfl
         rotate_left
         ·simp only [Act.put, List.setIfInBounds_toArray, List.set_cons_zero, List.set_cons_succ, i64_w, i32_w]
          rfl
         refine pure_ (i := 1) (N := some 38) (v := ?_) (a' := ?_) #[true, true, false, false, false, false, false, false, false, false, false, false] rfl rfl (any_of HT_.out (by kernel_rfl)) (fun _ _ _ h => h) (Or.inl ⟨by rfl, ?_⟩) ?_ ?_
         rotate_left
         ·intro w'
          go_simp
          with_reducible rfl
         rotate_left
         ·simp only [Act.put, List.setIfInBounds_toArray, List.set_cons_zero, List.set_cons_succ, i64_w, i32_w]
          rfl
         refine pure_ (i := 2) (N := some 39) (v := ?_) (a' := ?_) #[true, true, true, false, false, false, false, false, false, false, false, false] rfl rfl (any_of HT_.out (by kernel_rfl)) (fun _ _ _ h => h) (Or.inl ⟨by rfl, ?_⟩) ?_ ?_
         rotate_left
         ·intro w'
          go_simp
          with_reducible rfl
         rotate_left
         ·simp only [Act.put, List.setIfInBounds_toArray, List.set_cons_zero, List.set_cons_succ, i64_w, i32_w]
          rfl
         refine pure_ (i := 3) (N := some 40) (v := ?_) (a' := ?_) #[true, true, true, true, false, false, false, false, false, false, false, false] rfl rfl (any_of HT_.out (by kernel_rfl)) (fun _ _ _ h => h) (Or.inl ⟨by rfl, ?_⟩) ?_ ?_
         rotate_left
         ·intro w'
          go_simp
          with_reducible rfl
         rotate_left
         ·simp only [Act.put, List.setIfInBounds_toArray, List.set_cons_zero, List.set_cons_succ, i64_w, i32_w]
          rfl
         refine pure_ (i := 5) (N := some 42) (v := ?_) (a' := ?_) #[true, true, true, true, false, true, false, false, false, false, false, false] rfl rfl (any_of HT_.out (by kernel_rfl)) (fun _ _ _ h => h) (Or.inl ⟨by rfl, ?_⟩) ?_ ?_
         rotate_left
         ·intro w'
          go_simp
          with_reducible rfl
         rotate_left
         ·simp only [Act.put, List.setIfInBounds_toArray, List.set_cons_zero, List.set_cons_succ, i64_w, i32_w]
          rfl
         refine pure_ (i := 9) (N := some 46) (v := ?_) (a' := ?_) #[true, true, true, true, false, true, false, false, false, true, false, false] rfl rfl (any_of HT_.out (by kernel_rfl)) (fun _ _ _ h => h) (Or.inl ⟨by rfl, ?_⟩) ?_ ?_
         rotate_left
         ·intro w'
          go_simp
          with_reducible rfl
         rotate_left
         ·simp only [Act.put, List.setIfInBounds_toArray, List.set_cons_zero, List.set_cons_succ, i64_w, i32_w]
          rfl
         refine take_ (i := 4) (N := some 41) (v := ?_) (a' := ?_) #[true, true, true, true, true, true, false, false, false, true, false, false] rfl rfl (take_ofW HT_.out HW_.out (by kernel_rfl)) (fun _ _ _ h => h) (Or.inl ⟨by rfl, ?_⟩) hHeld ?_ ?_
         rotate_left
         ·rintro w' ⟨s0, s1, s2, s3, s4, s5, s6, s7, s8, s9, s10⟩
          go_simp
          with_reducible rfl
         rotate_left
         ·simp only [Act.put, List.setIfInBounds_toArray, List.set_cons_zero, List.set_cons_succ, i64_w, i32_w]
          rfl
         refine pure_ (i := 6) (N := some 43) (v := ?_) (a' := ?_) #[true, true, true, true, true, true, true, false, false, true, false, false] rfl rfl (any_of HT_.out (by kernel_rfl)) (fun _ _ _ h => h) (Or.inl ⟨by rfl, ?_⟩) ?_ ?_
         rotate_left
         ·intro w'
          go_simp
          with_reducible rfl
         rotate_left
         ·simp only [Act.put, List.setIfInBounds_toArray, List.set_cons_zero, List.set_cons_succ, i64_w, i32_w]
          rfl
         refine pure_ (i := 7) (N := some 44) (v := ?_) (a' := ?_) #[true, true, true, true, true, true, true, true, false, true, false, false] rfl rfl (any_of HT_.out (by kernel_rfl)) (fun _ _ _ h => h) (Or.inl ⟨by rfl, ?_⟩) ?_ ?_
         rotate_left
         ·intro w'
          go_simp
          with_reducible rfl
         rotate_left
         ·simp only [Act.put, List.setIfInBounds_toArray, List.set_cons_zero, List.set_cons_succ, i64_w, i32_w]
          rfl
         refine take_ (i := 8) (N := some 45) (v := ?_) (a' := ?_) #[true, true, true, true, true, true, true, true, true, true, false, false] rfl rfl (take_ofW HT_.out HW_.out (by kernel_rfl)) (fun _ _ _ h => h) (Or.inl ⟨by rfl, ?_⟩) hHeld ?_ ?_
         rotate_left
         ·rintro w' ⟨s0, s1, s2, s3, s4, s5, s6, s7, s8, s9, s10⟩
          go_simp
          with_reducible rfl
         rotate_left
         ·simp only [Act.put, List.setIfInBounds_toArray, List.set_cons_zero, List.set_cons_succ, i64_w, i32_w]
          rfl
         refine one_ (i := 10) (N := some 47) #[true, true, true, true, true, true, true, true, true, true, true, false] rfl rfl (one_of HT_.out (by kernel_rfl)) (by decide) (fun K hK => ?_)
         refine goes_ Tryz.func128 (by kernel_rfl) rfl #[.slice A1 y330.length c1, .int .i64 ((rd_T46 l0_1 a2).f4), .int .i64 a3] (by rfl) rfl rfl (by (try simp only [List.map_toArray, List.map_cons, List.map_nil]); first | done | rfl | (simp only [List.length_drop, List.length_take]; rfl)) ?_
         with_reducible refine (rule_waits.calls kj4 _ _ y330 ((rd_T46 l0_1 a2).f4) a3 t335 _ ?side1 ?side2 A24.out).mono ?_
         (case side1 => repeat (first | exact (Kd.C_below HR333.out HB.out) | (with_reducible refine Kd.C_alloc ?_ _) | (with_reducible refine Kd.C_drewN ?_ _) | (with_reducible refine Kd.C_drew ?_)))
         (case side2 => exact HC333.out)
         rintro e w28 ⟨rfl, hb⟩
         refine ⟨_, rfl, ?_⟩
         have n0_ := Aside0.mk (blk_below (g := gb325) (o := .cells #[.int .i64 a0_0, .slice (some ad328) l0_1.length c0_1] 24 (0, 0)) (by (with_reducible repeat (first | refine blk_drewN ?_ _ | refine blk_drew ?_ | refine blk_alloc ?_ _)); exact BK325.out) hb)
         have n1_ := Aside0.mk (below_step (by repeat (first | (with_reducible first | exact HB.out | apply below_alloc | apply pw_below_drewN | apply below_drew1 | refine below_set ?_ GE325.out) | exact HB.out)) hb)
         clear BK325
         clear HB
         have BK325 := n0_
         have HB := n1_
         clear n0_ n1_
         (try clear hb)
         (try clear hb2)
         (try clear hk)
         (try clear hi)
         refine hK.out _ _ ⟨(blk_cell BK325.out 0).trans rfl, (blk_cell BK325.out 1).trans rfl, ((HB.out.cell (World.block_lt_of_cell? w _ hw334_0)).trans hw334_0), ((HB.out.cell (World.block_lt_of_cell? w _ hw334_1)).trans hw334_1), ((HB.out.cell (World.block_lt_of_cell? w _ hw334_2)).trans hw334_2), ((HB.out.cell (World.block_lt_of_cell? w _ hw334_3)).trans hw334_3), ((HB.out.cell (World.block_lt_of_cell? w _ hw334_4)).trans hw334_4), ((HB.out.cell (World.block_lt_of_cell? w _ hw334_5)).trans hw334_5), ((HB.out.cell (World.block_lt_of_cell? w _ hw334_6)).trans hw334_6), ((HB.out.cell (World.block_lt_of_cell? w _ hw334_7)).trans hw334_7), ((HB.out.cell (World.block_lt_of_cell? w _ hw334_8)).trans hw334_8)⟩ (fun hHeld => ?_)
         clear hK K
         refine norm_ (a' := ?_) ?_ ?_
         rotate_left
         ·show Act.put _ (some 47) _ = _
          simp only [Act.put, List.setIfInBounds_toArray, List.set_cons_zero, List.set_cons_succ, i64_w, i32_w]
          rfl
         refine pure_ (i := 11) (N := some 8) (v := ?_) (a' := ?_) #[true, true, true, true, true, true, true, true, true, true, true, true] rfl rfl (any_of HT_.out (by kernel_rfl)) (fun _ _ _ h => h) (Or.inl ⟨by rfl, ?_⟩) ?_ ?_
         rotate_left
         ·intro w'
          go_simp
          with_reducible rfl
         rotate_left
         ·simp only [Act.put, List.setIfInBounds_toArray, List.set_cons_zero, List.set_cons_succ, i64_w, i32_w]
          rfl
         refine done_ (done_of HT_.out (by kernel_rfl)) ?_
         try go_wp2
         go_ret
         exact ⟨by first | rfl | (simp [errW_none, errW_some] <;> rfl) | (simp [*, errW_none, errW_some] <;> rfl), by repeat (first | (with_reducible first | exact HB.out | apply below_alloc | apply pw_below_drewN | apply below_drew1 | refine below_set ?_ GE325.out) | exact HB.out)⟩
        ·rw [if_neg c23] at H
         exact absurd H (by simp)
       ·rw [if_neg c21] at H
        have c21b0 : (((rd_T46 l0_1 a2).f3) == 1) = false := beq_eq_false_iff_ne.mpr c21
        have c21b1 : (((rd_T46 l0_1 a2).f3) != 1) = true := bne_iff_ne.mpr c21
        obtain rfl := Option.some.inj H
        have hcz29_0 : wc.cell? ⟨gb325, 0, none⟩ = some (.int .i64 a0_0) := (blk_cell BK325.out 0).trans rfl
        have hcz29_1 : wc.cell? ⟨gb325, 1, none⟩ = some (.slice A0_1 l0_1.length c0_1) := (blk_cell BK325.out 1).trans rfl
        have hfz29_0 := blk_frozen BK325.out 0
        have hfz29_1 := blk_frozen BK325.out 1
        have p328 : 0 ≤ (a2 : Int) := of_decide_eq_true (by first | (with_reducible assumption) | assumption)
        have q328 : a2 < (l0_1.length : Int) := of_decide_eq_true (by first | (with_reducible assumption) | assumption)
        obtain ⟨ad328, A328_6, c328_6, e328, hx328_0, hx328_1, hx328_2, hx328_3, hx328_4, hx328_5, hx328_6, hx328_7, hx328_8, hl328_6, hi328_6⟩ := at_T46 HR0_1.out a2 p328 q328
        cases e328
        replace hx328_0 := (HB.out.cell (World.block_lt_of_cell? w _ hx328_0)).trans hx328_0
        replace hx328_1 := (HB.out.cell (World.block_lt_of_cell? w _ hx328_1)).trans hx328_1
        replace hx328_2 := (HB.out.cell (World.block_lt_of_cell? w _ hx328_2)).trans hx328_2
        replace hx328_3 := (HB.out.cell (World.block_lt_of_cell? w _ hx328_3)).trans hx328_3
        replace hx328_4 := (HB.out.cell (World.block_lt_of_cell? w _ hx328_4)).trans hx328_4
        replace hx328_5 := (HB.out.cell (World.block_lt_of_cell? w _ hx328_5)).trans hx328_5
        replace hx328_6 := (HB.out.cell (World.block_lt_of_cell? w _ hx328_6)).trans hx328_6
        replace hx328_7 := (HB.out.cell (World.block_lt_of_cell? w _ hx328_7)).trans hx328_7
        replace hx328_8 := (HB.out.cell (World.block_lt_of_cell? w _ hx328_8)).trans hx328_8
        have HR328_6 := Aside0.mk hi328_6
        have HC328_6 := Aside0.mk hl328_6
        clear hi328_6 hl328_6
        replace p328 := eq_true p328
        replace q328 := eq_true q328
        go_wp2
        go_ret
        exact ⟨by first | rfl | (simp [errW_none, errW_some] <;> rfl) | (simp [*, errW_none, errW_some] <;> rfl), by repeat (first | (with_reducible first | exact HB.out | apply below_alloc | apply pw_below_drewN | apply below_drew1 | refine below_set ?_ GE325.out) | exact HB.out)⟩
     ·rw [if_neg c17] at H
      exact absurd H (by simp)
    ·rw [if_neg c16] at H
     exact absurd H (by simp)
def rule_Rank.f (a0_0 : Int) (l0_1 : List (S46)) (l1 : List (S132)) (a2 : Int) : Option (Int) := (rule_is.f a0_0 l0_1 l1 a2).bind fun t337 => (if t337 = true then (if 0 ≤ a2 then (if a2 < (l0_1.length : Int) then (if ((rd_T46 l0_1 a2).f3) = 2 then (if a2 < (l1.length : Int) then (if (rd_T132 l1 a2).f1 = true then (some ((rd_T46 l0_1 a2).f5)) else (some a2)) else (none)) else (some a2)) else (none)) else (none)) else (some (-1)))
set_option maxHeartbeats 8000000 in
set_option maxRecDepth 100000 in
theorem rule_Rank.calls (a0_0 : Int) (A0_1 : Option Addr) (c0_1 : Nat) (l0_1 : List (S46)) (A1 : Option Addr) (c1 : Nat) (l1 : List (S132)) (a2 : Int) (r : Int) (w : World) (hr0_1 : Kd.C k46 w A0_1 l0_1.length l0_1) (hc0_1 : l0_1.length ≤ c0_1) (hr1 : Kd.C k132 w A1 l1.length l1) (hc1 : l1.length ≤ c1) (h : rule_Rank.f a0_0 l0_1 l1 a2 = some r) :
  Calls Tryz.prog 87 #[.agg #[.int .i64 a0_0, .slice A0_1 l0_1.length c0_1], .slice A1 l1.length c1, .int .i64 a2] w fun e w' => e = .returned (.int .i64 r) ∧ Below w.heap.size w w' := by
 have hu24 := Tryz.underlying24
 have HR0_1 := Aside0.mk hr0_1
 have HC0_1 := Aside0.mk hc0_1
 clear hr0_1 hc0_1
 have HR1 := Aside0.mk hr1
 have HC1 := Aside0.mk hc1
 clear hr1 hc1
 have HB := Aside0.mk (Below.refl w.heap.size w)
 have H : ((rule_is.f a0_0 l0_1 l1 a2).bind fun t337 => (if t337 = true then (if 0 ≤ a2 then (if a2 < (l0_1.length : Int) then (if ((rd_T46 l0_1 a2).f3) = 2 then (if a2 < (l1.length : Int) then (if (rd_T132 l1 a2).f1 = true then (some ((rd_T46 l0_1 a2).f5)) else (some a2)) else (none)) else (some a2)) else (none)) else (none)) else (some (-1)))) = some r := h
 clear h
 replace H := Option.bind_eq_some_iff.mp H
 obtain ⟨t337, A40, H⟩ := H
 replace H : (if t337 = true then (if 0 ≤ a2 then (if a2 < (l0_1.length : Int) then (if ((rd_T46 l0_1 a2).f3) = 2 then (if a2 < (l1.length : Int) then (if (rd_T132 l1 a2).f1 = true then (some ((rd_T46 l0_1 a2).f5)) else (some a2)) else (none)) else (some a2)) else (none)) else (none)) else (some (-1))) = some r := H
 have A4 := Aside0.mk A40
 clear A40
 by_cases c5 : t337 = true
 ·subst c5
  have H1 : (if 0 ≤ a2 then (if a2 < (l0_1.length : Int) then (if ((rd_T46 l0_1 a2).f3) = 2 then (if a2 < (l1.length : Int) then (if (rd_T132 l1 a2).f1 = true then (some ((rd_T46 l0_1 a2).f5)) else (some a2)) else (none)) else (some a2)) else (none)) else (none)) = some r := by rw [if_pos rfl] at H; exact H
  clear H
  have H := H1
  clear H1
  by_cases c6 : 0 ≤ a2
  ·rw [if_pos c6] at H
   have c6b0 : decide (0 ≤ a2) = true := decide_eq_true c6
   clear c6
   by_cases c7 : a2 < (l0_1.length : Int)
   ·rw [if_pos c7] at H
    have c7b0 : decide (a2 < (l0_1.length : Int)) = true := decide_eq_true c7
    clear c7
    by_cases c8 : ((rd_T46 l0_1 a2).f3) = 2
    ·rw [if_pos c8] at H
     have c8b0 : (((rd_T46 l0_1 a2).f3) == 2) = true := beq_iff_eq.mpr c8
     have c8b1 : (((rd_T46 l0_1 a2).f3) != 2) = false := bne_eq_false_iff_eq.mpr c8
     clear c8
     by_cases c9 : a2 < (l1.length : Int)
     ·rw [if_pos c9] at H
      have c9b0 : decide (a2 < (l1.length : Int)) = true := decide_eq_true c9
      clear c9
      obtain ⟨bq10, hbq10⟩ : ∃ b_ : Bool, b_ = ((rd_T132 l1 a2).f1) := ⟨_, rfl⟩
      replace H : (if bq10 = true then (some ((rd_T46 l0_1 a2).f5)) else (some a2)) = some r := by rw [← hbq10] at H; exact H
      have Nbq10 := Aside0.mk hbq10
      clear hbq10
      by_cases c11 : bq10 = true
      ·subst c11
       have H1 : (some ((rd_T46 l0_1 a2).f5)) = some r := by rw [if_pos rfl] at H; exact H
       clear H
       have H := H1
       clear H1
       obtain rfl := Option.some.inj H
       go_enter Tryz.func87, Tryz.ntmps87
       go_wp2_with (first | ((with_reducible refine gate_dst (N := 3) rfl ?_); refine box_event ?hg (N := 3) ?hd (cs := #[.int .i64 a0_0, .slice A0_1 l0_1.length c0_1]) (t := 24) ?hr ?_; (case hd => rfl); (case hg => rfl); (case hr => first | (go_simp; done) | (go_simp; rfl)); intro gb336 hg w12 hbox hb; have n0_ := Aside0.mk (below_step (by repeat (first | (with_reducible first | exact HB.out | apply below_alloc | apply pw_below_drewN | apply below_drew1) | exact HB.out)) hb); have n1_ := Aside0.mk (hbox); have n2_ := Aside0.mk ((by rw [hg]; exact (below_size (by repeat (first | (with_reducible first | exact HB.out | apply below_alloc | apply pw_below_drewN | apply below_drew1) | exact HB.out))) : w.heap.size ≤ gb336)); have n3_ := Aside0.mk ((by rw [hg]; exact (below_size (by repeat (first | (with_reducible first | exact HB.out | apply below_alloc | apply pw_below_drewN | apply below_drew1) | exact HB.out))) : w.heap.size ≤ gb336)); clear HB; have HB := n0_; have BK336 := n1_; have GW336 := n2_; have GE336 := n3_; clear n0_ n1_ n2_ n3_; clear hb hbox hg; have hcz13_0 : w12.cell? ⟨gb336, 0, none⟩ = some (.int .i64 a0_0) := (blk_cell BK336.out 0).trans rfl; have hcz13_1 : w12.cell? ⟨gb336, 1, none⟩ = some (.slice A0_1 l0_1.length c0_1) := (blk_cell BK336.out 1).trans rfl; have hfz13_0 := blk_frozen BK336.out 0; have hfz13_1 := blk_frozen BK336.out 1) | ((with_reducible refine gate_callee (f := 86) rfl ?_); refine goesL_ (some 11) rfl rfl Tryz.func86 (by kernel_rfl) rfl #[.agg #[.int .i64 a0_0, .slice A0_1 l0_1.length c0_1], .slice A1 l1.length c1, .int .i64 a2] rfl (by (try simp only [List.map_toArray, List.map_cons, List.map_nil]); first | done | rfl | (simp only [List.length_drop, List.length_take]; rfl)) ?_; (with_reducible refine (rule_is.calls a0_0 _ _ l0_1 _ _ l1 a2 true _ ?side1 ?side2 ?side3 ?side4 A4.out).mono ?_); (case side1 => repeat (first | exact (Kd.C_below HR0_1.out HB.out) | (with_reducible refine Kd.C_alloc ?_ _) | (with_reducible refine Kd.C_drewN ?_ _) | (with_reducible refine Kd.C_drew ?_))); (case side2 => exact HC0_1.out); (case side3 => repeat (first | exact (Kd.C_below HR1.out HB.out) | (with_reducible refine Kd.C_alloc ?_ _) | (with_reducible refine Kd.C_drewN ?_ _) | (with_reducible refine Kd.C_drew ?_))); (case side4 => exact HC1.out); rintro e w14 ⟨rfl, hb⟩; refine ⟨_, rfl, ?_⟩; have n0_ := Aside0.mk (blk_below (g := gb336) (o := .cells #[.int .i64 a0_0, .slice A0_1 l0_1.length c0_1] 24 (0, 0)) (by (with_reducible repeat (first | refine blk_drewN ?_ _ | refine blk_drew ?_ | refine blk_alloc ?_ _)); exact BK336.out) hb); have n1_ := Aside0.mk (below_step (by repeat (first | (with_reducible first | exact HB.out | apply below_alloc | apply pw_below_drewN | apply below_drew1 | refine below_set ?_ GE336.out) | exact HB.out)) hb); clear BK336; clear HB; have BK336 := n0_; have HB := n1_; clear n0_ n1_; (try clear hb); (try clear hb2); (try clear hk); (try clear hi); have hcz15_0 : w14.cell? ⟨gb336, 0, none⟩ = some (.int .i64 a0_0) := (blk_cell BK336.out 0).trans rfl; have hcz15_1 : w14.cell? ⟨gb336, 1, none⟩ = some (.slice A0_1 l0_1.length c0_1) := (blk_cell BK336.out 1).trans rfl; have hfz15_0 := blk_frozen BK336.out 0; have hfz15_1 := blk_frozen BK336.out 1; have p338 : 0 ≤ (a2 : Int) := of_decide_eq_true (by first | (with_reducible assumption) | assumption); have q338 : a2 < (l0_1.length : Int) := of_decide_eq_true (by first | (with_reducible assumption) | assumption); obtain ⟨ad338, A338_6, c338_6, e338, hx338_0, hx338_1, hx338_2, hx338_3, hx338_4, hx338_5, hx338_6, hx338_7, hx338_8, hl338_6, hi338_6⟩ := at_T46 HR0_1.out a2 p338 q338; cases e338; replace hx338_0 := (HB.out.cell (World.block_lt_of_cell? w _ hx338_0)).trans hx338_0; replace hx338_1 := (HB.out.cell (World.block_lt_of_cell? w _ hx338_1)).trans hx338_1; replace hx338_2 := (HB.out.cell (World.block_lt_of_cell? w _ hx338_2)).trans hx338_2; replace hx338_3 := (HB.out.cell (World.block_lt_of_cell? w _ hx338_3)).trans hx338_3; replace hx338_4 := (HB.out.cell (World.block_lt_of_cell? w _ hx338_4)).trans hx338_4; replace hx338_5 := (HB.out.cell (World.block_lt_of_cell? w _ hx338_5)).trans hx338_5; replace hx338_6 := (HB.out.cell (World.block_lt_of_cell? w _ hx338_6)).trans hx338_6; replace hx338_7 := (HB.out.cell (World.block_lt_of_cell? w _ hx338_7)).trans hx338_7; replace hx338_8 := (HB.out.cell (World.block_lt_of_cell? w _ hx338_8)).trans hx338_8; have HR338_6 := Aside0.mk hi338_6; have HC338_6 := Aside0.mk hl338_6; clear hi338_6 hl338_6; replace p338 := eq_true p338; replace q338 := eq_true q338; have p339 : 0 ≤ (a2 : Int) := of_decide_eq_true (by first | (with_reducible assumption) | assumption); have q339 : a2 < (l1.length : Int) := of_decide_eq_true (by first | (with_reducible assumption) | assumption); obtain ⟨ad339, e339, hx339_0, hx339_1, hx339_2, hx339_3⟩ := at_T132 HR1.out a2 p339 q339; (try rw [← Nbq10.out] at hx339_0); (try rw [← Nbq10.out] at hx339_1); (try rw [← Nbq10.out] at hx339_2); cases e339; replace hx339_0 := (HB.out.cell (World.block_lt_of_cell? w _ hx339_0)).trans hx339_0; replace hx339_1 := (HB.out.cell (World.block_lt_of_cell? w _ hx339_1)).trans hx339_1; replace hx339_2 := (HB.out.cell (World.block_lt_of_cell? w _ hx339_2)).trans hx339_2; replace hx339_3 := (HB.out.cell (World.block_lt_of_cell? w _ hx339_3)).trans hx339_3; replace p339 := eq_true p339; replace q339 := eq_true q339; have p340 : 0 ≤ (a2 : Int) := of_decide_eq_true (by first | (with_reducible assumption) | assumption); have q340 : a2 < (l0_1.length : Int) := of_decide_eq_true (by first | (with_reducible assumption) | assumption); obtain ⟨ad340, A340_6, c340_6, e340, hx340_0, hx340_1, hx340_2, hx340_3, hx340_4, hx340_5, hx340_6, hx340_7, hx340_8, hl340_6, hi340_6⟩ := at_T46 HR0_1.out a2 p340 q340; obtain rfl : ad338 = ad340 := (by injection e340); replace hx340_0 := (HB.out.cell (World.block_lt_of_cell? w _ hx340_0)).trans hx340_0; replace hx340_1 := (HB.out.cell (World.block_lt_of_cell? w _ hx340_1)).trans hx340_1; replace hx340_2 := (HB.out.cell (World.block_lt_of_cell? w _ hx340_2)).trans hx340_2; replace hx340_3 := (HB.out.cell (World.block_lt_of_cell? w _ hx340_3)).trans hx340_3; replace hx340_4 := (HB.out.cell (World.block_lt_of_cell? w _ hx340_4)).trans hx340_4; replace hx340_5 := (HB.out.cell (World.block_lt_of_cell? w _ hx340_5)).trans hx340_5; replace hx340_6 := (HB.out.cell (World.block_lt_of_cell? w _ hx340_6)).trans hx340_6; replace hx340_7 := (HB.out.cell (World.block_lt_of_cell? w _ hx340_7)).trans hx340_7; replace hx340_8 := (HB.out.cell (World.block_lt_of_cell? w _ hx340_8)).trans hx340_8; have HR340_6 := Aside0.mk hi340_6; have HC340_6 := Aside0.mk hl340_6; clear hi340_6 hl340_6; replace p340 := eq_true p340; replace q340 := eq_true q340; have ea_ := Option.some.inj (hx338_6.symm.trans hx340_6); injection ea_ with ea_ en_ ec_; subst ea_; subst ec_; clear en_))
       go_ret
       exact ⟨by first | rfl | (simp [errW_none, errW_some] <;> rfl) | (simp [*, errW_none, errW_some] <;> rfl), by repeat (first | (with_reducible first | exact HB.out | apply below_alloc | apply pw_below_drewN | apply below_drew1 | refine below_set ?_ GE336.out) | exact HB.out)⟩
      ·replace c11 := Bool.eq_false_iff.mpr c11
       subst c11
       have H1 : (some a2) = some r := by rw [if_neg (show ¬ (false = true) by decide)] at H; exact H
       clear H
       have H := H1
       clear H1
       obtain rfl := Option.some.inj H
       go_enter Tryz.func87, Tryz.ntmps87
       go_wp2_with (first | ((with_reducible refine gate_dst (N := 3) rfl ?_); refine box_event ?hg (N := 3) ?hd (cs := #[.int .i64 a0_0, .slice A0_1 l0_1.length c0_1]) (t := 24) ?hr ?_; (case hd => rfl); (case hg => rfl); (case hr => first | (go_simp; done) | (go_simp; rfl)); intro gb336 hg w16 hbox hb; have n0_ := Aside0.mk (below_step (by repeat (first | (with_reducible first | exact HB.out | apply below_alloc | apply pw_below_drewN | apply below_drew1) | exact HB.out)) hb); have n1_ := Aside0.mk (hbox); have n2_ := Aside0.mk ((by rw [hg]; exact (below_size (by repeat (first | (with_reducible first | exact HB.out | apply below_alloc | apply pw_below_drewN | apply below_drew1) | exact HB.out))) : w.heap.size ≤ gb336)); have n3_ := Aside0.mk ((by rw [hg]; exact (below_size (by repeat (first | (with_reducible first | exact HB.out | apply below_alloc | apply pw_below_drewN | apply below_drew1) | exact HB.out))) : w.heap.size ≤ gb336)); clear HB; have HB := n0_; have BK336 := n1_; have GW336 := n2_; have GE336 := n3_; clear n0_ n1_ n2_ n3_; clear hb hbox hg; have hcz17_0 : w16.cell? ⟨gb336, 0, none⟩ = some (.int .i64 a0_0) := (blk_cell BK336.out 0).trans rfl; have hcz17_1 : w16.cell? ⟨gb336, 1, none⟩ = some (.slice A0_1 l0_1.length c0_1) := (blk_cell BK336.out 1).trans rfl; have hfz17_0 := blk_frozen BK336.out 0; have hfz17_1 := blk_frozen BK336.out 1) | ((with_reducible refine gate_callee (f := 86) rfl ?_); refine goesL_ (some 11) rfl rfl Tryz.func86 (by kernel_rfl) rfl #[.agg #[.int .i64 a0_0, .slice A0_1 l0_1.length c0_1], .slice A1 l1.length c1, .int .i64 a2] rfl (by (try simp only [List.map_toArray, List.map_cons, List.map_nil]); first | done | rfl | (simp only [List.length_drop, List.length_take]; rfl)) ?_; (with_reducible refine (rule_is.calls a0_0 _ _ l0_1 _ _ l1 a2 true _ ?side1 ?side2 ?side3 ?side4 A4.out).mono ?_); (case side1 => repeat (first | exact (Kd.C_below HR0_1.out HB.out) | (with_reducible refine Kd.C_alloc ?_ _) | (with_reducible refine Kd.C_drewN ?_ _) | (with_reducible refine Kd.C_drew ?_))); (case side2 => exact HC0_1.out); (case side3 => repeat (first | exact (Kd.C_below HR1.out HB.out) | (with_reducible refine Kd.C_alloc ?_ _) | (with_reducible refine Kd.C_drewN ?_ _) | (with_reducible refine Kd.C_drew ?_))); (case side4 => exact HC1.out); rintro e w18 ⟨rfl, hb⟩; refine ⟨_, rfl, ?_⟩; have n0_ := Aside0.mk (blk_below (g := gb336) (o := .cells #[.int .i64 a0_0, .slice A0_1 l0_1.length c0_1] 24 (0, 0)) (by (with_reducible repeat (first | refine blk_drewN ?_ _ | refine blk_drew ?_ | refine blk_alloc ?_ _)); exact BK336.out) hb); have n1_ := Aside0.mk (below_step (by repeat (first | (with_reducible first | exact HB.out | apply below_alloc | apply pw_below_drewN | apply below_drew1 | refine below_set ?_ GE336.out) | exact HB.out)) hb); clear BK336; clear HB; have BK336 := n0_; have HB := n1_; clear n0_ n1_; (try clear hb); (try clear hb2); (try clear hk); (try clear hi); have hcz19_0 : w18.cell? ⟨gb336, 0, none⟩ = some (.int .i64 a0_0) := (blk_cell BK336.out 0).trans rfl; have hcz19_1 : w18.cell? ⟨gb336, 1, none⟩ = some (.slice A0_1 l0_1.length c0_1) := (blk_cell BK336.out 1).trans rfl; have hfz19_0 := blk_frozen BK336.out 0; have hfz19_1 := blk_frozen BK336.out 1; have p338 : 0 ≤ (a2 : Int) := of_decide_eq_true (by first | (with_reducible assumption) | assumption); have q338 : a2 < (l0_1.length : Int) := of_decide_eq_true (by first | (with_reducible assumption) | assumption); obtain ⟨ad338, A338_6, c338_6, e338, hx338_0, hx338_1, hx338_2, hx338_3, hx338_4, hx338_5, hx338_6, hx338_7, hx338_8, hl338_6, hi338_6⟩ := at_T46 HR0_1.out a2 p338 q338; cases e338; replace hx338_0 := (HB.out.cell (World.block_lt_of_cell? w _ hx338_0)).trans hx338_0; replace hx338_1 := (HB.out.cell (World.block_lt_of_cell? w _ hx338_1)).trans hx338_1; replace hx338_2 := (HB.out.cell (World.block_lt_of_cell? w _ hx338_2)).trans hx338_2; replace hx338_3 := (HB.out.cell (World.block_lt_of_cell? w _ hx338_3)).trans hx338_3; replace hx338_4 := (HB.out.cell (World.block_lt_of_cell? w _ hx338_4)).trans hx338_4; replace hx338_5 := (HB.out.cell (World.block_lt_of_cell? w _ hx338_5)).trans hx338_5; replace hx338_6 := (HB.out.cell (World.block_lt_of_cell? w _ hx338_6)).trans hx338_6; replace hx338_7 := (HB.out.cell (World.block_lt_of_cell? w _ hx338_7)).trans hx338_7; replace hx338_8 := (HB.out.cell (World.block_lt_of_cell? w _ hx338_8)).trans hx338_8; have HR338_6 := Aside0.mk hi338_6; have HC338_6 := Aside0.mk hl338_6; clear hi338_6 hl338_6; replace p338 := eq_true p338; replace q338 := eq_true q338; have p339 : 0 ≤ (a2 : Int) := of_decide_eq_true (by first | (with_reducible assumption) | assumption); have q339 : a2 < (l1.length : Int) := of_decide_eq_true (by first | (with_reducible assumption) | assumption); obtain ⟨ad339, e339, hx339_0, hx339_1, hx339_2, hx339_3⟩ := at_T132 HR1.out a2 p339 q339; (try rw [← Nbq10.out] at hx339_0); (try rw [← Nbq10.out] at hx339_1); (try rw [← Nbq10.out] at hx339_2); cases e339; replace hx339_0 := (HB.out.cell (World.block_lt_of_cell? w _ hx339_0)).trans hx339_0; replace hx339_1 := (HB.out.cell (World.block_lt_of_cell? w _ hx339_1)).trans hx339_1; replace hx339_2 := (HB.out.cell (World.block_lt_of_cell? w _ hx339_2)).trans hx339_2; replace hx339_3 := (HB.out.cell (World.block_lt_of_cell? w _ hx339_3)).trans hx339_3; replace p339 := eq_true p339; replace q339 := eq_true q339))
       go_ret
       exact ⟨by first | rfl | (simp [errW_none, errW_some] <;> rfl) | (simp [*, errW_none, errW_some] <;> rfl), by repeat (first | (with_reducible first | exact HB.out | apply below_alloc | apply pw_below_drewN | apply below_drew1 | refine below_set ?_ GE336.out) | exact HB.out)⟩
     ·rw [if_neg c9] at H
      exact absurd H (by simp)
    ·rw [if_neg c8] at H
     have c8b0 : (((rd_T46 l0_1 a2).f3) == 2) = false := beq_eq_false_iff_ne.mpr c8
     have c8b1 : (((rd_T46 l0_1 a2).f3) != 2) = true := bne_iff_ne.mpr c8
     obtain rfl := Option.some.inj H
     go_enter Tryz.func87, Tryz.ntmps87
     go_wp2_with (first | ((with_reducible refine gate_dst (N := 3) rfl ?_); refine box_event ?hg (N := 3) ?hd (cs := #[.int .i64 a0_0, .slice A0_1 l0_1.length c0_1]) (t := 24) ?hr ?_; (case hd => rfl); (case hg => rfl); (case hr => first | (go_simp; done) | (go_simp; rfl)); intro gb336 hg w20 hbox hb; have n0_ := Aside0.mk (below_step (by repeat (first | (with_reducible first | exact HB.out | apply below_alloc | apply pw_below_drewN | apply below_drew1) | exact HB.out)) hb); have n1_ := Aside0.mk (hbox); have n2_ := Aside0.mk ((by rw [hg]; exact (below_size (by repeat (first | (with_reducible first | exact HB.out | apply below_alloc | apply pw_below_drewN | apply below_drew1) | exact HB.out))) : w.heap.size ≤ gb336)); have n3_ := Aside0.mk ((by rw [hg]; exact (below_size (by repeat (first | (with_reducible first | exact HB.out | apply below_alloc | apply pw_below_drewN | apply below_drew1) | exact HB.out))) : w.heap.size ≤ gb336)); clear HB; have HB := n0_; have BK336 := n1_; have GW336 := n2_; have GE336 := n3_; clear n0_ n1_ n2_ n3_; clear hb hbox hg; have hcz21_0 : w20.cell? ⟨gb336, 0, none⟩ = some (.int .i64 a0_0) := (blk_cell BK336.out 0).trans rfl; have hcz21_1 : w20.cell? ⟨gb336, 1, none⟩ = some (.slice A0_1 l0_1.length c0_1) := (blk_cell BK336.out 1).trans rfl; have hfz21_0 := blk_frozen BK336.out 0; have hfz21_1 := blk_frozen BK336.out 1) | ((with_reducible refine gate_callee (f := 86) rfl ?_); refine goesL_ (some 11) rfl rfl Tryz.func86 (by kernel_rfl) rfl #[.agg #[.int .i64 a0_0, .slice A0_1 l0_1.length c0_1], .slice A1 l1.length c1, .int .i64 a2] rfl (by (try simp only [List.map_toArray, List.map_cons, List.map_nil]); first | done | rfl | (simp only [List.length_drop, List.length_take]; rfl)) ?_; (with_reducible refine (rule_is.calls a0_0 _ _ l0_1 _ _ l1 a2 true _ ?side1 ?side2 ?side3 ?side4 A4.out).mono ?_); (case side1 => repeat (first | exact (Kd.C_below HR0_1.out HB.out) | (with_reducible refine Kd.C_alloc ?_ _) | (with_reducible refine Kd.C_drewN ?_ _) | (with_reducible refine Kd.C_drew ?_))); (case side2 => exact HC0_1.out); (case side3 => repeat (first | exact (Kd.C_below HR1.out HB.out) | (with_reducible refine Kd.C_alloc ?_ _) | (with_reducible refine Kd.C_drewN ?_ _) | (with_reducible refine Kd.C_drew ?_))); (case side4 => exact HC1.out); rintro e w22 ⟨rfl, hb⟩; refine ⟨_, rfl, ?_⟩; have n0_ := Aside0.mk (blk_below (g := gb336) (o := .cells #[.int .i64 a0_0, .slice A0_1 l0_1.length c0_1] 24 (0, 0)) (by (with_reducible repeat (first | refine blk_drewN ?_ _ | refine blk_drew ?_ | refine blk_alloc ?_ _)); exact BK336.out) hb); have n1_ := Aside0.mk (below_step (by repeat (first | (with_reducible first | exact HB.out | apply below_alloc | apply pw_below_drewN | apply below_drew1 | refine below_set ?_ GE336.out) | exact HB.out)) hb); clear BK336; clear HB; have BK336 := n0_; have HB := n1_; clear n0_ n1_; (try clear hb); (try clear hb2); (try clear hk); (try clear hi); have hcz23_0 : w22.cell? ⟨gb336, 0, none⟩ = some (.int .i64 a0_0) := (blk_cell BK336.out 0).trans rfl; have hcz23_1 : w22.cell? ⟨gb336, 1, none⟩ = some (.slice A0_1 l0_1.length c0_1) := (blk_cell BK336.out 1).trans rfl; have hfz23_0 := blk_frozen BK336.out 0; have hfz23_1 := blk_frozen BK336.out 1; have p338 : 0 ≤ (a2 : Int) := of_decide_eq_true (by first | (with_reducible assumption) | assumption); have q338 : a2 < (l0_1.length : Int) := of_decide_eq_true (by first | (with_reducible assumption) | assumption); obtain ⟨ad338, A338_6, c338_6, e338, hx338_0, hx338_1, hx338_2, hx338_3, hx338_4, hx338_5, hx338_6, hx338_7, hx338_8, hl338_6, hi338_6⟩ := at_T46 HR0_1.out a2 p338 q338; cases e338; replace hx338_0 := (HB.out.cell (World.block_lt_of_cell? w _ hx338_0)).trans hx338_0; replace hx338_1 := (HB.out.cell (World.block_lt_of_cell? w _ hx338_1)).trans hx338_1; replace hx338_2 := (HB.out.cell (World.block_lt_of_cell? w _ hx338_2)).trans hx338_2; replace hx338_3 := (HB.out.cell (World.block_lt_of_cell? w _ hx338_3)).trans hx338_3; replace hx338_4 := (HB.out.cell (World.block_lt_of_cell? w _ hx338_4)).trans hx338_4; replace hx338_5 := (HB.out.cell (World.block_lt_of_cell? w _ hx338_5)).trans hx338_5; replace hx338_6 := (HB.out.cell (World.block_lt_of_cell? w _ hx338_6)).trans hx338_6; replace hx338_7 := (HB.out.cell (World.block_lt_of_cell? w _ hx338_7)).trans hx338_7; replace hx338_8 := (HB.out.cell (World.block_lt_of_cell? w _ hx338_8)).trans hx338_8; have HR338_6 := Aside0.mk hi338_6; have HC338_6 := Aside0.mk hl338_6; clear hi338_6 hl338_6; replace p338 := eq_true p338; replace q338 := eq_true q338))
     go_ret
     exact ⟨by first | rfl | (simp [errW_none, errW_some] <;> rfl) | (simp [*, errW_none, errW_some] <;> rfl), by repeat (first | (with_reducible first | exact HB.out | apply below_alloc | apply pw_below_drewN | apply below_drew1 | refine below_set ?_ GE336.out) | exact HB.out)⟩
   ·rw [if_neg c7] at H
    exact absurd H (by simp)
  ·rw [if_neg c6] at H
   exact absurd H (by simp)
 ·replace c5 := Bool.eq_false_iff.mpr c5
  subst c5
  have H1 : (some (-1)) = some r := by rw [if_neg (show ¬ (false = true) by decide)] at H; exact H
  clear H
  have H := H1
  clear H1
  obtain rfl := Option.some.inj H
  go_enter Tryz.func87, Tryz.ntmps87
  go_wp2_with (first | ((with_reducible refine gate_dst (N := 3) rfl ?_); refine box_event ?hg (N := 3) ?hd (cs := #[.int .i64 a0_0, .slice A0_1 l0_1.length c0_1]) (t := 24) ?hr ?_; (case hd => rfl); (case hg => rfl); (case hr => first | (go_simp; done) | (go_simp; rfl)); intro gb336 hg w24 hbox hb; have n0_ := Aside0.mk (below_step (by repeat (first | (with_reducible first | exact HB.out | apply below_alloc | apply pw_below_drewN | apply below_drew1) | exact HB.out)) hb); have n1_ := Aside0.mk (hbox); have n2_ := Aside0.mk ((by rw [hg]; exact (below_size (by repeat (first | (with_reducible first | exact HB.out | apply below_alloc | apply pw_below_drewN | apply below_drew1) | exact HB.out))) : w.heap.size ≤ gb336)); have n3_ := Aside0.mk ((by rw [hg]; exact (below_size (by repeat (first | (with_reducible first | exact HB.out | apply below_alloc | apply pw_below_drewN | apply below_drew1) | exact HB.out))) : w.heap.size ≤ gb336)); clear HB; have HB := n0_; have BK336 := n1_; have GW336 := n2_; have GE336 := n3_; clear n0_ n1_ n2_ n3_; clear hb hbox hg; have hcz25_0 : w24.cell? ⟨gb336, 0, none⟩ = some (.int .i64 a0_0) := (blk_cell BK336.out 0).trans rfl; have hcz25_1 : w24.cell? ⟨gb336, 1, none⟩ = some (.slice A0_1 l0_1.length c0_1) := (blk_cell BK336.out 1).trans rfl; have hfz25_0 := blk_frozen BK336.out 0; have hfz25_1 := blk_frozen BK336.out 1) | ((with_reducible refine gate_callee (f := 86) rfl ?_); refine goesL_ (some 11) rfl rfl Tryz.func86 (by kernel_rfl) rfl #[.agg #[.int .i64 a0_0, .slice A0_1 l0_1.length c0_1], .slice A1 l1.length c1, .int .i64 a2] rfl (by (try simp only [List.map_toArray, List.map_cons, List.map_nil]); first | done | rfl | (simp only [List.length_drop, List.length_take]; rfl)) ?_; (with_reducible refine (rule_is.calls a0_0 _ _ l0_1 _ _ l1 a2 false _ ?side1 ?side2 ?side3 ?side4 A4.out).mono ?_); (case side1 => repeat (first | exact (Kd.C_below HR0_1.out HB.out) | (with_reducible refine Kd.C_alloc ?_ _) | (with_reducible refine Kd.C_drewN ?_ _) | (with_reducible refine Kd.C_drew ?_))); (case side2 => exact HC0_1.out); (case side3 => repeat (first | exact (Kd.C_below HR1.out HB.out) | (with_reducible refine Kd.C_alloc ?_ _) | (with_reducible refine Kd.C_drewN ?_ _) | (with_reducible refine Kd.C_drew ?_))); (case side4 => exact HC1.out); rintro e w26 ⟨rfl, hb⟩; refine ⟨_, rfl, ?_⟩; have n0_ := Aside0.mk (blk_below (g := gb336) (o := .cells #[.int .i64 a0_0, .slice A0_1 l0_1.length c0_1] 24 (0, 0)) (by (with_reducible repeat (first | refine blk_drewN ?_ _ | refine blk_drew ?_ | refine blk_alloc ?_ _)); exact BK336.out) hb); have n1_ := Aside0.mk (below_step (by repeat (first | (with_reducible first | exact HB.out | apply below_alloc | apply pw_below_drewN | apply below_drew1 | refine below_set ?_ GE336.out) | exact HB.out)) hb); clear BK336; clear HB; have BK336 := n0_; have HB := n1_; clear n0_ n1_; (try clear hb); (try clear hb2); (try clear hk); (try clear hi)))
  go_ret
  exact ⟨by first | rfl | (simp [errW_none, errW_some] <;> rfl) | (simp [*, errW_none, errW_some] <;> rfl), by repeat (first | (with_reducible first | exact HB.out | apply below_alloc | apply pw_below_drewN | apply below_drew1 | refine below_set ?_ GE336.out) | exact HB.out)⟩
def rule_Choose.l0 : Nat → List (S132) → Int → Int → Int → Int → List (S46) → Option (Int)
 | 0, _, _, _, _, _, _ => none
 | k + 1, x1, x9, x19, x20, x342000, x342001 => if x20 < x19 then ((rule_is.f x342000 x342001 x1 x20).bind fun t343 => (if t343 = true then (if x9 = (-1) then (rule_Choose.l0 k x1 x20 x19 (wrap64 (x20 + 1)) x342000 x342001) else ((rule_Rank.f x342000 x342001 x1 x20).bind fun t344 => ((rule_Rank.f x342000 x342001 x1 x9).bind fun t345 => (if t344 ≤ t345 then (rule_Choose.l0 k x1 x20 x19 (wrap64 (x20 + 1)) x342000 x342001) else (rule_Choose.l0 k x1 x9 x19 (wrap64 (x20 + 1)) x342000 x342001))))) else (rule_Choose.l0 k x1 x9 x19 (wrap64 (x20 + 1)) x342000 x342001))) else (some x9)
def rule_Choose.f (k : Nat) (a0_0 : Int) (l0_1 : List (S46)) (l1 : List (S132)) (a2 : Int) (a3 : Int) : Option (Int) := (rule_Held.f k a0_0 l0_1 l1 a2 a3).bind fun t342 => (if t342 = true then (some a2) else (rule_Choose.l0 k l1 (-1) (l0_1.length : Int) 0 a0_0 l0_1))
def rule_Choose.T7 : Bool × List (List Nat × List Nat) := (true, [([], []), ([], []), ([], []), ([0, 1, 2], [0, 1, 2]), ([3, 3], [3]), ([4], [4]), ([5, 4], [4, 5]), ([6, 4, 4], [4, 6]), ([7], [7]), ([7], [7]), ([7], [7]), ([8, 9, 10, 7, 7], [7, 8, 9, 10]), ([7], [7]), ([7], [7]), ([7], [7]), ([12, 13, 14, 11, 7], [7, 12, 13, 14]), ([11, 15, 7], [7, 11, 15]), ([7, 16, 4], [4, 7, 16]), ([4, 17], [4, 17])])
def rule_Choose.B7 : List Nat := [0, 0, 0, 7, 15, 31, 63, 127, 255, 255, 255, 2047, 255, 255, 255, 32767, 65535, 131071, 262143]
theorem rule_Choose.tab7 : rtab .any (opsOf Tryz.f51 7) = rule_Choose.T7 := by kernel_rfl
theorem rule_Choose.bits7 : waitsOk rule_Choose.T7.2 rule_Choose.B7 = true := by kernel_rfl
set_option maxHeartbeats 8000000 in
set_option maxRecDepth 100000 in
theorem rule_Choose.calls (k : Nat) (a0_0 : Int) (A0_1 : Option Addr) (c0_1 : Nat) (l0_1 : List (S46)) (A1 : Option Addr) (c1 : Nat) (l1 : List (S132)) (a2 : Int) (a3 : Int) (r : Int) (w : World) (hr0_1 : Kd.C k46 w A0_1 l0_1.length l0_1) (hc0_1 : l0_1.length ≤ c0_1) (hr1 : Kd.C k132 w A1 l1.length l1) (hc1 : l1.length ≤ c1) (h : rule_Choose.f k a0_0 l0_1 l1 a2 a3 = some r) :
  Calls Tryz.prog 51 #[.agg #[.int .i64 a0_0, .slice A0_1 l0_1.length c0_1], .slice A1 l1.length c1, .int .i64 a2, .int .i64 a3] w fun e w' => e = .returned (.int .i64 r) ∧ Below w.heap.size w w' := by
 have hu24 := Tryz.underlying24
 have HR0_1 := Aside0.mk hr0_1
 have HC0_1 := Aside0.mk hc0_1
 clear hr0_1 hc0_1
 have HR1 := Aside0.mk hr1
 have HC1 := Aside0.mk hc1
 clear hr1 hc1
 have HB := Aside0.mk (Below.refl w.heap.size w)
 have H : ((rule_Held.f k a0_0 l0_1 l1 a2 a3).bind fun t342 => (if t342 = true then (some a2) else (rule_Choose.l0 k l1 (-1) (l0_1.length : Int) 0 a0_0 l0_1))) = some r := h
 clear h
 replace H := Option.bind_eq_some_iff.mp H
 obtain ⟨t342, A50, H⟩ := H
 replace H : (if t342 = true then (some a2) else (rule_Choose.l0 k l1 (-1) (l0_1.length : Int) 0 a0_0 l0_1)) = some r := H
 have A5 := Aside0.mk A50
 clear A50
 by_cases c6 : t342 = true
 ·subst c6
  have H1 : (some a2) = some r := by rw [if_pos rfl] at H; exact H
  clear H
  have H := H1
  clear H1
  obtain rfl := Option.some.inj H
  go_enter Tryz.func51, Tryz.ntmps51
  go_wp2_with (first | ((with_reducible refine gate_dst (N := 4) rfl ?_); refine box_event ?hg (N := 4) ?hd (cs := #[.int .i64 a0_0, .slice A0_1 l0_1.length c0_1]) (t := 24) ?hr ?_; (case hd => rfl); (case hg => rfl); (case hr => first | (go_simp; done) | (go_simp; rfl)); intro gb341 hg w7 hbox hb; have n0_ := Aside0.mk (below_step (by repeat (first | (with_reducible first | exact HB.out | apply below_alloc | apply pw_below_drewN | apply below_drew1) | exact HB.out)) hb); have n1_ := Aside0.mk (hbox); have n2_ := Aside0.mk ((by rw [hg]; exact (below_size (by repeat (first | (with_reducible first | exact HB.out | apply below_alloc | apply pw_below_drewN | apply below_drew1) | exact HB.out))) : w.heap.size ≤ gb341)); have n3_ := Aside0.mk ((by rw [hg]; exact (below_size (by repeat (first | (with_reducible first | exact HB.out | apply below_alloc | apply pw_below_drewN | apply below_drew1) | exact HB.out))) : w.heap.size ≤ gb341)); clear HB; have HB := n0_; have BK341 := n1_; have GW341 := n2_; have GE341 := n3_; clear n0_ n1_ n2_ n3_; clear hb hbox hg; have hcz8_0 : w7.cell? ⟨gb341, 0, none⟩ = some (.int .i64 a0_0) := (blk_cell BK341.out 0).trans rfl; have hcz8_1 : w7.cell? ⟨gb341, 1, none⟩ = some (.slice A0_1 l0_1.length c0_1) := (blk_cell BK341.out 1).trans rfl; have hfz8_0 := blk_frozen BK341.out 0; have hfz8_1 := blk_frozen BK341.out 1) | ((with_reducible refine gate_callee (f := 85) rfl ?_); refine goesL_ (some 15) rfl rfl Tryz.func85 (by kernel_rfl) rfl #[.agg #[.int .i64 a0_0, .slice A0_1 l0_1.length c0_1], .slice A1 l1.length c1, .int .i64 a2, .int .i64 a3] rfl (by (try simp only [List.map_toArray, List.map_cons, List.map_nil]); first | done | rfl | (simp only [List.length_drop, List.length_take]; rfl)) ?_; (with_reducible refine (rule_Held.calls k a0_0 _ _ l0_1 _ _ l1 a2 a3 true _ ?side1 ?side2 ?side3 ?side4 A5.out).mono ?_); (case side1 => repeat (first | exact (Kd.C_below HR0_1.out HB.out) | (with_reducible refine Kd.C_alloc ?_ _) | (with_reducible refine Kd.C_drewN ?_ _) | (with_reducible refine Kd.C_drew ?_))); (case side2 => exact HC0_1.out); (case side3 => repeat (first | exact (Kd.C_below HR1.out HB.out) | (with_reducible refine Kd.C_alloc ?_ _) | (with_reducible refine Kd.C_drewN ?_ _) | (with_reducible refine Kd.C_drew ?_))); (case side4 => exact HC1.out); rintro e w9 ⟨rfl, hb⟩; refine ⟨_, rfl, ?_⟩; have n0_ := Aside0.mk (blk_below (g := gb341) (o := .cells #[.int .i64 a0_0, .slice A0_1 l0_1.length c0_1] 24 (0, 0)) (by (with_reducible repeat (first | refine blk_drewN ?_ _ | refine blk_drew ?_ | refine blk_alloc ?_ _)); exact BK341.out) hb); have n1_ := Aside0.mk (below_step (by repeat (first | (with_reducible first | exact HB.out | apply below_alloc | apply pw_below_drewN | apply below_drew1 | refine below_set ?_ GE341.out) | exact HB.out)) hb); clear BK341; clear HB; have BK341 := n0_; have HB := n1_; clear n0_ n1_; (try clear hb); (try clear hb2); (try clear hk); (try clear hi)))
  go_ret
  exact ⟨by first | rfl | (simp [errW_none, errW_some] <;> rfl) | (simp [*, errW_none, errW_some] <;> rfl), by repeat (first | (with_reducible first | exact HB.out | apply below_alloc | apply pw_below_drewN | apply below_drew1 | refine below_set ?_ GE341.out) | exact HB.out)⟩
 ·replace c6 := Bool.eq_false_iff.mpr c6
  subst c6
  have H1 : (rule_Choose.l0 k l1 (-1) (l0_1.length : Int) 0 a0_0 l0_1) = some r := by rw [if_neg (show ¬ (false = true) by decide)] at H; exact H
  clear H
  have H := H1
  clear H1
  have H' := Aside0.mk H
  clear H
  go_enter Tryz.func51, Tryz.ntmps51
  go_wp2_with (first | ((with_reducible refine gate_dst (N := 4) rfl ?_); refine box_event ?hg (N := 4) ?hd (cs := #[.int .i64 a0_0, .slice A0_1 l0_1.length c0_1]) (t := 24) ?hr ?_; (case hd => rfl); (case hg => rfl); (case hr => first | (go_simp; done) | (go_simp; rfl)); intro gb341 hg w10 hbox hb; have n0_ := Aside0.mk (below_step (by repeat (first | (with_reducible first | exact HB.out | apply below_alloc | apply pw_below_drewN | apply below_drew1) | exact HB.out)) hb); have n1_ := Aside0.mk (hbox); have n2_ := Aside0.mk ((by rw [hg]; exact (below_size (by repeat (first | (with_reducible first | exact HB.out | apply below_alloc | apply pw_below_drewN | apply below_drew1) | exact HB.out))) : w.heap.size ≤ gb341)); have n3_ := Aside0.mk ((by rw [hg]; exact (below_size (by repeat (first | (with_reducible first | exact HB.out | apply below_alloc | apply pw_below_drewN | apply below_drew1) | exact HB.out))) : w.heap.size ≤ gb341)); clear HB; have HB := n0_; have BK341 := n1_; have GW341 := n2_; have GE341 := n3_; clear n0_ n1_ n2_ n3_; clear hb hbox hg; have hcz11_0 : w10.cell? ⟨gb341, 0, none⟩ = some (.int .i64 a0_0) := (blk_cell BK341.out 0).trans rfl; have hcz11_1 : w10.cell? ⟨gb341, 1, none⟩ = some (.slice A0_1 l0_1.length c0_1) := (blk_cell BK341.out 1).trans rfl; have hfz11_0 := blk_frozen BK341.out 0; have hfz11_1 := blk_frozen BK341.out 1) | ((with_reducible refine gate_callee (f := 85) rfl ?_); refine goesL_ (some 15) rfl rfl Tryz.func85 (by kernel_rfl) rfl #[.agg #[.int .i64 a0_0, .slice A0_1 l0_1.length c0_1], .slice A1 l1.length c1, .int .i64 a2, .int .i64 a3] rfl (by (try simp only [List.map_toArray, List.map_cons, List.map_nil]); first | done | rfl | (simp only [List.length_drop, List.length_take]; rfl)) ?_; (with_reducible refine (rule_Held.calls k a0_0 _ _ l0_1 _ _ l1 a2 a3 false _ ?side1 ?side2 ?side3 ?side4 A5.out).mono ?_); (case side1 => repeat (first | exact (Kd.C_below HR0_1.out HB.out) | (with_reducible refine Kd.C_alloc ?_ _) | (with_reducible refine Kd.C_drewN ?_ _) | (with_reducible refine Kd.C_drew ?_))); (case side2 => exact HC0_1.out); (case side3 => repeat (first | exact (Kd.C_below HR1.out HB.out) | (with_reducible refine Kd.C_alloc ?_ _) | (with_reducible refine Kd.C_drewN ?_ _) | (with_reducible refine Kd.C_drew ?_))); (case side4 => exact HC1.out); rintro e w12 ⟨rfl, hb⟩; refine ⟨_, rfl, ?_⟩; have n0_ := Aside0.mk (blk_below (g := gb341) (o := .cells #[.int .i64 a0_0, .slice A0_1 l0_1.length c0_1] 24 (0, 0)) (by (with_reducible repeat (first | refine blk_drewN ?_ _ | refine blk_drew ?_ | refine blk_alloc ?_ _)); exact BK341.out) hb); have n1_ := Aside0.mk (below_step (by repeat (first | (with_reducible first | exact HB.out | apply below_alloc | apply pw_below_drewN | apply below_drew1 | refine below_set ?_ GE341.out) | exact HB.out)) hb); clear BK341; clear HB; have BK341 := n0_; have HB := n1_; clear n0_ n1_; (try clear hb); (try clear hb2); (try clear hk); (try clear hi); have hcz13_0 : w12.cell? ⟨gb341, 0, none⟩ = some (.int .i64 a0_0) := (blk_cell BK341.out 0).trans rfl; have hcz13_1 : w12.cell? ⟨gb341, 1, none⟩ = some (.slice A0_1 l0_1.length c0_1) := (blk_cell BK341.out 1).trans rfl; have hfz13_0 := blk_frozen BK341.out 0; have hfz13_1 := blk_frozen BK341.out 1))
  go_loopg [9, 20] k (fun kq v9 v20 w' => ∃ (x9_1 : Int) (x20_1 : Int), v9 = .int .i64 x9_1 ∧ v20 = .int .i64 x20_1 ∧ Aside0 (rule_Choose.l0 kq l1 x9_1 (l0_1.length : Int) x20_1 a0_0 l0_1 = some r) ∧ Aside0 (kq ≤ k) ∧ Aside0 (w'.heap[gb341]? = some (.cells #[.int .i64 a0_0, (.slice A0_1 l0_1.length c0_1)] 24 (0, 0))) ∧ Aside0 (Below w.heap.size w w'))
  case atStart => exact ⟨((-1)), (0), (by first | rfl | (simp; done) | (simp [*]; done)), (by first | rfl | (simp; done) | (simp [*]; done)), H', ⟨Nat.le_refl _⟩, ⟨by (with_reducible repeat (first | refine blk_drewN ?_ _ | refine blk_drew ?_ | refine blk_alloc ?_ _)); exact BK341.out⟩, ⟨by repeat (first | (with_reducible first | exact HB.out | apply below_alloc | apply pw_below_drewN | apply below_drew1 | refine below_set ?_ GE341.out) | exact HB.out)⟩⟩
  case round =>
   clear H'
   try clear c1
   try clear p2
   try clear c5
   try clear c6
   try clear c8
   try clear hcz11_0
   try clear hcz11_1
   try clear hcz13_0
   try clear hcz13_1
   try clear hcz8_0
   try clear hcz8_1
   try clear hfz11_0
   try clear hfz11_1
   try clear hfz13_0
   try clear hfz13_1
   try clear hfz8_0
   try clear hfz8_1
   obtain ⟨x9_1, x20_1, rfl, rfl, HA, HK1, BK341, HB⟩ := hrel
   cases gk with
   | zero => exact absurd HA.out (by simp [rule_Choose.l0])
   | succ k1 =>
    have H := HA.out
    clear HA
    simp only [rule_Choose.l0] at H
    by_cases c14 : x20_1 < (l0_1.length : Int)
    ·rw [if_pos c14] at H
     have c14b0 : decide (x20_1 < (l0_1.length : Int)) = true := decide_eq_true c14
     clear c14
     replace H := Option.bind_eq_some_iff.mp H
     obtain ⟨t343, A150, H⟩ := H
     replace H : (if t343 = true then (if x9_1 = (-1) then (rule_Choose.l0 k1 l1 x20_1 (l0_1.length : Int) (wrap64 (x20_1 + 1)) a0_0 l0_1) else ((rule_Rank.f a0_0 l0_1 l1 x20_1).bind fun t344 => ((rule_Rank.f a0_0 l0_1 l1 x9_1).bind fun t345 => (if t344 ≤ t345 then (rule_Choose.l0 k1 l1 x20_1 (l0_1.length : Int) (wrap64 (x20_1 + 1)) a0_0 l0_1) else (rule_Choose.l0 k1 l1 x9_1 (l0_1.length : Int) (wrap64 (x20_1 + 1)) a0_0 l0_1))))) else (rule_Choose.l0 k1 l1 x9_1 (l0_1.length : Int) (wrap64 (x20_1 + 1)) a0_0 l0_1)) = some r := H
     have A15 := Aside0.mk A150
     clear A150
     by_cases c16 : t343 = true
     ·subst c16
      have H1 : (if x9_1 = (-1) then (rule_Choose.l0 k1 l1 x20_1 (l0_1.length : Int) (wrap64 (x20_1 + 1)) a0_0 l0_1) else ((rule_Rank.f a0_0 l0_1 l1 x20_1).bind fun t344 => ((rule_Rank.f a0_0 l0_1 l1 x9_1).bind fun t345 => (if t344 ≤ t345 then (rule_Choose.l0 k1 l1 x20_1 (l0_1.length : Int) (wrap64 (x20_1 + 1)) a0_0 l0_1) else (rule_Choose.l0 k1 l1 x9_1 (l0_1.length : Int) (wrap64 (x20_1 + 1)) a0_0 l0_1))))) = some r := by rw [if_pos rfl] at H; exact H
      clear H
      have H := H1
      clear H1
      by_cases c17 : x9_1 = (-1)
      ·rw [if_pos c17] at H
       have c17b0 : (x9_1 == (-1)) = true := beq_iff_eq.mpr c17
       have c17b1 : (x9_1 != (-1)) = false := bne_eq_false_iff_eq.mpr c17
       clear c17
       have H' := Aside0.mk H
       clear H
       try go_wp2
       have n0_ := Aside0.mk (blk_drew BK341.out)
       have n1_ := Aside0.mk (below_drew1 HB.out)
       clear BK341
       clear HB
       have BK341 := n0_
       have HB := n1_
       clear n0_ n1_
       refine start_ (n := 19) (S := fun w' => w'.cell? ⟨gb341, 0, none⟩ = some (.int .i64 a0_0) ∧ w'.cell? ⟨gb341, 1, none⟩ = some (.slice A0_1 l0_1.length c0_1)) (ds := []) #[false, false, false, false, false, false, false, false, false, false, false, false, false, false, false, false, false, false, false] (by kernel_rfl) rfl rfl ⟨(blk_cell BK341.out 0).trans rfl, (blk_cell BK341.out 1).trans rfl⟩ (fun hHeld => ?_); refine with_tabW rule_Choose.tab7 rule_Choose.bits7 (fun HT_ HW_ => ?_)
       generalize wr.drew = w18 at BK341 HB hHeld ⊢
       refine pure_ (i := 1) (N := some 24) (v := ?_) (a' := ?_) #[false, true, false, false, false, false, false, false, false, false, false, false, false, false, false, false, false, false, false] rfl rfl (any_of HT_.out (by kernel_rfl)) (fun _ _ _ h => h) (Or.inl ⟨by rfl, ?_⟩) ?_ ?_
       rotate_left
       ·intro w'
        go_simp
        with_reducible rfl
       rotate_left
       ·simp only [Act.put, List.setIfInBounds_toArray, List.set_cons_zero, List.set_cons_succ, i64_w, i32_w]
        rfl
       refine pure_ (i := 2) (N := some 25) (v := ?_) (a' := ?_) #[false, true, true, false, false, false, false, false, false, false, false, false, false, false, false, false, false, false, false] rfl rfl (any_of HT_.out (by kernel_rfl)) (fun _ _ _ h => h) (Or.inl ⟨by rfl, ?_⟩) ?_ ?_
       rotate_left
       ·intro w'
        go_simp
        with_reducible rfl
       rotate_left
       ·simp only [Act.put, List.setIfInBounds_toArray, List.set_cons_zero, List.set_cons_succ, i64_w, i32_w]
        rfl
       refine take_ (i := 0) (N := some 23) (v := ?_) (a' := ?_) #[true, true, true, false, false, false, false, false, false, false, false, false, false, false, false, false, false, false, false] rfl rfl (take_ofW HT_.out HW_.out (by kernel_rfl)) (fun _ _ _ h => h) (Or.inl ⟨by rfl, ?_⟩) hHeld ?_ ?_
       rotate_left
       ·rintro w' ⟨s0, s1⟩
        go_simp
        with_reducible rfl
       rotate_left
       ·simp only [Act.put, List.setIfInBounds_toArray, List.set_cons_zero, List.set_cons_succ, i64_w, i32_w]
        rfl
       refine one_ (i := 3) (N := some 26) #[true, true, true, true, false, false, false, false, false, false, false, false, false, false, false, false, false, false, false] rfl rfl (one_of HT_.out (by kernel_rfl)) (by decide) (fun K hK => ?_)
       refine goes_ Tryz.func86 (by kernel_rfl) rfl #[.agg #[.int .i64 a0_0, .slice A0_1 l0_1.length c0_1], .slice A1 l1.length c1, .int .i64 x20_1] (by rfl) rfl rfl (by (try simp only [List.map_toArray, List.map_cons, List.map_nil]); first | done | rfl | (simp only [List.length_drop, List.length_take]; rfl)) ?_
       with_reducible refine (rule_is.calls a0_0 _ _ l0_1 _ _ l1 x20_1 true _ ?side1 ?side2 ?side3 ?side4 A15.out).mono ?_
       (case side1 => repeat (first | exact (Kd.C_below HR0_1.out HB.out) | (with_reducible refine Kd.C_alloc ?_ _) | (with_reducible refine Kd.C_drewN ?_ _) | (with_reducible refine Kd.C_drew ?_)))
       (case side2 => exact HC0_1.out)
       (case side3 => repeat (first | exact (Kd.C_below HR1.out HB.out) | (with_reducible refine Kd.C_alloc ?_ _) | (with_reducible refine Kd.C_drewN ?_ _) | (with_reducible refine Kd.C_drew ?_)))
       (case side4 => exact HC1.out)
       rintro e w19 ⟨rfl, hb⟩
       refine ⟨_, rfl, ?_⟩
       have n0_ := Aside0.mk (blk_below (g := gb341) (o := .cells #[.int .i64 a0_0, .slice A0_1 l0_1.length c0_1] 24 (0, 0)) (by (with_reducible repeat (first | refine blk_drewN ?_ _ | refine blk_drew ?_ | refine blk_alloc ?_ _)); exact BK341.out) hb)
       have n1_ := Aside0.mk (below_step (by repeat (first | (with_reducible first | exact HB.out | apply below_alloc | apply pw_below_drewN | apply below_drew1 | refine below_set ?_ GE341.out) | exact HB.out)) hb)
       clear BK341
       clear HB
       have BK341 := n0_
       have HB := n1_
       clear n0_ n1_
       (try clear hb)
       (try clear hb2)
       (try clear hk)
       (try clear hi)
       refine hK.out _ _ ⟨(blk_cell BK341.out 0).trans rfl, (blk_cell BK341.out 1).trans rfl⟩ (fun hHeld => ?_)
       clear hK K
       refine norm_ (a' := ?_) ?_ ?_
       rotate_left
       ·show Act.put _ (some 26) _ = _
        simp only [Act.put, List.setIfInBounds_toArray, List.set_cons_zero, List.set_cons_succ, i64_w, i32_w]
        rfl
       refine pure_ (i := 4) (N := some 27) (v := ?_) (a' := ?_) #[true, true, true, true, true, false, false, false, false, false, false, false, false, false, false, false, false, false, false] rfl rfl (any_of HT_.out (by kernel_rfl)) (fun _ _ _ h => h) (Or.inl ⟨by rfl, ?_⟩) ?_ ?_
       rotate_left
       ·intro w'
        go_simp
        with_reducible rfl
       rotate_left
       ·simp only [Act.put, List.setIfInBounds_toArray, List.set_cons_zero, List.set_cons_succ, i64_w, i32_w]
        rfl
       refine pure_ (i := 5) (N := some 28) (v := ?_) (a' := ?_) #[true, true, true, true, true, true, false, false, false, false, false, false, false, false, false, false, false, false, false] rfl rfl (any_of HT_.out (by kernel_rfl)) (fun _ _ _ h => h) (Or.inl ⟨by rfl, ?_⟩) ?_ ?_
       rotate_left
       ·intro w'
        go_simp
        with_reducible rfl
       rotate_left
       ·simp only [Act.put, List.setIfInBounds_toArray, List.set_cons_zero, List.set_cons_succ, i64_w, i32_w]
        rfl
       refine pure_ (i := 6) (N := some 29) (v := ?_) (a' := ?_) #[true, true, true, true, true, true, true, false, false, false, false, false, false, false, false, false, false, false, false] rfl rfl (any_of HT_.out (by kernel_rfl)) (fun _ _ _ h => h) (Or.inl ⟨by rfl, ?_⟩) ?_ ?_
       rotate_left
       ·intro w'
        go_simp
        with_reducible rfl
       rotate_left
       ·simp only [Act.put, List.setIfInBounds_toArray, List.set_cons_zero, List.set_cons_succ, i64_w, i32_w]
        rfl
       refine pure_ (i := 7) (N := some 30) (v := ?_) (a' := ?_) #[true, true, true, true, true, true, true, true, false, false, false, false, false, false, false, false, false, false, false] rfl rfl (any_of HT_.out (by kernel_rfl)) (fun _ _ _ h => h) (Or.inl ⟨by rfl, ?_⟩) ?_ ?_
       rotate_left
       ·intro w'
        go_simp
        with_reducible rfl
       rotate_left
       ·simp only [Act.put, List.setIfInBounds_toArray, List.set_cons_zero, List.set_cons_succ, i64_w, i32_w]
        rfl
       refine pure_ (i := 8) (N := some 31) (v := undef) (a' := ?_) #[true, true, true, true, true, true, true, true, true, false, false, false, false, false, false, false, false, false, false] rfl rfl (any_of HT_.out (by kernel_rfl)) (fun _ _ _ h => h) (Or.inr ⟨by rfl, rfl⟩) ?_ ?_
       rotate_left
       ·simp only [Act.put, List.setIfInBounds_toArray, List.set_cons_zero, List.set_cons_succ, i64_w, i32_w]
        rfl
       refine pure_ (i := 9) (N := some 32) (v := undef) (a' := ?_) #[true, true, true, true, true, true, true, true, true, true, false, false, false, false, false, false, false, false, false] rfl rfl (any_of HT_.out (by kernel_rfl)) (fun _ _ _ h => h) (Or.inr ⟨by rfl, rfl⟩) ?_ ?_
       rotate_left
       ·simp only [Act.put, List.setIfInBounds_toArray, List.set_cons_zero, List.set_cons_succ, i64_w, i32_w]
        rfl
       refine pure_ (i := 10) (N := some 33) (v := undef) (a' := ?_) #[true, true, true, true, true, true, true, true, true, true, true, false, false, false, false, false, false, false, false] rfl rfl (any_of HT_.out (by kernel_rfl)) (fun _ _ _ h => h) (Or.inr ⟨by rfl, rfl⟩) ?_ ?_
       rotate_left
       ·simp only [Act.put, List.setIfInBounds_toArray, List.set_cons_zero, List.set_cons_succ, i64_w, i32_w]
        rfl
       refine pure_ (i := 11) (N := some 34) (v := undef) (a' := ?_) #[true, true, true, true, true, true, true, true, true, true, true, true, false, false, false, false, false, false, false] rfl rfl (any_of HT_.out (by kernel_rfl)) (fun _ _ _ h => h) (Or.inr ⟨by rfl, rfl⟩) ?_ ?_
       rotate_left
       ·simp only [Act.put, List.setIfInBounds_toArray, List.set_cons_zero, List.set_cons_succ, i64_w, i32_w]
        rfl
       refine pure_ (i := 12) (N := some 35) (v := undef) (a' := ?_) #[true, true, true, true, true, true, true, true, true, true, true, true, true, false, false, false, false, false, false] rfl rfl (any_of HT_.out (by kernel_rfl)) (fun _ _ _ h => h) (Or.inr ⟨by rfl, rfl⟩) ?_ ?_
       rotate_left
       ·simp only [Act.put, List.setIfInBounds_toArray, List.set_cons_zero, List.set_cons_succ, i64_w, i32_w]
        rfl
       refine pure_ (i := 13) (N := some 36) (v := undef) (a' := ?_) #[true, true, true, true, true, true, true, true, true, true, true, true, true, true, false, false, false, false, false] rfl rfl (any_of HT_.out (by kernel_rfl)) (fun _ _ _ h => h) (Or.inr ⟨by rfl, rfl⟩) ?_ ?_
       rotate_left
       ·simp only [Act.put, List.setIfInBounds_toArray, List.set_cons_zero, List.set_cons_succ, i64_w, i32_w]
        rfl
       refine pure_ (i := 14) (N := some 37) (v := undef) (a' := ?_) #[true, true, true, true, true, true, true, true, true, true, true, true, true, true, true, false, false, false, false] rfl rfl (any_of HT_.out (by kernel_rfl)) (fun _ _ _ h => h) (Or.inr ⟨by rfl, rfl⟩) ?_ ?_
       rotate_left
       ·simp only [Act.put, List.setIfInBounds_toArray, List.set_cons_zero, List.set_cons_succ, i64_w, i32_w]
        rfl
       refine pure_ (i := 15) (N := some 38) (v := undef) (a' := ?_) #[true, true, true, true, true, true, true, true, true, true, true, true, true, true, true, true, false, false, false] rfl rfl (any_of HT_.out (by kernel_rfl)) (fun _ _ _ h => h) (Or.inr ⟨by rfl, rfl⟩) ?_ ?_
       rotate_left
       ·simp only [Act.put, List.setIfInBounds_toArray, List.set_cons_zero, List.set_cons_succ, i64_w, i32_w]
        rfl
       refine pure_ (i := 16) (N := some 39) (v := undef) (a' := ?_) #[true, true, true, true, true, true, true, true, true, true, true, true, true, true, true, true, true, false, false] rfl rfl (any_of HT_.out (by kernel_rfl)) (fun _ _ _ h => h) (Or.inr ⟨by rfl, rfl⟩) ?_ ?_
       rotate_left
       ·simp only [Act.put, List.setIfInBounds_toArray, List.set_cons_zero, List.set_cons_succ, i64_w, i32_w]
        rfl
       refine pure_ (i := 17) (N := some 40) (v := ?_) (a' := ?_) #[true, true, true, true, true, true, true, true, true, true, true, true, true, true, true, true, true, true, false] rfl rfl (any_of HT_.out (by kernel_rfl)) (fun _ _ _ h => h) (Or.inl ⟨by rfl, ?_⟩) ?_ ?_
       rotate_left
       ·intro w'
        go_simp
        with_reducible rfl
       rotate_left
       ·simp only [Act.put, List.setIfInBounds_toArray, List.set_cons_zero, List.set_cons_succ, i64_w, i32_w]
        rfl
       refine pure_ (i := 18) (N := some 41) (v := ?_) (a' := ?_) #[true, true, true, true, true, true, true, true, true, true, true, true, true, true, true, true, true, true, true] rfl rfl (any_of HT_.out (by kernel_rfl)) (fun _ _ _ h => h) (Or.inl ⟨by rfl, ?_⟩) ?_ ?_
       rotate_left
       ·intro w'
        go_simp
        with_reducible rfl
       rotate_left
       ·simp only [Act.put, List.setIfInBounds_toArray, List.set_cons_zero, List.set_cons_succ, i64_w, i32_w]
        rfl
       refine done_ (done_of HT_.out (by kernel_rfl)) ?_
       try go_wp2
       go_roundg k1
       case measure => have := HK1.out; omega
       case rel => exact ⟨(x20_1), (wrap64 (x20_1 + 1)), (by first | rfl | (simp; done) | (simp [*]; done)), (by first | rfl | (simp; done) | (simp [*]; done)), H', ⟨by have := HK1.out; omega⟩, ⟨by (with_reducible repeat (first | refine blk_drewN ?_ _ | refine blk_drew ?_ | refine blk_alloc ?_ _)); exact BK341.out⟩, ⟨by repeat (first | (with_reducible first | exact HB.out | apply below_alloc | apply pw_below_drewN | apply below_drew1 | refine below_set ?_ GE341.out) | exact HB.out)⟩⟩
      ·rw [if_neg c17] at H
       have c17b0 : (x9_1 == (-1)) = false := beq_eq_false_iff_ne.mpr c17
       have c17b1 : (x9_1 != (-1)) = true := bne_iff_ne.mpr c17
       replace H := Option.bind_eq_some_iff.mp H
       obtain ⟨t344, A200, H⟩ := H
       replace H : ((rule_Rank.f a0_0 l0_1 l1 x9_1).bind fun t345 => (if t344 ≤ t345 then (rule_Choose.l0 k1 l1 x20_1 (l0_1.length : Int) (wrap64 (x20_1 + 1)) a0_0 l0_1) else (rule_Choose.l0 k1 l1 x9_1 (l0_1.length : Int) (wrap64 (x20_1 + 1)) a0_0 l0_1))) = some r := H
       have A20 := Aside0.mk A200
       clear A200
       replace H := Option.bind_eq_some_iff.mp H
       obtain ⟨t345, A210, H⟩ := H
       replace H : (if t344 ≤ t345 then (rule_Choose.l0 k1 l1 x20_1 (l0_1.length : Int) (wrap64 (x20_1 + 1)) a0_0 l0_1) else (rule_Choose.l0 k1 l1 x9_1 (l0_1.length : Int) (wrap64 (x20_1 + 1)) a0_0 l0_1)) = some r := H
       have A21 := Aside0.mk A210
       clear A210
       by_cases c22 : t344 ≤ t345
       ·rw [if_pos c22] at H
        have c22b0 : decide (t344 ≤ t345) = true := decide_eq_true c22
        clear c22
        have H' := Aside0.mk H
        clear H
        try go_wp2
        have n0_ := Aside0.mk (blk_drew BK341.out)
        have n1_ := Aside0.mk (below_drew1 HB.out)
        clear BK341
        clear HB
        have BK341 := n0_
        have HB := n1_
        clear n0_ n1_
        refine start_ (n := 19) (S := fun w' => w'.cell? ⟨gb341, 0, none⟩ = some (.int .i64 a0_0) ∧ w'.cell? ⟨gb341, 1, none⟩ = some (.slice A0_1 l0_1.length c0_1)) (ds := []) #[false, false, false, false, false, false, false, false, false, false, false, false, false, false, false, false, false, false, false] (by kernel_rfl) rfl rfl ⟨(blk_cell BK341.out 0).trans rfl, (blk_cell BK341.out 1).trans rfl⟩ (fun hHeld => ?_); refine with_tabW rule_Choose.tab7 rule_Choose.bits7 (fun HT_ HW_ => ?_)
        generalize wr.drew = w23 at BK341 HB hHeld ⊢
        refine pure_ (i := 1) (N := some 24) (v := ?_) (a' := ?_) #[false, true, false, false, false, false, false, false, false, false, false, false, false, false, false, false, false, false, false] rfl rfl (any_of HT_.out (by kernel_rfl)) (fun _ _ _ h => h) (Or.inl ⟨by rfl, ?_⟩) ?_ ?_
        rotate_left
        ·intro w'
         go_simp
         with_reducible rfl
        rotate_left
        ·simp only [Act.put, List.setIfInBounds_toArray, List.set_cons_zero, List.set_cons_succ, i64_w, i32_w]
         rfl
        refine pure_ (i := 2) (N := some 25) (v := ?_) (a' := ?_) #[false, true, true, false, false, false, false, false, false, false, false, false, false, false, false, false, false, false, false] rfl rfl (any_of HT_.out (by kernel_rfl)) (fun _ _ _ h => h) (Or.inl ⟨by rfl, ?_⟩) ?_ ?_
        rotate_left
        ·intro w'
         go_simp
         with_reducible rfl
        rotate_left
        ·simp only [Act.put, List.setIfInBounds_toArray, List.set_cons_zero, List.set_cons_succ, i64_w, i32_w]
         rfl
        refine take_ (i := 0) (N := some 23) (v := ?_) (a' := ?_) #[true, true, true, false, false, false, false, false, false, false, false, false, false, false, false, false, false, false, false] rfl rfl (take_ofW HT_.out HW_.out (by kernel_rfl)) (fun _ _ _ h => h) (Or.inl ⟨by rfl, ?_⟩) hHeld ?_ ?_
        rotate_left
        ·rintro w' ⟨s0, s1⟩
         go_simp
         with_reducible rfl
        rotate_left
        ·simp only [Act.put, List.setIfInBounds_toArray, List.set_cons_zero, List.set_cons_succ, i64_w, i32_w]
         rfl
        refine one_ (i := 3) (N := some 26) #[true, true, true, true, false, false, false, false, false, false, false, false, false, false, false, false, false, false, false] rfl rfl (one_of HT_.out (by kernel_rfl)) (by decide) (fun K hK => ?_)
        refine goes_ Tryz.func86 (by kernel_rfl) rfl #[.agg #[.int .i64 a0_0, .slice A0_1 l0_1.length c0_1], .slice A1 l1.length c1, .int .i64 x20_1] (by rfl) rfl rfl (by (try simp only [List.map_toArray, List.map_cons, List.map_nil]); first | done | rfl | (simp only [List.length_drop, List.length_take]; rfl)) ?_
        with_reducible refine (rule_is.calls a0_0 _ _ l0_1 _ _ l1 x20_1 true _ ?side1 ?side2 ?side3 ?side4 A15.out).mono ?_
        (case side1 => repeat (first | exact (Kd.C_below HR0_1.out HB.out) | (with_reducible refine Kd.C_alloc ?_ _) | (with_reducible refine Kd.C_drewN ?_ _) | (with_reducible refine Kd.C_drew ?_)))
        (case side2 => exact HC0_1.out)
        (case side3 => repeat (first | exact (Kd.C_below HR1.out HB.out) | (with_reducible refine Kd.C_alloc ?_ _) | (with_reducible refine Kd.C_drewN ?_ _) | (with_reducible refine Kd.C_drew ?_)))
        (case side4 => exact HC1.out)
        rintro e w24 ⟨rfl, hb⟩
        refine ⟨_, rfl, ?_⟩
        have n0_ := Aside0.mk (blk_below (g := gb341) (o := .cells #[.int .i64 a0_0, .slice A0_1 l0_1.length c0_1] 24 (0, 0)) (by (with_reducible repeat (first | refine blk_drewN ?_ _ | refine blk_drew ?_ | refine blk_alloc ?_ _)); exact BK341.out) hb)
        have n1_ := Aside0.mk (below_step (by repeat (first | (with_reducible first | exact HB.out | apply below_alloc | apply pw_below_drewN | apply below_drew1 | refine below_set ?_ GE341.out) | exact HB.out)) hb)
        clear BK341
        clear HB
        have BK341 := n0_
        have HB := n1_
        clear n0_ n1_
        (try clear hb)
        (try clear hb2)
        (try clear hk)
        (try clear hi)
        refine hK.out _ _ ⟨(blk_cell BK341.out 0).trans rfl, (blk_cell BK341.out 1).trans rfl⟩ (fun hHeld => ?_)
        clear hK K
        refine norm_ (a' := ?_) ?_ ?_
        rotate_left
        ·show Act.put _ (some 26) _ = _
         simp only [Act.put, List.setIfInBounds_toArray, List.set_cons_zero, List.set_cons_succ, i64_w, i32_w]
         rfl
        refine pure_ (i := 4) (N := some 27) (v := ?_) (a' := ?_) #[true, true, true, true, true, false, false, false, false, false, false, false, false, false, false, false, false, false, false] rfl rfl (any_of HT_.out (by kernel_rfl)) (fun _ _ _ h => h) (Or.inl ⟨by rfl, ?_⟩) ?_ ?_
        rotate_left
        ·intro w'
         go_simp
         with_reducible rfl
        rotate_left
        ·simp only [Act.put, List.setIfInBounds_toArray, List.set_cons_zero, List.set_cons_succ, i64_w, i32_w]
         rfl
        refine pure_ (i := 5) (N := some 28) (v := ?_) (a' := ?_) #[true, true, true, true, true, true, false, false, false, false, false, false, false, false, false, false, false, false, false] rfl rfl (any_of HT_.out (by kernel_rfl)) (fun _ _ _ h => h) (Or.inl ⟨by rfl, ?_⟩) ?_ ?_
        rotate_left
        ·intro w'
         go_simp
         with_reducible rfl
        rotate_left
        ·simp only [Act.put, List.setIfInBounds_toArray, List.set_cons_zero, List.set_cons_succ, i64_w, i32_w]
         rfl
        refine pure_ (i := 6) (N := some 29) (v := ?_) (a' := ?_) #[true, true, true, true, true, true, true, false, false, false, false, false, false, false, false, false, false, false, false] rfl rfl (any_of HT_.out (by kernel_rfl)) (fun _ _ _ h => h) (Or.inl ⟨by rfl, ?_⟩) ?_ ?_
        rotate_left
        ·intro w'
         go_simp
         with_reducible rfl
        rotate_left
        ·simp only [Act.put, List.setIfInBounds_toArray, List.set_cons_zero, List.set_cons_succ, i64_w, i32_w]
         rfl
        refine pure_ (i := 7) (N := some 30) (v := ?_) (a' := ?_) #[true, true, true, true, true, true, true, true, false, false, false, false, false, false, false, false, false, false, false] rfl rfl (any_of HT_.out (by kernel_rfl)) (fun _ _ _ h => h) (Or.inl ⟨by rfl, ?_⟩) ?_ ?_
        rotate_left
        ·intro w'
         go_simp
         with_reducible rfl
        rotate_left
        ·simp only [Act.put, List.setIfInBounds_toArray, List.set_cons_zero, List.set_cons_succ, i64_w, i32_w]
         rfl
        refine pure_ (i := 9) (N := some 32) (v := ?_) (a' := ?_) #[true, true, true, true, true, true, true, true, false, true, false, false, false, false, false, false, false, false, false] rfl rfl (any_of HT_.out (by kernel_rfl)) (fun _ _ _ h => h) (Or.inl ⟨by rfl, ?_⟩) ?_ ?_
        rotate_left
        ·intro w'
         go_simp
         with_reducible rfl
        rotate_left
        ·simp only [Act.put, List.setIfInBounds_toArray, List.set_cons_zero, List.set_cons_succ, i64_w, i32_w]
         rfl
        refine pure_ (i := 10) (N := some 33) (v := ?_) (a' := ?_) #[true, true, true, true, true, true, true, true, false, true, true, false, false, false, false, false, false, false, false] rfl rfl (any_of HT_.out (by kernel_rfl)) (fun _ _ _ h => h) (Or.inl ⟨by rfl, ?_⟩) ?_ ?_
        rotate_left
        ·intro w'
         go_simp
         with_reducible rfl
        rotate_left
        ·simp only [Act.put, List.setIfInBounds_toArray, List.set_cons_zero, List.set_cons_succ, i64_w, i32_w]
         rfl
        refine pure_ (i := 13) (N := some 36) (v := ?_) (a' := ?_) #[true, true, true, true, true, true, true, true, false, true, true, false, false, true, false, false, false, false, false] rfl rfl (any_of HT_.out (by kernel_rfl)) (fun _ _ _ h => h) (Or.inl ⟨by rfl, ?_⟩) ?_ ?_
        rotate_left
        ·intro w'
         go_simp
         with_reducible rfl
        rotate_left
        ·simp only [Act.put, List.setIfInBounds_toArray, List.set_cons_zero, List.set_cons_succ, i64_w, i32_w]
         rfl
        refine pure_ (i := 14) (N := some 37) (v := ?_) (a' := ?_) #[true, true, true, true, true, true, true, true, false, true, true, false, false, true, true, false, false, false, false] rfl rfl (any_of HT_.out (by kernel_rfl)) (fun _ _ _ h => h) (Or.inl ⟨by rfl, ?_⟩) ?_ ?_
        rotate_left
        ·intro w'
         go_simp
         with_reducible rfl
        rotate_left
        ·simp only [Act.put, List.setIfInBounds_toArray, List.set_cons_zero, List.set_cons_succ, i64_w, i32_w]
         rfl
        refine take_ (i := 8) (N := some 31) (v := ?_) (a' := ?_) #[true, true, true, true, true, true, true, true, true, true, true, false, false, true, true, false, false, false, false] rfl rfl (take_ofW HT_.out HW_.out (by kernel_rfl)) (fun _ _ _ h => h) (Or.inl ⟨by rfl, ?_⟩) hHeld ?_ ?_
        rotate_left
        ·rintro w' ⟨s0, s1⟩
         go_simp
         with_reducible rfl
        rotate_left
        ·simp only [Act.put, List.setIfInBounds_toArray, List.set_cons_zero, List.set_cons_succ, i64_w, i32_w]
         rfl
        refine take_ (i := 12) (N := some 35) (v := ?_) (a' := ?_) #[true, true, true, true, true, true, true, true, true, true, true, false, true, true, true, false, false, false, false] rfl rfl (take_ofW HT_.out HW_.out (by kernel_rfl)) (fun _ _ _ h => h) (Or.inl ⟨by rfl, ?_⟩) hHeld ?_ ?_
        rotate_left
        ·rintro w' ⟨s0, s1⟩
         go_simp
         with_reducible rfl
        rotate_left
        ·simp only [Act.put, List.setIfInBounds_toArray, List.set_cons_zero, List.set_cons_succ, i64_w, i32_w]
         rfl
        refine one_ (i := 11) (N := some 34) #[true, true, true, true, true, true, true, true, true, true, true, true, true, true, true, false, false, false, false] rfl rfl (one_of HT_.out (by kernel_rfl)) (by decide) (fun K hK => ?_)
        refine goes_ Tryz.func87 (by kernel_rfl) rfl #[.agg #[.int .i64 a0_0, .slice A0_1 l0_1.length c0_1], .slice A1 l1.length c1, .int .i64 x20_1] (by rfl) rfl rfl (by (try simp only [List.map_toArray, List.map_cons, List.map_nil]); first | done | rfl | (simp only [List.length_drop, List.length_take]; rfl)) ?_
        with_reducible refine (rule_Rank.calls a0_0 _ _ l0_1 _ _ l1 x20_1 t344 _ ?side1 ?side2 ?side3 ?side4 A20.out).mono ?_
        (case side1 => repeat (first | exact (Kd.C_below HR0_1.out HB.out) | (with_reducible refine Kd.C_alloc ?_ _) | (with_reducible refine Kd.C_drewN ?_ _) | (with_reducible refine Kd.C_drew ?_)))
        (case side2 => exact HC0_1.out)
        (case side3 => repeat (first | exact (Kd.C_below HR1.out HB.out) | (with_reducible refine Kd.C_alloc ?_ _) | (with_reducible refine Kd.C_drewN ?_ _) | (with_reducible refine Kd.C_drew ?_)))
        (case side4 => exact HC1.out)
        rintro e w25 ⟨rfl, hb⟩
        refine ⟨_, rfl, ?_⟩
        have n0_ := Aside0.mk (blk_below (g := gb341) (o := .cells #[.int .i64 a0_0, .slice A0_1 l0_1.length c0_1] 24 (0, 0)) (by (with_reducible repeat (first | refine blk_drewN ?_ _ | refine blk_drew ?_ | refine blk_alloc ?_ _)); exact BK341.out) hb)
        have n1_ := Aside0.mk (below_step (by repeat (first | (with_reducible first | exact HB.out | apply below_alloc | apply pw_below_drewN | apply below_drew1 | refine below_set ?_ GE341.out) | exact HB.out)) hb)
        clear BK341
        clear HB
        have BK341 := n0_
        have HB := n1_
        clear n0_ n1_
        (try clear hb)
        (try clear hb2)
        (try clear hk)
        (try clear hi)
        refine hK.out _ _ ⟨(blk_cell BK341.out 0).trans rfl, (blk_cell BK341.out 1).trans rfl⟩ (fun hHeld => ?_)
        clear hK K
        refine norm_ (a' := ?_) ?_ ?_
        rotate_left
        ·show Act.put _ (some 34) _ = _
         simp only [Act.put, List.setIfInBounds_toArray, List.set_cons_zero, List.set_cons_succ, i64_w, i32_w]
         rfl
        refine one_ (i := 15) (N := some 38) #[true, true, true, true, true, true, true, true, true, true, true, true, true, true, true, true, false, false, false] rfl rfl (one_of HT_.out (by kernel_rfl)) (by decide) (fun K hK => ?_)
        refine goes_ Tryz.func87 (by kernel_rfl) rfl #[.agg #[.int .i64 a0_0, .slice A0_1 l0_1.length c0_1], .slice A1 l1.length c1, .int .i64 x9_1] (by rfl) rfl rfl (by (try simp only [List.map_toArray, List.map_cons, List.map_nil]); first | done | rfl | (simp only [List.length_drop, List.length_take]; rfl)) ?_
        with_reducible refine (rule_Rank.calls a0_0 _ _ l0_1 _ _ l1 x9_1 t345 _ ?side1 ?side2 ?side3 ?side4 A21.out).mono ?_
        (case side1 => repeat (first | exact (Kd.C_below HR0_1.out HB.out) | (with_reducible refine Kd.C_alloc ?_ _) | (with_reducible refine Kd.C_drewN ?_ _) | (with_reducible refine Kd.C_drew ?_)))
        (case side2 => exact HC0_1.out)
        (case side3 => repeat (first | exact (Kd.C_below HR1.out HB.out) | (with_reducible refine Kd.C_alloc ?_ _) | (with_reducible refine Kd.C_drewN ?_ _) | (with_reducible refine Kd.C_drew ?_)))
        (case side4 => exact HC1.out)
        rintro e w26 ⟨rfl, hb⟩
        refine ⟨_, rfl, ?_⟩
        have n0_ := Aside0.mk (blk_below (g := gb341) (o := .cells #[.int .i64 a0_0, .slice A0_1 l0_1.length c0_1] 24 (0, 0)) (by (with_reducible repeat (first | refine blk_drewN ?_ _ | refine blk_drew ?_ | refine blk_alloc ?_ _)); exact BK341.out) hb)
        have n1_ := Aside0.mk (below_step (by repeat (first | (with_reducible first | exact HB.out | apply below_alloc | apply pw_below_drewN | apply below_drew1 | refine below_set ?_ GE341.out) | exact HB.out)) hb)
        clear BK341
        clear HB
        have BK341 := n0_
        have HB := n1_
        clear n0_ n1_
        (try clear hb)
        (try clear hb2)
        (try clear hk)
        (try clear hi)
        refine hK.out _ _ ⟨(blk_cell BK341.out 0).trans rfl, (blk_cell BK341.out 1).trans rfl⟩ (fun hHeld => ?_)
        clear hK K
        refine norm_ (a' := ?_) ?_ ?_
        rotate_left
        ·show Act.put _ (some 38) _ = _
         simp only [Act.put, List.setIfInBounds_toArray, List.set_cons_zero, List.set_cons_succ, i64_w, i32_w]
         rfl
        refine pure_ (i := 16) (N := some 39) (v := ?_) (a' := ?_) #[true, true, true, true, true, true, true, true, true, true, true, true, true, true, true, true, true, false, false] rfl rfl (any_of HT_.out (by kernel_rfl)) (fun _ _ _ h => h) (Or.inl ⟨by rfl, ?_⟩) ?_ ?_
        rotate_left
        ·intro w'
         go_simp
         with_reducible rfl
        rotate_left
        ·simp only [Act.put, List.setIfInBounds_toArray, List.set_cons_zero, List.set_cons_succ, i64_w, i32_w]
         rfl
        refine pure_ (i := 17) (N := some 40) (v := ?_) (a' := ?_) #[true, true, true, true, true, true, true, true, true, true, true, true, true, true, true, true, true, true, false] rfl rfl (any_of HT_.out (by kernel_rfl)) (fun _ _ _ h => h) (Or.inl ⟨by rfl, ?_⟩) ?_ ?_
        rotate_left
        ·intro w'
         go_simp
         with_reducible rfl
        rotate_left
        ·simp only [Act.put, List.setIfInBounds_toArray, List.set_cons_zero, List.set_cons_succ, i64_w, i32_w]
         rfl
        refine pure_ (i := 18) (N := some 41) (v := ?_) (a' := ?_) #[true, true, true, true, true, true, true, true, true, true, true, true, true, true, true, true, true, true, true] rfl rfl (any_of HT_.out (by kernel_rfl)) (fun _ _ _ h => h) (Or.inl ⟨by rfl, ?_⟩) ?_ ?_
        rotate_left
        ·intro w'
         go_simp
         with_reducible rfl
        rotate_left
        ·simp only [Act.put, List.setIfInBounds_toArray, List.set_cons_zero, List.set_cons_succ, i64_w, i32_w]
         rfl
        refine done_ (done_of HT_.out (by kernel_rfl)) ?_
        try go_wp2
        go_roundg k1
        case measure => have := HK1.out; omega
        case rel => exact ⟨(x20_1), (wrap64 (x20_1 + 1)), (by first | rfl | (simp; done) | (simp [*]; done)), (by first | rfl | (simp; done) | (simp [*]; done)), H', ⟨by have := HK1.out; omega⟩, ⟨by (with_reducible repeat (first | refine blk_drewN ?_ _ | refine blk_drew ?_ | refine blk_alloc ?_ _)); exact BK341.out⟩, ⟨by repeat (first | (with_reducible first | exact HB.out | apply below_alloc | apply pw_below_drewN | apply below_drew1 | refine below_set ?_ GE341.out) | exact HB.out)⟩⟩
       ·rw [if_neg c22] at H
        have c22b0 : decide (t344 ≤ t345) = false := decide_eq_false c22
        clear c22
        have H' := Aside0.mk H
        clear H
        try go_wp2
        have n0_ := Aside0.mk (blk_drew BK341.out)
        have n1_ := Aside0.mk (below_drew1 HB.out)
        clear BK341
        clear HB
        have BK341 := n0_
        have HB := n1_
        clear n0_ n1_
        refine start_ (n := 19) (S := fun w' => w'.cell? ⟨gb341, 0, none⟩ = some (.int .i64 a0_0) ∧ w'.cell? ⟨gb341, 1, none⟩ = some (.slice A0_1 l0_1.length c0_1)) (ds := []) #[false, false, false, false, false, false, false, false, false, false, false, false, false, false, false, false, false, false, false] (by kernel_rfl) rfl rfl ⟨(blk_cell BK341.out 0).trans rfl, (blk_cell BK341.out 1).trans rfl⟩ (fun hHeld => ?_); refine with_tabW rule_Choose.tab7 rule_Choose.bits7 (fun HT_ HW_ => ?_)
        generalize wr.drew = w27 at BK341 HB hHeld ⊢
        refine pure_ (i := 1) (N := some 24) (v := ?_) (a' := ?_) #[false, true, false, false, false, false, false, false, false, false, false, false, false, false, false, false, false, false, false] rfl rfl (any_of HT_.out (by kernel_rfl)) (fun _ _ _ h => h) (Or.inl ⟨by rfl, ?_⟩) ?_ ?_
        rotate_left
        ·intro w'
         go_simp
         with_reducible rfl
        rotate_left
        ·simp only [Act.put, List.setIfInBounds_toArray, List.set_cons_zero, List.set_cons_succ, i64_w, i32_w]
         rfl
        refine pure_ (i := 2) (N := some 25) (v := ?_) (a' := ?_) #[false, true, true, false, false, false, false, false, false, false, false, false, false, false, false, false, false, false, false] rfl rfl (any_of HT_.out (by kernel_rfl)) (fun _ _ _ h => h) (Or.inl ⟨by rfl, ?_⟩) ?_ ?_
        rotate_left
        ·intro w'
         go_simp
         with_reducible rfl
        rotate_left
        ·simp only [Act.put, List.setIfInBounds_toArray, List.set_cons_zero, List.set_cons_succ, i64_w, i32_w]
         rfl
        refine take_ (i := 0) (N := some 23) (v := ?_) (a' := ?_) #[true, true, true, false, false, false, false, false, false, false, false, false, false, false, false, false, false, false, false] rfl rfl (take_ofW HT_.out HW_.out (by kernel_rfl)) (fun _ _ _ h => h) (Or.inl ⟨by rfl, ?_⟩) hHeld ?_ ?_
        rotate_left
        ·rintro w' ⟨s0, s1⟩
         go_simp
         with_reducible rfl
        rotate_left
        ·simp only [Act.put, List.setIfInBounds_toArray, List.set_cons_zero, List.set_cons_succ, i64_w, i32_w]
         rfl
        refine one_ (i := 3) (N := some 26) #[true, true, true, true, false, false, false, false, false, false, false, false, false, false, false, false, false, false, false] rfl rfl (one_of HT_.out (by kernel_rfl)) (by decide) (fun K hK => ?_)
        refine goes_ Tryz.func86 (by kernel_rfl) rfl #[.agg #[.int .i64 a0_0, .slice A0_1 l0_1.length c0_1], .slice A1 l1.length c1, .int .i64 x20_1] (by rfl) rfl rfl (by (try simp only [List.map_toArray, List.map_cons, List.map_nil]); first | done | rfl | (simp only [List.length_drop, List.length_take]; rfl)) ?_
        with_reducible refine (rule_is.calls a0_0 _ _ l0_1 _ _ l1 x20_1 true _ ?side1 ?side2 ?side3 ?side4 A15.out).mono ?_
        (case side1 => repeat (first | exact (Kd.C_below HR0_1.out HB.out) | (with_reducible refine Kd.C_alloc ?_ _) | (with_reducible refine Kd.C_drewN ?_ _) | (with_reducible refine Kd.C_drew ?_)))
        (case side2 => exact HC0_1.out)
        (case side3 => repeat (first | exact (Kd.C_below HR1.out HB.out) | (with_reducible refine Kd.C_alloc ?_ _) | (with_reducible refine Kd.C_drewN ?_ _) | (with_reducible refine Kd.C_drew ?_)))
        (case side4 => exact HC1.out)
        rintro e w28 ⟨rfl, hb⟩
        refine ⟨_, rfl, ?_⟩
        have n0_ := Aside0.mk (blk_below (g := gb341) (o := .cells #[.int .i64 a0_0, .slice A0_1 l0_1.length c0_1] 24 (0, 0)) (by (with_reducible repeat (first | refine blk_drewN ?_ _ | refine blk_drew ?_ | refine blk_alloc ?_ _)); exact BK341.out) hb)
        have n1_ := Aside0.mk (below_step (by repeat (first | (with_reducible first | exact HB.out | apply below_alloc | apply pw_below_drewN | apply below_drew1 | refine below_set ?_ GE341.out) | exact HB.out)) hb)
        clear BK341
        clear HB
        have BK341 := n0_
        have HB := n1_
        clear n0_ n1_
        (try clear hb)
        (try clear hb2)
        (try clear hk)
        (try clear hi)
        refine hK.out _ _ ⟨(blk_cell BK341.out 0).trans rfl, (blk_cell BK341.out 1).trans rfl⟩ (fun hHeld => ?_)
        clear hK K
        refine norm_ (a' := ?_) ?_ ?_
        rotate_left
        ·show Act.put _ (some 26) _ = _
         simp only [Act.put, List.setIfInBounds_toArray, List.set_cons_zero, List.set_cons_succ, i64_w, i32_w]
         rfl
        refine pure_ (i := 4) (N := some 27) (v := ?_) (a' := ?_) #[true, true, true, true, true, false, false, false, false, false, false, false, false, false, false, false, false, false, false] rfl rfl (any_of HT_.out (by kernel_rfl)) (fun _ _ _ h => h) (Or.inl ⟨by rfl, ?_⟩) ?_ ?_
        rotate_left
        ·intro w'
         go_simp
         with_reducible rfl
        rotate_left
        ·simp only [Act.put, List.setIfInBounds_toArray, List.set_cons_zero, List.set_cons_succ, i64_w, i32_w]
         rfl
        refine pure_ (i := 5) (N := some 28) (v := ?_) (a' := ?_) #[true, true, true, true, true, true, false, false, false, false, false, false, false, false, false, false, false, false, false] rfl rfl (any_of HT_.out (by kernel_rfl)) (fun _ _ _ h => h) (Or.inl ⟨by rfl, ?_⟩) ?_ ?_
        rotate_left
        ·intro w'
         go_simp
         with_reducible rfl
        rotate_left
        ·simp only [Act.put, List.setIfInBounds_toArray, List.set_cons_zero, List.set_cons_succ, i64_w, i32_w]
         rfl
        refine pure_ (i := 6) (N := some 29) (v := ?_) (a' := ?_) #[true, true, true, true, true, true, true, false, false, false, false, false, false, false, false, false, false, false, false] rfl rfl (any_of HT_.out (by kernel_rfl)) (fun _ _ _ h => h) (Or.inl ⟨by rfl, ?_⟩) ?_ ?_
        rotate_left
        ·intro w'
         go_simp
         with_reducible rfl
        rotate_left
        ·simp only [Act.put, List.setIfInBounds_toArray, List.set_cons_zero, List.set_cons_succ, i64_w, i32_w]
         rfl
        refine pure_ (i := 7) (N := some 30) (v := ?_) (a' := ?_) #[true, true, true, true, true, true, true, true, false, false, false, false, false, false, false, false, false, false, false] rfl rfl (any_of HT_.out (by kernel_rfl)) (fun _ _ _ h => h) (Or.inl ⟨by rfl, ?_⟩) ?_ ?_
        rotate_left
        ·intro w'
         go_simp
         with_reducible rfl
        rotate_left
        ·simp only [Act.put, List.setIfInBounds_toArray, List.set_cons_zero, List.set_cons_succ, i64_w, i32_w]
         rfl
        refine pure_ (i := 9) (N := some 32) (v := ?_) (a' := ?_) #[true, true, true, true, true, true, true, true, false, true, false, false, false, false, false, false, false, false, false] rfl rfl (any_of HT_.out (by kernel_rfl)) (fun _ _ _ h => h) (Or.inl ⟨by rfl, ?_⟩) ?_ ?_
        rotate_left
        ·intro w'
         go_simp
         with_reducible rfl
        rotate_left
        ·simp only [Act.put, List.setIfInBounds_toArray, List.set_cons_zero, List.set_cons_succ, i64_w, i32_w]
         rfl
        refine pure_ (i := 10) (N := some 33) (v := ?_) (a' := ?_) #[true, true, true, true, true, true, true, true, false, true, true, false, false, false, false, false, false, false, false] rfl rfl (any_of HT_.out (by kernel_rfl)) (fun _ _ _ h => h) (Or.inl ⟨by rfl, ?_⟩) ?_ ?_
        rotate_left
        ·intro w'
         go_simp
         with_reducible rfl
        rotate_left
        ·simp only [Act.put, List.setIfInBounds_toArray, List.set_cons_zero, List.set_cons_succ, i64_w, i32_w]
         rfl
        refine pure_ (i := 13) (N := some 36) (v := ?_) (a' := ?_) #[true, true, true, true, true, true, true, true, false, true, true, false, false, true, false, false, false, false, false] rfl rfl (any_of HT_.out (by kernel_rfl)) (fun _ _ _ h => h) (Or.inl ⟨by rfl, ?_⟩) ?_ ?_
        rotate_left
        ·intro w'
         go_simp
         with_reducible rfl
        rotate_left
        ·simp only [Act.put, List.setIfInBounds_toArray, List.set_cons_zero, List.set_cons_succ, i64_w, i32_w]
         rfl
        refine pure_ (i := 14) (N := some 37) (v := ?_) (a' := ?_) #[true, true, true, true, true, true, true, true, false, true, true, false, false, true, true, false, false, false, false] rfl rfl (any_of HT_.out (by kernel_rfl)) (fun _ _ _ h => h) (Or.inl ⟨by rfl, ?_⟩) ?_ ?_
        rotate_left
        ·intro w'
         go_simp
         with_reducible rfl
        rotate_left
        ·simp only [Act.put, List.setIfInBounds_toArray, List.set_cons_zero, List.set_cons_succ, i64_w, i32_w]
         rfl
        refine take_ (i := 8) (N := some 31) (v := ?_) (a' := ?_) #[true, true, true, true, true, true, true, true, true, true, true, false, false, true, true, false, false, false, false] rfl rfl (take_ofW HT_.out HW_.out (by kernel_rfl)) (fun _ _ _ h => h) (Or.inl ⟨by rfl, ?_⟩) hHeld ?_ ?_
        rotate_left
        ·rintro w' ⟨s0, s1⟩
         go_simp
         with_reducible rfl
        rotate_left
        ·simp only [Act.put, List.setIfInBounds_toArray, List.set_cons_zero, List.set_cons_succ, i64_w, i32_w]
         rfl
        refine take_ (i := 12) (N := some 35) (v := ?_) (a' := ?_) #[true, true, true, true, true, true, true, true, true, true, true, false, true, true, true, false, false, false, false] rfl rfl (take_ofW HT_.out HW_.out (by kernel_rfl)) (fun _ _ _ h => h) (Or.inl ⟨by rfl, ?_⟩) hHeld ?_ ?_
        rotate_left
        ·rintro w' ⟨s0, s1⟩
         go_simp
         with_reducible rfl
        rotate_left
        ·simp only [Act.put, List.setIfInBounds_toArray, List.set_cons_zero, List.set_cons_succ, i64_w, i32_w]
         rfl
        refine one_ (i := 11) (N := some 34) #[true, true, true, true, true, true, true, true, true, true, true, true, true, true, true, false, false, false, false] rfl rfl (one_of HT_.out (by kernel_rfl)) (by decide) (fun K hK => ?_)
        refine goes_ Tryz.func87 (by kernel_rfl) rfl #[.agg #[.int .i64 a0_0, .slice A0_1 l0_1.length c0_1], .slice A1 l1.length c1, .int .i64 x20_1] (by rfl) rfl rfl (by (try simp only [List.map_toArray, List.map_cons, List.map_nil]); first | done | rfl | (simp only [List.length_drop, List.length_take]; rfl)) ?_
        with_reducible refine (rule_Rank.calls a0_0 _ _ l0_1 _ _ l1 x20_1 t344 _ ?side1 ?side2 ?side3 ?side4 A20.out).mono ?_
        (case side1 => repeat (first | exact (Kd.C_below HR0_1.out HB.out) | (with_reducible refine Kd.C_alloc ?_ _) | (with_reducible refine Kd.C_drewN ?_ _) | (with_reducible refine Kd.C_drew ?_)))
        (case side2 => exact HC0_1.out)
        (case side3 => repeat (first | exact (Kd.C_below HR1.out HB.out) | (with_reducible refine Kd.C_alloc ?_ _) | (with_reducible refine Kd.C_drewN ?_ _) | (with_reducible refine Kd.C_drew ?_)))
        (case side4 => exact HC1.out)
        rintro e w29 ⟨rfl, hb⟩
        refine ⟨_, rfl, ?_⟩
        have n0_ := Aside0.mk (blk_below (g := gb341) (o := .cells #[.int .i64 a0_0, .slice A0_1 l0_1.length c0_1] 24 (0, 0)) (by (with_reducible repeat (first | refine blk_drewN ?_ _ | refine blk_drew ?_ | refine blk_alloc ?_ _)); exact BK341.out) hb)
        have n1_ := Aside0.mk (below_step (by repeat (first | (with_reducible first | exact HB.out | apply below_alloc | apply pw_below_drewN | apply below_drew1 | refine below_set ?_ GE341.out) | exact HB.out)) hb)
        clear BK341
        clear HB
        have BK341 := n0_
        have HB := n1_
        clear n0_ n1_
        (try clear hb)
        (try clear hb2)
        (try clear hk)
        (try clear hi)
        refine hK.out _ _ ⟨(blk_cell BK341.out 0).trans rfl, (blk_cell BK341.out 1).trans rfl⟩ (fun hHeld => ?_)
        clear hK K
        refine norm_ (a' := ?_) ?_ ?_
        rotate_left
        ·show Act.put _ (some 34) _ = _
         simp only [Act.put, List.setIfInBounds_toArray, List.set_cons_zero, List.set_cons_succ, i64_w, i32_w]
         rfl
        refine one_ (i := 15) (N := some 38) #[true, true, true, true, true, true, true, true, true, true, true, true, true, true, true, true, false, false, false] rfl rfl (one_of HT_.out (by kernel_rfl)) (by decide) (fun K hK => ?_)
        refine goes_ Tryz.func87 (by kernel_rfl) rfl #[.agg #[.int .i64 a0_0, .slice A0_1 l0_1.length c0_1], .slice A1 l1.length c1, .int .i64 x9_1] (by rfl) rfl rfl (by (try simp only [List.map_toArray, List.map_cons, List.map_nil]); first | done | rfl | (simp only [List.length_drop, List.length_take]; rfl)) ?_
        with_reducible refine (rule_Rank.calls a0_0 _ _ l0_1 _ _ l1 x9_1 t345 _ ?side1 ?side2 ?side3 ?side4 A21.out).mono ?_
        (case side1 => repeat (first | exact (Kd.C_below HR0_1.out HB.out) | (with_reducible refine Kd.C_alloc ?_ _) | (with_reducible refine Kd.C_drewN ?_ _) | (with_reducible refine Kd.C_drew ?_)))
        (case side2 => exact HC0_1.out)
        (case side3 => repeat (first | exact (Kd.C_below HR1.out HB.out) | (with_reducible refine Kd.C_alloc ?_ _) | (with_reducible refine Kd.C_drewN ?_ _) | (with_reducible refine Kd.C_drew ?_)))
        (case side4 => exact HC1.out)
        rintro e w30 ⟨rfl, hb⟩
        refine ⟨_, rfl, ?_⟩
        have n0_ := Aside0.mk (blk_below (g := gb341) (o := .cells #[.int .i64 a0_0, .slice A0_1 l0_1.length c0_1] 24 (0, 0)) (by (with_reducible repeat (first | refine blk_drewN ?_ _ | refine blk_drew ?_ | refine blk_alloc ?_ _)); exact BK341.out) hb)
        have n1_ := Aside0.mk (below_step (by repeat (first | (with_reducible first | exact HB.out | apply below_alloc | apply pw_below_drewN | apply below_drew1 | refine below_set ?_ GE341.out) | exact HB.out)) hb)
        clear BK341
        clear HB
        have BK341 := n0_
        have HB := n1_
        clear n0_ n1_
        (try clear hb)
        (try clear hb2)
        (try clear hk)
        (try clear hi)
        refine hK.out _ _ ⟨(blk_cell BK341.out 0).trans rfl, (blk_cell BK341.out 1).trans rfl⟩ (fun hHeld => ?_)
        clear hK K
        refine norm_ (a' := ?_) ?_ ?_
        rotate_left
        ·show Act.put _ (some 38) _ = _
         simp only [Act.put, List.setIfInBounds_toArray, List.set_cons_zero, List.set_cons_succ, i64_w, i32_w]
         rfl
        refine pure_ (i := 16) (N := some 39) (v := ?_) (a' := ?_) #[true, true, true, true, true, true, true, true, true, true, true, true, true, true, true, true, true, false, false] rfl rfl (any_of HT_.out (by kernel_rfl)) (fun _ _ _ h => h) (Or.inl ⟨by rfl, ?_⟩) ?_ ?_
        rotate_left
        ·intro w'
         go_simp
         with_reducible rfl
        rotate_left
        ·simp only [Act.put, List.setIfInBounds_toArray, List.set_cons_zero, List.set_cons_succ, i64_w, i32_w]
         rfl
        refine pure_ (i := 17) (N := some 40) (v := ?_) (a' := ?_) #[true, true, true, true, true, true, true, true, true, true, true, true, true, true, true, true, true, true, false] rfl rfl (any_of HT_.out (by kernel_rfl)) (fun _ _ _ h => h) (Or.inl ⟨by rfl, ?_⟩) ?_ ?_
        rotate_left
        ·intro w'
         go_simp
         with_reducible rfl
        rotate_left
        ·simp only [Act.put, List.setIfInBounds_toArray, List.set_cons_zero, List.set_cons_succ, i64_w, i32_w]
         rfl
        refine pure_ (i := 18) (N := some 41) (v := ?_) (a' := ?_) #[true, true, true, true, true, true, true, true, true, true, true, true, true, true, true, true, true, true, true] rfl rfl (any_of HT_.out (by kernel_rfl)) (fun _ _ _ h => h) (Or.inl ⟨by rfl, ?_⟩) ?_ ?_
        rotate_left
        ·intro w'
         go_simp
         with_reducible rfl
        rotate_left
        ·simp only [Act.put, List.setIfInBounds_toArray, List.set_cons_zero, List.set_cons_succ, i64_w, i32_w]
         rfl
        refine done_ (done_of HT_.out (by kernel_rfl)) ?_
        try go_wp2
        go_roundg k1
        case measure => have := HK1.out; omega
        case rel => exact ⟨(x9_1), (wrap64 (x20_1 + 1)), (by first | rfl | (simp; done) | (simp [*]; done)), (by first | rfl | (simp; done) | (simp [*]; done)), H', ⟨by have := HK1.out; omega⟩, ⟨by (with_reducible repeat (first | refine blk_drewN ?_ _ | refine blk_drew ?_ | refine blk_alloc ?_ _)); exact BK341.out⟩, ⟨by repeat (first | (with_reducible first | exact HB.out | apply below_alloc | apply pw_below_drewN | apply below_drew1 | refine below_set ?_ GE341.out) | exact HB.out)⟩⟩
     ·replace c16 := Bool.eq_false_iff.mpr c16
      subst c16
      have H1 : (rule_Choose.l0 k1 l1 x9_1 (l0_1.length : Int) (wrap64 (x20_1 + 1)) a0_0 l0_1) = some r := by rw [if_neg (show ¬ (false = true) by decide)] at H; exact H
      clear H
      have H := H1
      clear H1
      have H' := Aside0.mk H
      clear H
      try go_wp2
      have n0_ := Aside0.mk (blk_drew BK341.out)
      have n1_ := Aside0.mk (below_drew1 HB.out)
      clear BK341
      clear HB
      have BK341 := n0_
      have HB := n1_
      clear n0_ n1_
      refine start_ (n := 19) (S := fun w' => w'.cell? ⟨gb341, 0, none⟩ = some (.int .i64 a0_0) ∧ w'.cell? ⟨gb341, 1, none⟩ = some (.slice A0_1 l0_1.length c0_1)) (ds := []) #[false, false, false, false, false, false, false, false, false, false, false, false, false, false, false, false, false, false, false] (by kernel_rfl) rfl rfl ⟨(blk_cell BK341.out 0).trans rfl, (blk_cell BK341.out 1).trans rfl⟩ (fun hHeld => ?_); refine with_tabW rule_Choose.tab7 rule_Choose.bits7 (fun HT_ HW_ => ?_)
      generalize wr.drew = w31 at BK341 HB hHeld ⊢
      refine pure_ (i := 1) (N := some 24) (v := ?_) (a' := ?_) #[false, true, false, false, false, false, false, false, false, false, false, false, false, false, false, false, false, false, false] rfl rfl (any_of HT_.out (by kernel_rfl)) (fun _ _ _ h => h) (Or.inl ⟨by rfl, ?_⟩) ?_ ?_
      rotate_left
      ·intro w'
       go_simp
       with_reducible rfl
      rotate_left
      ·simp only [Act.put, List.setIfInBounds_toArray, List.set_cons_zero, List.set_cons_succ, i64_w, i32_w]
       rfl
      refine pure_ (i := 2) (N := some 25) (v := ?_) (a' := ?_) #[false, true, true, false, false, false, false, false, false, false, false, false, false, false, false, false, false, false, false] rfl rfl (any_of HT_.out (by kernel_rfl)) (fun _ _ _ h => h) (Or.inl ⟨by rfl, ?_⟩) ?_ ?_
      rotate_left
      ·intro w'
       go_simp
       with_reducible rfl
      rotate_left
      ·simp only [Act.put, List.setIfInBounds_toArray, List.set_cons_zero, List.set_cons_succ, i64_w, i32_w]
       rfl
      refine take_ (i := 0) (N := some 23) (v := ?_) (a' := ?_) #[true, true, true, false, false, false, false, false, false, false, false, false, false, false, false, false, false, false, false] rfl rfl (take_ofW HT_.out HW_.out (by kernel_rfl)) (fun _ _ _ h => h) (Or.inl ⟨by rfl, ?_⟩) hHeld ?_ ?_
      rotate_left
      ·rintro w' ⟨s0, s1⟩
       go_simp
       with_reducible rfl
      rotate_left
      ·simp only [Act.put, List.setIfInBounds_toArray, List.set_cons_zero, List.set_cons_succ, i64_w, i32_w]
       rfl
      refine one_ (i := 3) (N := some 26) #[true, true, true, true, false, false, false, false, false, false, false, false, false, false, false, false, false, false, false] rfl rfl (one_of HT_.out (by kernel_rfl)) (by decide) (fun K hK => ?_)
      refine goes_ Tryz.func86 (by kernel_rfl) rfl #[.agg #[.int .i64 a0_0, .slice A0_1 l0_1.length c0_1], .slice A1 l1.length c1, .int .i64 x20_1] (by rfl) rfl rfl (by (try simp only [List.map_toArray, List.map_cons, List.map_nil]); first | done | rfl | (simp only [List.length_drop, List.length_take]; rfl)) ?_
      with_reducible refine (rule_is.calls a0_0 _ _ l0_1 _ _ l1 x20_1 false _ ?side1 ?side2 ?side3 ?side4 A15.out).mono ?_
      (case side1 => repeat (first | exact (Kd.C_below HR0_1.out HB.out) | (with_reducible refine Kd.C_alloc ?_ _) | (with_reducible refine Kd.C_drewN ?_ _) | (with_reducible refine Kd.C_drew ?_)))
      (case side2 => exact HC0_1.out)
      (case side3 => repeat (first | exact (Kd.C_below HR1.out HB.out) | (with_reducible refine Kd.C_alloc ?_ _) | (with_reducible refine Kd.C_drewN ?_ _) | (with_reducible refine Kd.C_drew ?_)))
      (case side4 => exact HC1.out)
      rintro e w32 ⟨rfl, hb⟩
      refine ⟨_, rfl, ?_⟩
      have n0_ := Aside0.mk (blk_below (g := gb341) (o := .cells #[.int .i64 a0_0, .slice A0_1 l0_1.length c0_1] 24 (0, 0)) (by (with_reducible repeat (first | refine blk_drewN ?_ _ | refine blk_drew ?_ | refine blk_alloc ?_ _)); exact BK341.out) hb)
      have n1_ := Aside0.mk (below_step (by repeat (first | (with_reducible first | exact HB.out | apply below_alloc | apply pw_below_drewN | apply below_drew1 | refine below_set ?_ GE341.out) | exact HB.out)) hb)
      clear BK341
      clear HB
      have BK341 := n0_
      have HB := n1_
      clear n0_ n1_
      (try clear hb)
      (try clear hb2)
      (try clear hk)
      (try clear hi)
      refine hK.out _ _ ⟨(blk_cell BK341.out 0).trans rfl, (blk_cell BK341.out 1).trans rfl⟩ (fun hHeld => ?_)
      clear hK K
      refine norm_ (a' := ?_) ?_ ?_
      rotate_left
      ·show Act.put _ (some 26) _ = _
       simp only [Act.put, List.setIfInBounds_toArray, List.set_cons_zero, List.set_cons_succ, i64_w, i32_w]
       rfl
      refine pure_ (i := 4) (N := some 27) (v := ?_) (a' := ?_) #[true, true, true, true, true, false, false, false, false, false, false, false, false, false, false, false, false, false, false] rfl rfl (any_of HT_.out (by kernel_rfl)) (fun _ _ _ h => h) (Or.inl ⟨by rfl, ?_⟩) ?_ ?_
      rotate_left
      ·intro w'
       go_simp
       with_reducible rfl
      rotate_left
      ·simp only [Act.put, List.setIfInBounds_toArray, List.set_cons_zero, List.set_cons_succ, i64_w, i32_w]
       rfl
      refine pure_ (i := 5) (N := some 28) (v := undef) (a' := ?_) #[true, true, true, true, true, true, false, false, false, false, false, false, false, false, false, false, false, false, false] rfl rfl (any_of HT_.out (by kernel_rfl)) (fun _ _ _ h => h) (Or.inr ⟨by rfl, rfl⟩) ?_ ?_
      rotate_left
      ·simp only [Act.put, List.setIfInBounds_toArray, List.set_cons_zero, List.set_cons_succ, i64_w, i32_w]
       rfl
      refine pure_ (i := 6) (N := some 29) (v := undef) (a' := ?_) #[true, true, true, true, true, true, true, false, false, false, false, false, false, false, false, false, false, false, false] rfl rfl (any_of HT_.out (by kernel_rfl)) (fun _ _ _ h => h) (Or.inr ⟨by rfl, rfl⟩) ?_ ?_
      rotate_left
      ·simp only [Act.put, List.setIfInBounds_toArray, List.set_cons_zero, List.set_cons_succ, i64_w, i32_w]
       rfl
      refine pure_ (i := 7) (N := some 30) (v := undef) (a' := ?_) #[true, true, true, true, true, true, true, true, false, false, false, false, false, false, false, false, false, false, false] rfl rfl (any_of HT_.out (by kernel_rfl)) (fun _ _ _ h => h) (Or.inr ⟨by rfl, rfl⟩) ?_ ?_
      rotate_left
      ·simp only [Act.put, List.setIfInBounds_toArray, List.set_cons_zero, List.set_cons_succ, i64_w, i32_w]
       rfl
      refine pure_ (i := 8) (N := some 31) (v := undef) (a' := ?_) #[true, true, true, true, true, true, true, true, true, false, false, false, false, false, false, false, false, false, false] rfl rfl (any_of HT_.out (by kernel_rfl)) (fun _ _ _ h => h) (Or.inr ⟨by rfl, rfl⟩) ?_ ?_
      rotate_left
      ·simp only [Act.put, List.setIfInBounds_toArray, List.set_cons_zero, List.set_cons_succ, i64_w, i32_w]
       rfl
      refine pure_ (i := 9) (N := some 32) (v := undef) (a' := ?_) #[true, true, true, true, true, true, true, true, true, true, false, false, false, false, false, false, false, false, false] rfl rfl (any_of HT_.out (by kernel_rfl)) (fun _ _ _ h => h) (Or.inr ⟨by rfl, rfl⟩) ?_ ?_
      rotate_left
      ·simp only [Act.put, List.setIfInBounds_toArray, List.set_cons_zero, List.set_cons_succ, i64_w, i32_w]
       rfl
      refine pure_ (i := 10) (N := some 33) (v := undef) (a' := ?_) #[true, true, true, true, true, true, true, true, true, true, true, false, false, false, false, false, false, false, false] rfl rfl (any_of HT_.out (by kernel_rfl)) (fun _ _ _ h => h) (Or.inr ⟨by rfl, rfl⟩) ?_ ?_
      rotate_left
      ·simp only [Act.put, List.setIfInBounds_toArray, List.set_cons_zero, List.set_cons_succ, i64_w, i32_w]
       rfl
      refine pure_ (i := 11) (N := some 34) (v := undef) (a' := ?_) #[true, true, true, true, true, true, true, true, true, true, true, true, false, false, false, false, false, false, false] rfl rfl (any_of HT_.out (by kernel_rfl)) (fun _ _ _ h => h) (Or.inr ⟨by rfl, rfl⟩) ?_ ?_
      rotate_left
      ·simp only [Act.put, List.setIfInBounds_toArray, List.set_cons_zero, List.set_cons_succ, i64_w, i32_w]
       rfl
      refine pure_ (i := 12) (N := some 35) (v := undef) (a' := ?_) #[true, true, true, true, true, true, true, true, true, true, true, true, true, false, false, false, false, false, false] rfl rfl (any_of HT_.out (by kernel_rfl)) (fun _ _ _ h => h) (Or.inr ⟨by rfl, rfl⟩) ?_ ?_
      rotate_left
      ·simp only [Act.put, List.setIfInBounds_toArray, List.set_cons_zero, List.set_cons_succ, i64_w, i32_w]
       rfl
      refine pure_ (i := 13) (N := some 36) (v := undef) (a' := ?_) #[true, true, true, true, true, true, true, true, true, true, true, true, true, true, false, false, false, false, false] rfl rfl (any_of HT_.out (by kernel_rfl)) (fun _ _ _ h => h) (Or.inr ⟨by rfl, rfl⟩) ?_ ?_
      rotate_left
      ·simp only [Act.put, List.setIfInBounds_toArray, List.set_cons_zero, List.set_cons_succ, i64_w, i32_w]
       rfl
      refine pure_ (i := 14) (N := some 37) (v := undef) (a' := ?_) #[true, true, true, true, true, true, true, true, true, true, true, true, true, true, true, false, false, false, false] rfl rfl (any_of HT_.out (by kernel_rfl)) (fun _ _ _ h => h) (Or.inr ⟨by rfl, rfl⟩) ?_ ?_
      rotate_left
      ·simp only [Act.put, List.setIfInBounds_toArray, List.set_cons_zero, List.set_cons_succ, i64_w, i32_w]
       rfl
      refine pure_ (i := 15) (N := some 38) (v := undef) (a' := ?_) #[true, true, true, true, true, true, true, true, true, true, true, true, true, true, true, true, false, false, false] rfl rfl (any_of HT_.out (by kernel_rfl)) (fun _ _ _ h => h) (Or.inr ⟨by rfl, rfl⟩) ?_ ?_
      rotate_left
      ·simp only [Act.put, List.setIfInBounds_toArray, List.set_cons_zero, List.set_cons_succ, i64_w, i32_w]
       rfl
      refine pure_ (i := 16) (N := some 39) (v := undef) (a' := ?_) #[true, true, true, true, true, true, true, true, true, true, true, true, true, true, true, true, true, false, false] rfl rfl (any_of HT_.out (by kernel_rfl)) (fun _ _ _ h => h) (Or.inr ⟨by rfl, rfl⟩) ?_ ?_
      rotate_left
      ·simp only [Act.put, List.setIfInBounds_toArray, List.set_cons_zero, List.set_cons_succ, i64_w, i32_w]
       rfl
      refine pure_ (i := 17) (N := some 40) (v := undef) (a' := ?_) #[true, true, true, true, true, true, true, true, true, true, true, true, true, true, true, true, true, true, false] rfl rfl (any_of HT_.out (by kernel_rfl)) (fun _ _ _ h => h) (Or.inr ⟨by rfl, rfl⟩) ?_ ?_
      rotate_left
      ·simp only [Act.put, List.setIfInBounds_toArray, List.set_cons_zero, List.set_cons_succ, i64_w, i32_w]
       rfl
      refine pure_ (i := 18) (N := some 41) (v := ?_) (a' := ?_) #[true, true, true, true, true, true, true, true, true, true, true, true, true, true, true, true, true, true, true] rfl rfl (any_of HT_.out (by kernel_rfl)) (fun _ _ _ h => h) (Or.inl ⟨by rfl, ?_⟩) ?_ ?_
      rotate_left
      ·intro w'
       go_simp
       with_reducible rfl
      rotate_left
      ·simp only [Act.put, List.setIfInBounds_toArray, List.set_cons_zero, List.set_cons_succ, i64_w, i32_w]
       rfl
      refine done_ (done_of HT_.out (by kernel_rfl)) ?_
      try go_wp2
      go_roundg k1
      case measure => have := HK1.out; omega
      case rel => exact ⟨(x9_1), (wrap64 (x20_1 + 1)), (by first | rfl | (simp; done) | (simp [*]; done)), (by first | rfl | (simp; done) | (simp [*]; done)), H', ⟨by have := HK1.out; omega⟩, ⟨by (with_reducible repeat (first | refine blk_drewN ?_ _ | refine blk_drew ?_ | refine blk_alloc ?_ _)); exact BK341.out⟩, ⟨by repeat (first | (with_reducible first | exact HB.out | apply below_alloc | apply pw_below_drewN | apply below_drew1 | refine below_set ?_ GE341.out) | exact HB.out)⟩⟩
    ·rw [if_neg c14] at H
     have c14b0 : decide (x20_1 < (l0_1.length : Int)) = false := decide_eq_false c14
     clear c14
     obtain rfl := Option.some.inj H
     go_wp2
     go_ret
     exact ⟨by first | rfl | (simp [errW_none, errW_some] <;> rfl) | (simp [*, errW_none, errW_some] <;> rfl), by repeat (first | (with_reducible first | exact HB.out | apply below_alloc | apply pw_below_drewN | apply below_drew1 | refine below_set ?_ GE341.out) | exact HB.out)⟩
end Go.Proofs.YtaofmmnfenlofaaGreatDoor.QTc
namespace Go.Proofs.YtaofmmnfenlofaaGreatDoor.QTc
open Go.RowKit Go.Proofs.YtaofmmnfenlofaaGreatDoorW.PrintWords Go.Proofs.YtaofmmnfenlofaaGreatDoorW.PrintLast Go.Proofs.YtaofmmnfenlofaaGreatDoorW.PrintMore
set_option linter.unusedVariables false
set_option linter.unusedSimpArgs false
theorem waits_l (l : List S132) (hl : l.length ≤ 8) (q t : Int) : ∀ (d i k : Nat) (x7 : Int) (x8 : Bool), i + d = l.length → d < k → ∃ b, rule_waits.l0 k q t x7 x8 l (l.length : Int) (i : Int) = some b
  | d, i, 0, x7, x8, h, hk => absurd hk (by omega)
  | 0, i, k + 1, x7, x8, h, hk => by
    unfold rule_waits.l0
    rw [if_neg (show ¬ (i : Int) < (l.length : Int) by omega)]
    split
    · exact ⟨_, rfl⟩
    · exact ⟨_, rfl⟩
  | d + 1, i, k + 1, x7, x8, h, hk => by
    unfold rule_waits.l0
    rw [if_pos (show (i : Int) < (l.length : Int) by omega), if_pos (show 0 ≤ (i : Int) by omega), if_pos (show (i : Int) < (l.length : Int) by omega)]
    rw [show wrap64 ((i : Int) + 1) = ((i + 1 : Nat) : Int) by rw [IntWalk.wrap64_in _ (by omega)]; omega]
    split
    · split
      · split
        · exact waits_l l hl q t d (i + 1) k _ _ (by omega) (by omega)
        · exact waits_l l hl q t d (i + 1) k _ _ (by omega) (by omega)
      · exact waits_l l hl q t d (i + 1) k _ _ (by omega) (by omega)
    · exact waits_l l hl q t d (i + 1) k _ _ (by omega) (by omega)
theorem is_some (rl : Int) (T : List S46) (l : List S132) (hl : l.length = T.length) (a : Int) : rule_is.f rl T l a = some (hasS l a) := by
  unfold rule_is.f hasS
  by_cases h0 : a ≥ 0
  · rw [if_pos h0]
    by_cases h1 : a < (T.length : Int)
    · rw [if_pos h1, if_pos h0, if_pos (by omega)]
      rw [decide_eq_true h0, decide_eq_true (show a < (l.length : Int) by omega)]; simp
    · rw [if_neg h1, decide_eq_false (show ¬ a < (l.length : Int) by omega)]; simp
  · rw [if_neg h0, decide_eq_false (show ¬ 0 ≤ a by omega)]; simp
theorem rank_some (rl : Int) (T : List S46) (l : List S132) (hl : l.length = T.length) (a : Int) : ∃ r, rule_Rank.f rl T l a = some r := by
  unfold rule_Rank.f
  rw [is_some rl T l hl]
  simp only [Option.bind_some]
  by_cases h : hasS l a = true
  · have h0 : 0 ≤ a ∧ a < (l.length : Int) := by
      unfold hasS at h
      rw [Bool.and_eq_true, Bool.and_eq_true] at h
      exact ⟨of_decide_eq_true h.1, of_decide_eq_true h.2.1⟩
    rw [if_pos h, if_pos h0.1, if_pos (by omega), if_pos h0.2]
    split
    · split
      · exact ⟨_, rfl⟩
      · exact ⟨_, rfl⟩
    · exact ⟨_, rfl⟩
  · rw [if_neg h]; exact ⟨_, rfl⟩
theorem held_some (rl : Int) (T : List S46) (l : List S132) (hl : l.length = T.length) (h8 : T.length ≤ 8) (a t : Int) : ∃ b, rule_Held.f 20 rl T l a t = some b ∧ (b = true → hasS l a = true) := by
  unfold rule_Held.f
  rw [is_some rl T l hl]
  simp only [Option.bind_some]
  by_cases h : hasS l a = true
  · have h0 : 0 ≤ a ∧ a < (l.length : Int) := by
      unfold hasS at h
      rw [Bool.and_eq_true, Bool.and_eq_true] at h
      exact ⟨of_decide_eq_true h.1, of_decide_eq_true h.2.1⟩
    rw [if_pos h, if_pos h0.1, if_pos h0.2]
    rw [rule_Held.j0]
    split
    · exact ⟨_, rfl, fun _ => h⟩
    · rw [if_pos h0.1, if_pos (show a < (T.length : Int) by omega), if_pos h0.2]
      split
      · exact ⟨_, rfl, fun _ => h⟩
      · split
        · rw [if_pos (show a ≤ (l.length : Int) by omega)]
          obtain ⟨b, hb⟩ := waits_l (l.take a.toNat) (by rw [List.length_take]; omega) ((rd_T46 T a).f4) t (l.take a.toNat).length 0 19 0 false (by omega) (by rw [List.length_take]; omega)
          refine ⟨b, ?_, fun _ => h⟩
          unfold rule_waits.f
          rw [show ((0 : Nat) : Int) = 0 from rfl] at hb
          rw [hb]; rfl
        · exact ⟨_, rfl, fun _ => h⟩
  · rw [if_neg h]
    rw [rule_Held.j0]
    exact ⟨false, rfl, fun x => by cases x⟩
def Who (T : List S46) (l : List S132) (r : Int) : Prop := r = -1 ∨ ∃ i : Nat, r = (i : Int) ∧ i < T.length ∧ hasS l (i : Int) = true
theorem choose_l (rl : Int) (T : List S46) (l : List S132) (hl : l.length = T.length) (h8 : T.length ≤ 8) : ∀ (d i k : Nat) (x : Int), i + d = T.length → d < k → Who T l x → ∃ r, rule_Choose.l0 k l x (T.length : Int) (i : Int) rl T = some r ∧ Who T l r
  | d, i, 0, x, h, hk, hx => absurd hk (by omega)
  | 0, i, k + 1, x, h, hk, hx => by
    unfold rule_Choose.l0
    rw [if_neg (show ¬ (i : Int) < (T.length : Int) by omega)]
    exact ⟨_, rfl, hx⟩
  | d + 1, i, k + 1, x, h, hk, hx => by
    unfold rule_Choose.l0
    rw [if_pos (show (i : Int) < (T.length : Int) by omega), is_some rl T l hl]
    simp only [Option.bind_some]
    rw [show wrap64 ((i : Int) + 1) = ((i + 1 : Nat) : Int) by rw [IntWalk.wrap64_in _ (by omega)]; omega]
    by_cases hi : hasS l (i : Int) = true
    · rw [if_pos hi]
      have hw : Who T l (i : Int) := Or.inr ⟨i, rfl, by omega, hi⟩
      split
      · exact choose_l rl T l hl h8 d (i + 1) k _ (by omega) (by omega) hw
      · obtain ⟨r1, e1⟩ := rank_some rl T l hl (i : Int)
        obtain ⟨r2, e2⟩ := rank_some rl T l hl x
        rw [e1, e2]
        simp only [Option.bind_some]
        split
        · exact choose_l rl T l hl h8 d (i + 1) k _ (by omega) (by omega) hw
        · exact choose_l rl T l hl h8 d (i + 1) k _ (by omega) (by omega) hx
    · rw [if_neg hi]
      exact choose_l rl T l hl h8 d (i + 1) k _ (by omega) (by omega) hx
theorem choose_some (rl : Int) (T : List S46) (l : List S132) (hl : l.length = T.length) (h8 : T.length ≤ 8) (a t : Int) : ∃ r, rule_Choose.f 20 rl T l a t = some r ∧ Who T l r := by
  unfold rule_Choose.f
  obtain ⟨b, hb, hb2⟩ := held_some rl T l hl h8 a t
  rw [hb]
  simp only [Option.bind_some]
  split
  · rename_i h
    have := hb2 h
    refine ⟨_, rfl, Or.inr ?_⟩
    unfold hasS at this
    rw [Bool.and_eq_true, Bool.and_eq_true] at this
    have h0 : 0 ≤ a := of_decide_eq_true this.1
    have h1 : a < (l.length : Int) := of_decide_eq_true this.2.1
    refine ⟨a.toNat, by omega, by omega, ?_⟩
    rw [show ((a.toNat : Nat) : Int) = a by omega]; exact hb2 h
  · exact choose_l rl T l hl h8 T.length 0 20 (-1) (by omega) (by omega) (Or.inl rfl)
end Go.Proofs.YtaofmmnfenlofaaGreatDoor.QTc
namespace Go.Proofs.YtaofmmnfenlofaaGreatDoor.QTc
open Go.RowKit Go.Proofs.YtaofmmnfenlofaaGreatDoorW.PrintWords Go.Proofs.YtaofmmnfenlofaaGreatDoorW.PrintLast Go.Proofs.YtaofmmnfenlofaaGreatDoorW.PrintMore Go.Proofs.YtaofmmnfenlofaaGreatDoor.Pure
set_option linter.unusedVariables false
set_option linter.unusedSimpArgs false
theorem cell_far3 {w9 : World} {ob o1 o2 o3 : Nat} {u1 u2 u3 : Value} {p : Addr} (h : p.block ≠ ob) : (((w9.setCell ⟨ob, o1, none⟩ u1).setCell ⟨ob, o2, none⟩ u2).setCell ⟨ob, o3, none⟩ u3).cell? p = w9.cell? p := by
  rw [cell_far (p := ⟨ob, o3, none⟩) h, cell_far (p := ⟨ob, o2, none⟩) h, cell_far (p := ⟨ob, o1, none⟩) h]
theorem nil_C (w : World) : Kd.C (Kd.int .i64) w none ([] : List Int).length [] := ⟨rfl, by simp, fun h => absurd h (by simp)⟩
theorem jNew_nil (w : World) (ad : Addr) (c : Nat) (rg : List Int) (hr : Kd.C (Kd.int .i64) w (some ad) rg.length rg) (hc : rg.length ≤ c) (h1 : 1 ≤ rg.length) (h8 : rg.length ≤ 8) (ho : rg.any oddTime = false) :
    Calls Tryz.prog 84 #[.slice (some ad) rg.length c, .slice none 0 0] w fun e w' => ∃ jb, e = .returned (.pointer (some ⟨jb, 0, none⟩)) ∧ w.heap.size ≤ jb ∧ JobIs w.heap.size w' jb ⟨rg, demL rg [], 0, 0, 0⟩ ∧ Below w.heap.size w w' :=
  jNew_calls w ad c rg none 0 [] hr hc (nil_C w) h1 h8 ho
set_option maxHeartbeats 16000000 in
set_option maxRecDepth 100000 in
theorem arrive_calls (B0 : Bs) (w : World) (g : Nat) (rl : Int) (T : List S46) (L : KL) (K : KS) (ev : Value) (s : Nat) (AD : Option Addr) (cD : Nat) (D : List (List Int)) (tou : Int) (hTw : TabW w) (h : KInv B0 w g rl T L K ev none) (hB0 : B0.e ≤ w.heap.size) (hlen : K.evs.length ≤ 100)
    (hs : s < 18446744073709551616) (hD : ∀ W, KpT B0 w W TsAll → Kd.C (Kd.slice 2 (Kd.int .i64)) W AD D.length D) (htick : 0 ≤ K.tick) (hodd : ∀ t ∈ T, 1 ≤ t.f6.length ∧ t.f6.length ≤ 8 ∧ t.f6.any oddTime = false) :
    Calls Tryz.prog 50 #[.pointer (some ⟨g, 0, none⟩), .agg #[.int .u64 (s : Int), .slice AD D.length cD, .int .u64 tou]] w (APost B0 w g rl T L (arriveA T D (listFrom s 64 0) K.abs)) := by
  obtain ⟨tv, pb, wb, cb, tb, sb, ob⟩ := L
  obtain ⟨A, c, rfl⟩ := Kd.R_slice h.tasks
  obtain ⟨k0, hk0⟩ := blist_ev hs
  have hk := hk0 k0 (Nat.le_refl _)
  have hm := list_mem s 64 0
  have hll := listFrom_le s 64 0
  generalize listFrom s 64 0 = l at hk hm hll ⊢
  have HI := Aside0.mk h
  have HL := Aside0.mk hlen
  have HB0 := Aside0.mk hB0
  have HD := Aside0.mk hD
  have HM := Aside0.mk hm
  have HT := Aside0.mk hTw
  have HTK := Aside0.mk htick
  have HODD := Aside0.mk hodd
  have h8 := h.n8
  have hml : D.length ≤ 9223372036854775807 := (hD w (KpT.refl _ _ _)).2.1
  clear h hlen hB0 hk0 hD hm hTw htick hodd
  generalize hr : arriveA T D l K.abs = R
  replace hr := Aside0.mk hr
  go_enter Tryz.func50, Tryz.ntmps50
  go_wp2_with (go_at_call 80; (with_reducible refine (bits_List.calls k0 _ l _ ?sideT hk).mono ?_); (case sideT => exact TabW.below HT.out (Below.alloc (Below.refl _ _) (Nat.le_refl _) _)); rintro e w1 ⟨v0, rfl, ho, hb⟩; obtain ⟨Ao, co, eo⟩ := Kd.R_slice ho; subst eo)
  have hbx : w1.heap[w.heap.size]? = some (.cells #[.int .u64 (s : Int), .slice AD D.length cD, .int .u64 tou] 52 (0, 0)) := (hb.block _ (by simp)).trans (heap_alloc_new w _)
  have hB1 : Below w.heap.size w w1 := (Below.alloc (Below.refl _ _) (Nat.le_refl _) _).trans (hb.mono (by simp))
  have HO := Aside0.mk ho
  have HBX := Aside0.mk hbx
  have HB1 := Aside0.mk hB1
  clear ho hb hbx hB1 hk
  go_loopg [5, 11] (l.length + 1) (fun kq v5 v11 w' => ∃ (j : Nat) (K' : KS) (ev' : Value), kq + j = l.length + 1 ∧ v11 = .int .i64 (j : Int) ∧ j ≤ l.length ∧ Aside0 (arriveA T D (l.drop j) K'.abs = R) ∧ Aside0 (K'.evs.length ≤ K.evs.length + j ∧ K'.tick = K.tick) ∧ KInv B0 w' g rl T ⟨.slice A T.length c, pb, wb, cb, tb, sb, ob⟩ K' ev' none ∧ KpT B0 w1 w' TsAll)
  case atStart => exact ⟨0, K, ev, by omega, rfl, by omega, ⟨by rw [List.drop_zero]; exact hr.out⟩, ⟨Nat.le_refl _, rfl⟩, HI.out.below HB1.out, KpT.refl _ _ _⟩
  case round =>
    clear HI hr
    obtain ⟨j, K', ev', hq, rfl, hj, hR, hE, hI, hK⟩ := hrel
    cases gk with
    | zero => exfalso; omega
    | succ k1 =>
    by_cases hlt : j < l.length
    · have hlt1 : decide ((j : Int) < (l.length : Int)) = true := decide_eq_true (by omega)
      have j0 : 0 ≤ (j : Int) := by omega
      have j1 : (j : Int) < (l.length : Int) := by omega
      have hx := HM.out (rd l (j : Int)) (List.mem_of_mem_drop (i := j) (by rw [rd_drop hlt]; exact List.mem_cons_self))
      have hR2 := hR.out
      rw [rd_drop hlt, arriveA] at hR2
      obtain ⟨ao, eao, hxo⟩ := Kd.at_int (Kd.R_reads' (hK.row HO.out (fun q hq => by rw [List.mem_singleton.mp hq]; decide))).2.2 (j : Int) j0 j1
      cases eao
      rw [Int.toNat_natCast] at hxo
      generalize rd l (j : Int) = x at hx hxo hR2
      obtain ⟨i, rfl⟩ := Int.eq_ofNat_of_zero_le hx.1
      have hBX := hK.blk HBX.out (by decide)
      have x1 : wr.cell? ⟨w.heap.size, 1, none⟩ = some (.slice AD D.length cD) := blk_cell hBX 1
      have k1_ : wr.cell? ⟨g, 1, none⟩ = some (.slice A T.length c) := blk_cell hI.ker 1
      have k2 : wr.cell? ⟨g, 2, none⟩ = some (.int .i64 K'.tick) := blk_cell hI.ker 2
      have k4 : wr.cell? ⟨g, 4, none⟩ = some (.pointer (some ⟨pb, 0, none⟩)) := blk_cell hI.ker 4
      have k6 : wr.cell? ⟨g, 6, none⟩ = some (.pointer (some ⟨tb, 0, none⟩)) := blk_cell hI.ker 6
      have k7 : wr.cell? ⟨g, 7, none⟩ = some (.slice (some ⟨ob, 0, none⟩) T.length T.length) := blk_cell hI.ker 7
      have hglt := blk_lt hI.ker
      replace hBX := Aside0.mk hBX
      have HI := Aside0.mk hI
      have HK := Aside0.mk hK
      clear hI hK hR
      by_cases hge : (i : Int) ≥ (T.length : Int)
      · have e1 : decide ((i : Int) ≥ (T.length : Int)) = true := decide_eq_true hge
        have e1' : decide (i ≥ T.length) = true := decide_eq_true (by omega)
        have hst := Aside0.mk (show arriveA T D (l.drop (j + 1)) K'.abs = R by rw [← hR2]; unfold arrive1; rw [if_pos hge])
        clear hR2 hge
        go_wp2
        go_roundg k1
        case measure => exact Nat.lt_succ_self _
        case rel => exact ⟨j + 1, K', ev', by omega, by rw [show ((j : Int) + 1) = ((j + 1 : Nat) : Int) by omega], by omega, hst, ⟨by have := hE.out.1; omega, hE.out.2⟩, by repeat (first | exact HI.out | apply KInv.drewN | apply KInv.drew), by repeat (first | exact HK.out | apply KpT.drewN | apply KpT.drew)⟩
      · have e1 : decide ((i : Int) ≥ (T.length : Int)) = false := decide_eq_false hge
        have e1' : decide (i ≥ T.length) = false := decide_eq_false (by omega)
        have hin : i < T.length := by omega
        have hwl : i < K'.wat.length := by rw [HI.out.lw]; exact hin
        have hwx : K'.wat[i]? = some (K'.wat.getD i zW) := by rw [List.getD_eq_getElem?_getD, List.getElem?_eq_getElem hwl]; rfl
        have hR3 : arriveA T D (l.drop (j + 1)) (if earlyW (K'.wat.getD i zW) K'.tick = true then K'.abs.note 2 (i : Int) 1 else if hasS K'.st (i : Int) = true then K'.abs.note 2 (i : Int) 2 else { K'.abs with wat := K'.wat.set i ⟨(K'.wat.getD i zW).period, K'.tick, true⟩, st := K'.st.set i ⟨true, false, false, K'.tick⟩, loads := K'.abs.loads.set i 0, job := K'.job.set i ⟨(rd_T46 T (i : Int)).f6, demL (rd_T46 T (i : Int)).f6 (if (i : Int) < (D.length : Int) then D.getD i [] else []), 0, 0, 0⟩, evs := K'.evs ++ [⟨K'.tick, 1, (i : Int), 0⟩] }) = R := by
          rw [← hR2]; unfold arrive1; rw [if_neg hge]; rfl
        clear hR2 hge
        have HE := Aside0.mk (fun m => Early_calls (wr.drewN m) pb wb K'.wat i (K'.wat.getD i zW) K'.tick (HI.out.drewN m).pol hwx)
        by_cases hea : earlyW (K'.wat.getD i zW) K'.tick = true
        · rw [if_pos hea] at hR3
          have HR3 := Aside0.mk hR3
          rw [hea] at HE
          clear hR3 hea
          go_wp2
          go_quiet ((go_at_call 81; exact quiet_d (HE.out _)))
          go_wp2_with (go_at_call 53; (with_reducible refine (notes_calls B0 _ g rl T ⟨.slice A T.length c, pb, wb, cb, tb, sb, ob⟩ K' ev' none 2 (i : Int) 1 ?sideI ?sideB ?sideL).mono ?_); (case sideI => repeat (first | exact HI.out | apply KInv.drewN | apply KInv.drew)); (case sideB => (try simp); have := HK.out.size; have := HB1.out.size; have := HB0.out; omega); (case sideL => have := hE.out.1; have := HL.out; omega); rintro e w6 ⟨rfl, ⟨ev2, hi6⟩, hk6⟩; have H6 := Aside0.mk hi6; have HK6 := Aside0.mk hk6; clear hi6 hk6)
          go_roundg k1
          case measure => exact Nat.lt_succ_self _
          case rel => exact ⟨j + 1, K'.note 2 (i : Int) 1, ev2, by omega, by rw [show ((j : Int) + 1) = ((j + 1 : Nat) : Int) by omega], by omega, ⟨by rw [abs_note]; exact HR3.out⟩, ⟨by have := hE.out.1; unfold KS.note; dsimp only; rw [List.length_append, List.length_singleton]; omega, hE.out.2⟩, H6.out, (HK.out.drewN _).trans (HK6.out.mono (by decide))⟩
        · rw [if_neg hea] at hR3
          rw [Bool.eq_false_iff.mpr hea] at HE
          have HEA := Aside0.mk (Bool.eq_false_iff.mpr hea)
          clear hea
          have hil : i < K'.st.length := by rw [HI.out.ls]; exact hin
          by_cases hp : hasS K'.st (i : Int) = true
          · rw [if_pos hp] at hR3
            have HR3 := Aside0.mk hR3
            have HP := Aside0.mk (fun m => Put_no (wr.drewN m) tb sb K'.st i K'.tick (HI.out.drewN m).tab hil hp)
            clear hR3 hp
            go_wp2
            go_quiet ((go_at_call 81; exact quiet_d (HE.out _)))
            go_wp2
            go_quiet ((go_at_call 82; exact quiet_add_d (HP.out _)))
            go_wp2_with (go_at_call 53; (with_reducible refine (notes_calls B0 _ g rl T ⟨.slice A T.length c, pb, wb, cb, tb, sb, ob⟩ K' ev' none 2 (i : Int) 2 ?sideI ?sideB ?sideL).mono ?_); (case sideI => repeat (first | exact HI.out | apply KInv.drewN | apply KInv.drew)); (case sideB => (try simp); have := HK.out.size; have := HB1.out.size; have := HB0.out; omega); (case sideL => have := hE.out.1; have := HL.out; omega); rintro e w6 ⟨rfl, ⟨ev2, hi6⟩, hk6⟩; have H6 := Aside0.mk hi6; have HK6 := Aside0.mk hk6; clear hi6 hk6)
            go_roundg k1
            case measure => exact Nat.lt_succ_self _
            case rel => exact ⟨j + 1, K'.note 2 (i : Int) 2, ev2, by omega, by rw [show ((j : Int) + 1) = ((j + 1 : Nat) : Int) by omega], by omega, ⟨by rw [abs_note]; exact HR3.out⟩, ⟨by have := hE.out.1; unfold KS.note; dsimp only; rw [List.length_append, List.length_singleton]; omega, hE.out.2⟩, H6.out, (HK.out.drewN _).trans (HK6.out.mono (by decide))⟩
          · rw [if_neg hp] at hR3
            have HR3 := Aside0.mk hR3
            have HPN := Aside0.mk (Bool.eq_false_iff.mpr hp)
            clear hR3 hp
            go_wp2
            go_quiet ((go_at_call 81; exact quiet_d (HE.out _)))
            go_wp2
            generalize hwz : wr.drewN _ = wz
            have HIz := Aside0.mk (show KInv B0 wz g rl T ⟨.slice A T.length c, pb, wb, cb, tb, sb, ob⟩ K' ev' none by rw [← hwz]; exact HI.out.drewN _)
            have HKz := Aside0.mk (show KpT B0 w1 wz TsAll by rw [← hwz]; exact HK.out.drewN _)
            have z1 : wz.cell? ⟨w.heap.size, 1, none⟩ = some (.slice AD D.length cD) := by rw [← hwz]; exact x1
            have z2 : wz.cell? ⟨g, 2, none⟩ = some (.int .i64 K'.tick) := blk_cell HIz.out.ker 2
            have z6 : wz.cell? ⟨g, 6, none⟩ = some (.pointer (some ⟨tb, 0, none⟩)) := blk_cell HIz.out.ker 6
            clear hwz x1 k1_ k2 k4 k6 k7 hxo
            go_still_tail 9, (by kernel_rfl)
            change wpList _ _ _ _ _ wz.drew
            generalize hwy : wz.drew = wy
            have HIy := Aside0.mk (show KInv B0 wy g rl T ⟨.slice A T.length c, pb, wb, cb, tb, sb, ob⟩ K' ev' none by rw [← hwy]; exact HIz.out.drew)
            have HKy := Aside0.mk (show KpT B0 w1 wy TsAll by rw [← hwy]; exact HKz.out.drew)
            have HIy_lw := Aside0.mk HIy.out.lw
            have HPy := Aside0.mk (Put_yes wy tb sb K'.st i K'.tick HIy.out.tab hil HPN.out)
            clear hwy HIz HKz z1 z2 z6
            go_wp2_with (go_at_call 82; (with_reducible refine HPy.out.mono ?_); rintro e w6 ⟨rfl, ht6, hk6⟩; have HT6 := Aside0.mk ht6; have HK6 := Aside0.mk (KpT.one hk6 HIy.out.tab.row.choose_spec.1 HIy.out.ge.2.2.2.1); clear ht6 hk6)
            have HI6 := Aside0.mk (HIy.out.setTab HK6.out HT6.out (by rw [List.length_set]; exact HIy.out.ls) (X' := some i) (fun i2 h2 hx => ⟨by simp, fun hp => by rw [rdS_set_ne (fun x => hx (by rw [x]))] at hp; exact hp⟩))
            have HB6 := Aside0.mk ((HKy.out.trans (HK6.out.mono (by decide))).size)
            go_wp2_with (go_at_call 53; (with_reducible refine (notes_calls B0 _ g rl T ⟨.slice A T.length c, pb, wb, cb, tb, sb, ob⟩ { K' with st := K'.st.set i ⟨true, false, false, K'.tick⟩ } ev' (some i) 1 (i : Int) 0 ?sideI ?sideB ?sideL).mono ?_); (case sideI => exact HI6.out); (case sideB => have := HB6.out; have := HB1.out.size; have := HB0.out; omega); (case sideL => have := hE.out.1; have := HL.out; show K'.evs.length ≤ _; omega); rintro e w7 ⟨rfl, ⟨ev7, hi6⟩, hk6⟩; have H7 := Aside0.mk hi6; have HK7 := Aside0.mk hk6; clear hi6 hk6)
            have y2 : w7.cell? ⟨g, 2, none⟩ = some (.int .i64 K'.tick) := blk_cell H7.out.ker 2
            have y4 : w7.cell? ⟨g, 4, none⟩ = some (.pointer (some ⟨pb, 0, none⟩)) := blk_cell H7.out.ker 4
            go_still_tail 9, (by kernel_rfl)
            change wpList _ _ _ _ _ w7.drew
            generalize hwu : w7.drew = wu
            have HIu := Aside0.mk (show KInv B0 wu g rl T ⟨.slice A T.length c, pb, wb, cb, tb, sb, ob⟩ (({ K' with st := K'.st.set i ⟨true, false, false, K'.tick⟩ } : KS).note 1 (i : Int) 0) ev7 (some i) by rw [← hwu]; exact H7.out.drew)
            have HKu := Aside0.mk (show KpT B0 w1 wu TsAll by rw [← hwu]; exact ((HKy.out.trans (HK6.out.mono (by decide))).trans (HK7.out.mono (by decide))).drew)
            have HN := Aside0.mk (Note_calls wu pb wb K'.wat i (K'.wat.getD i zW) K'.tick HIu.out.pol hwx (by rw [hE.out.2]; exact HTK.out) HEA.out)
            clear hwu y2 y4 H7 HK7 HI6 HK6 HT6 HIy HKy
            go_upto_region 7 with (go_at_call 83; (with_reducible refine HN.out.mono ?_); rintro e w8 ⟨rfl, ht8, hk8⟩; have HT8 := Aside0.mk ht8; have HK8 := Aside0.mk (KpT.one hk8 HIu.out.pol.row.choose_spec.1 HIu.out.ge.2.1); clear ht8 hk8)
            have HKv := Aside0.mk (HKu.out.trans (HK8.out.mono (by decide)))
            have HIv := Aside0.mk (HIu.out.setPol HK8.out HT8.out (by rw [List.length_set]; exact HIy_lw.out))
            have HBv := Aside0.mk (show B0.b ≤ w8.heap.size by have := B0.le; have := HKv.out.size; have := HB1.out.size; have := HB0.out; omega)
            have v1_ : w8.cell? ⟨w.heap.size, 1, none⟩ = some (.slice AD D.length cD) := blk_cell (HKv.out.blk HBX.out (by decide)) 1
            have v1k : w8.cell? ⟨g, 1, none⟩ = some (.slice A T.length c) := blk_cell HIv.out.ker 1
            have v7 : w8.cell? ⟨g, 7, none⟩ = some (.slice (some ⟨ob, 0, none⟩) T.length T.length) := blk_cell HIv.out.ker 7
            clear HIu HKu HT8 HK8 HN
            by_cases hd : i < D.length
            · have d1 : decide ((i : Int) < (D.length : Int)) = true := decide_eq_true (by omega)
              have d2 : decide (i < D.length) = true := decide_eq_true hd
              have i0 : 0 ≤ (i : Int) := by omega
              have i1 : (i : Int) < (D.length : Int) := by omega
              obtain ⟨adD, cs, rfl, _, ⟨Ad, cd, rfl, hld, hCd⟩, hcell⟩ := Kd.C_get (HD.out w8 ((KpT.of_below HB1.out _).trans HKv.out)) [] (i : Int) i0 i1
              have xd : w8.cell? (adD.add i) = some (.slice Ad (D.getD i []).length cd) := by
                have := hcell 0 _ rfl
                rw [Int.toNat_natCast] at this
                simpa [Kd.slice] using this
              rw [Int.toNat_natCast] at hld hCd
              have hr4 := HR3.out
              rw [if_pos i1] at hr4
              clear hcell
              generalize D.getD i [] = dm at xd hld hCd hr4
              have HCd := Aside0.mk hCd
              have HR4 := Aside0.mk hr4
              clear hld hCd hr4
              go_wp2
              obtain ⟨At, ct, et, hlt2, hCt⟩ := Kd.R_reads HIv.out.tasks
              have eA1 : At = A := by cases et; rfl
              rw [eA1] at hCt
              clear et eA1 hlt2
              obtain ⟨adt, A6, c6, eA, _, _, _, _, _, _, t6, _, _, hl6, hC6⟩ := at_T46 hCt (i : Int) (by omega) (by omega)
              subst eA
              rw [Int.toNat_natCast] at t6
              have hmem : rd_T46 T (i : Int) ∈ T := by
                unfold rd_T46
                rw [Int.toNat_natCast, List.getD_eq_getElem?_getD, List.getElem?_eq_getElem hin]; exact List.getElem_mem hin
              obtain ⟨hd1, hd8, hdo⟩ := HODD.out _ hmem
              generalize rd_T46 T (i : Int) = t at t6 hl6 hC6 hd1 hd8 hdo HR4
              obtain ⟨a6, rfl, _⟩ := Kd.at_int hC6 0 (by omega) (by omega)
              have hol : i < K'.own.length := Nat.lt_of_lt_of_eq hin HIv.out.lo.symm
              have o0 : w8.cell? ⟨ob, i * 3, none⟩ = _ := HIv.out.own.cell (i := 0) (rdO hol) rfl
              have o1 : w8.cell? ⟨ob, i * 3 + 1, none⟩ = _ := HIv.out.own.cell (i := 1) (rdO hol) rfl
              have o2 : w8.cell? ⟨ob, i * 3 + 2, none⟩ = _ := HIv.out.own.cell (i := 2) (rdO hol) rfl
              have hob := HIv.out.own.lt
              have hg8 := blk_lt HIv.out.ker
              have hjN := Aside0.mk (fun (W : World) (hb : Below w8.heap.size w8 W) => jNew_calls W a6 c6 t.f6 Ad cd dm (Kd.C_below hC6 hb) hl6 (Kd.C_below HCd.out hb) hd1 hd8 hdo)
              have hne1 : g ≠ ob := blk_ne HIv.out.ker HIv.out.own.choose_spec.1 (by decide)
              have htb := World.block_lt_of_cell? w8 _ t6
              have hne2 : (adt.add (i * 9)).block ≠ ob := by
                obtain ⟨cs, hcs⟩ : ∃ cs, w8.heap[(adt.add (i * 9)).block]? = some (.cells cs 46 (0, 0)) := task_blk HIv.out.tasks (i * 9)
                exact blk_ne hcs HIv.out.own.choose_spec.1 (by decide)
              have j0' : 0 ≤ (i : Int) := by omega
              have j1' : (i : Int) < (T.length : Int) := by omega
              clear hC6 hCt hl6 hdo
              go_region_held3 (fun W => W.cell? ⟨g, 1, none⟩ = some (.slice (some adt) T.length c) ∧ W.cell? ⟨g, 7, none⟩ = some (.slice (some ⟨ob, 0, none⟩) T.length T.length) ∧ W.cell? ⟨(adt.add (i * 9)).block, (adt.add (i * 9)).off + 6, none⟩ = some (.slice (some a6) t.f6.length c6))
                (first | exact ⟨v1k, v7, t6⟩ | exact ⟨pw_cell_below HB9.out v1k, pw_cell_below HB9.out v7, pw_cell_below HB9.out t6⟩ | exact ⟨(cell_far3 (p := ⟨g, 1, none⟩) hne1).trans (pw_cell_below HB9.out v1k), (cell_far3 (p := ⟨g, 7, none⟩) hne1).trans (pw_cell_below HB9.out v7), (cell_far3 (p := ⟨(adt.add (i * 9)).block, (adt.add (i * 9)).off + 6, none⟩) hne2).trans (pw_cell_below HB9.out t6)⟩ | go_keep)
                ((go_at_call 84; (with_reducible refine (hjN.out _ ?sideW).mono ?_); (case sideW => repeat (first | exact Below.refl _ _ | apply below_drew1 | apply pw_below_drewN)); rintro e w9 ⟨jb, rfl, hjb, hJ, hb⟩; have HB9 := Aside0.mk (show Below w8.heap.size w8 w9 from (below_drew1 (Below.refl _ _)).trans hb); have HJB := Aside0.mk (show w8.heap.size ≤ jb from hjb); have HJ9 := Aside0.mk hJ; have p0 := (HB9.out.cell (p := ⟨ob, i * 3, none⟩) hob).trans o0; have p1 := (HB9.out.cell (p := ⟨ob, i * 3 + 1, none⟩) hob).trans o1; have p2 := (HB9.out.cell (p := ⟨ob, i * 3 + 2, none⟩) hob).trans o2; have q0 := (HIv.out.below HB9.out).own.frozen (i * 3); have q1 := (HIv.out.below HB9.out).own.frozen (i * 3 + 1); have q2 := (HIv.out.below HB9.out).own.frozen (i * 3 + 2); clear hjb hJ hb))
              have HOD := Aside0.mk (own_done (J := ⟨t.f6, demL t.f6 (dm), 0, 0, 0⟩) HIv.out hin HB9.out HJB.out HJ9.out HBv.out (Nat.le_trans HBv.out HJB.out))
              go_wp2
              go_roundg k1
              case measure => exact Nat.lt_succ_self _
              case rel =>
                refine ⟨j + 1, _, ev7, by omega, by rw [show ((j : Int) + 1) = ((j + 1 : Nat) : Int) by omega], by omega, ?_, ?_, HOD.out.1, HKv.out.trans ((KpT.of_below HB9.out _).trans (HOD.out.2.mono (by decide)))⟩
                · exact ⟨by rw [← HR4.out]; simp [KS.abs, KS.note, List.map_set]⟩
                · exact ⟨by have := hE.out.1; simp [KS.note]; omega, hE.out.2⟩
            · have d1 : decide ((i : Int) < (D.length : Int)) = false := decide_eq_false (by omega)
              have d2 : decide (i < D.length) = false := decide_eq_false hd
              have HR4 := HR3.out
              rw [if_neg (show ¬ ((i : Int) < (D.length : Int)) by omega)] at HR4
              replace HR4 := Aside0.mk HR4
              go_wp2
              obtain ⟨At, ct, et, hlt2, hCt⟩ := Kd.R_reads HIv.out.tasks
              have eA1 : At = A := by cases et; rfl
              rw [eA1] at hCt
              clear et eA1 hlt2
              obtain ⟨adt, A6, c6, eA, _, _, _, _, _, _, t6, _, _, hl6, hC6⟩ := at_T46 hCt (i : Int) (by omega) (by omega)
              subst eA
              rw [Int.toNat_natCast] at t6
              have hmem : rd_T46 T (i : Int) ∈ T := by
                unfold rd_T46
                rw [Int.toNat_natCast, List.getD_eq_getElem?_getD, List.getElem?_eq_getElem hin]; exact List.getElem_mem hin
              obtain ⟨hd1, hd8, hdo⟩ := HODD.out _ hmem
              generalize rd_T46 T (i : Int) = t at t6 hl6 hC6 hd1 hd8 hdo HR4
              obtain ⟨a6, rfl, _⟩ := Kd.at_int hC6 0 (by omega) (by omega)
              have hol : i < K'.own.length := Nat.lt_of_lt_of_eq hin HIv.out.lo.symm
              have o0 : w8.cell? ⟨ob, i * 3, none⟩ = _ := HIv.out.own.cell (i := 0) (rdO hol) rfl
              have o1 : w8.cell? ⟨ob, i * 3 + 1, none⟩ = _ := HIv.out.own.cell (i := 1) (rdO hol) rfl
              have o2 : w8.cell? ⟨ob, i * 3 + 2, none⟩ = _ := HIv.out.own.cell (i := 2) (rdO hol) rfl
              have hob := HIv.out.own.lt
              have hg8 := blk_lt HIv.out.ker
              have hjN := Aside0.mk (fun (W : World) (hb : Below w8.heap.size w8 W) => jNew_nil W a6 c6 t.f6 (Kd.C_below hC6 hb) hl6 hd1 hd8 hdo)
              have hne1 : g ≠ ob := blk_ne HIv.out.ker HIv.out.own.choose_spec.1 (by decide)
              have htb := World.block_lt_of_cell? w8 _ t6
              have hne2 : (adt.add (i * 9)).block ≠ ob := by
                obtain ⟨cs, hcs⟩ : ∃ cs, w8.heap[(adt.add (i * 9)).block]? = some (.cells cs 46 (0, 0)) := task_blk HIv.out.tasks (i * 9)
                exact blk_ne hcs HIv.out.own.choose_spec.1 (by decide)
              have j0' : 0 ≤ (i : Int) := by omega
              have j1' : (i : Int) < (T.length : Int) := by omega
              clear hC6 hCt hl6 hdo
              go_region_held3 (fun W => W.cell? ⟨g, 1, none⟩ = some (.slice (some adt) T.length c) ∧ W.cell? ⟨g, 7, none⟩ = some (.slice (some ⟨ob, 0, none⟩) T.length T.length) ∧ W.cell? ⟨(adt.add (i * 9)).block, (adt.add (i * 9)).off + 6, none⟩ = some (.slice (some a6) t.f6.length c6))
                (first | exact ⟨v1k, v7, t6⟩ | exact ⟨pw_cell_below HB9.out v1k, pw_cell_below HB9.out v7, pw_cell_below HB9.out t6⟩ | exact ⟨(cell_far3 (p := ⟨g, 1, none⟩) hne1).trans (pw_cell_below HB9.out v1k), (cell_far3 (p := ⟨g, 7, none⟩) hne1).trans (pw_cell_below HB9.out v7), (cell_far3 (p := ⟨(adt.add (i * 9)).block, (adt.add (i * 9)).off + 6, none⟩) hne2).trans (pw_cell_below HB9.out t6)⟩ | go_keep)
                ((go_at_call 84; (with_reducible refine (hjN.out _ ?sideW).mono ?_); (case sideW => repeat (first | exact Below.refl _ _ | apply below_drew1 | apply pw_below_drewN)); rintro e w9 ⟨jb, rfl, hjb, hJ, hb⟩; have HB9 := Aside0.mk (show Below w8.heap.size w8 w9 from (below_drew1 (Below.refl _ _)).trans hb); have HJB := Aside0.mk (show w8.heap.size ≤ jb from hjb); have HJ9 := Aside0.mk hJ; have p0 := (HB9.out.cell (p := ⟨ob, i * 3, none⟩) hob).trans o0; have p1 := (HB9.out.cell (p := ⟨ob, i * 3 + 1, none⟩) hob).trans o1; have p2 := (HB9.out.cell (p := ⟨ob, i * 3 + 2, none⟩) hob).trans o2; have q0 := (HIv.out.below HB9.out).own.frozen (i * 3); have q1 := (HIv.out.below HB9.out).own.frozen (i * 3 + 1); have q2 := (HIv.out.below HB9.out).own.frozen (i * 3 + 2); clear hjb hJ hb))
              have HOD := Aside0.mk (own_done (J := ⟨t.f6, demL t.f6 (([] : List Int)), 0, 0, 0⟩) HIv.out hin HB9.out HJB.out HJ9.out HBv.out (Nat.le_trans HBv.out HJB.out))
              go_wp2
              go_roundg k1
              case measure => exact Nat.lt_succ_self _
              case rel =>
                refine ⟨j + 1, _, ev7, by omega, by rw [show ((j : Int) + 1) = ((j + 1 : Nat) : Int) by omega], by omega, ?_, ?_, HOD.out.1, HKv.out.trans ((KpT.of_below HB9.out _).trans (HOD.out.2.mono (by decide)))⟩
                · exact ⟨by rw [← HR4.out]; simp [KS.abs, KS.note, List.map_set]⟩
                · exact ⟨by have := hE.out.1; simp [KS.note]; omega, hE.out.2⟩
    · have hlt1 : decide ((j : Int) < (l.length : Int)) = false := decide_eq_false (by omega)
      have hh := hR.out
      rw [List.drop_of_length_le (by omega), arriveA] at hh
      have HI := Aside0.mk hI
      have HK := Aside0.mk hK
      have HH := Aside0.mk hh
      clear hI hK hh
      go_wp2
      go_end0
      exact ⟨rfl, ⟨K', ev', HI.out, HH.out⟩, (KpT.of_below HB1.out _).trans HK.out⟩
theorem lateA_len (T : List S46) : ∀ (d i : Nat) (A : KA), (lateA T d i A).evs.length ≤ A.evs.length + d
  | 0, i, A => Nat.le_refl _
  | d + 1, i, A => by
    unfold lateA
    refine Nat.le_trans (lateA_len T d (i + 1) _) ?_
    split
    · simp only [KA.note, List.length_append, List.length_singleton]; omega
    · omega
theorem lateA_st (T : List S46) : ∀ (d i : Nat) (A : KA), (lateA T d i A).st = A.st ∧ (lateA T d i A).tick = A.tick ∧ (lateA T d i A).job = A.job ∧ (lateA T d i A).last = A.last
  | 0, i, A => ⟨rfl, rfl, rfl, rfl⟩
  | d + 1, i, A => by
    unfold lateA
    split
    · obtain ⟨h1, h2, h3, h4⟩ := lateA_st T d (i + 1) (A.note 3 (i : Int) 0)
      exact ⟨h1, h2, h3, h4⟩
    · exact lateA_st T d (i + 1) A
theorem arriveA_len (T : List S46) (D : List (List Int)) : ∀ (l : List Int) (A : KA), (arriveA T D l A).evs.length ≤ A.evs.length + l.length
  | [], A => Nat.le_refl _
  | x :: l, A => by
    unfold arriveA
    refine Nat.le_trans (arriveA_len T D l _) ?_
    have := arrive1_len T D A x
    rw [List.length_cons]; omega
def midA (T : List S46) (D : List (List Int)) (s : Nat) (A : KA) : KA := arriveA T D (listFrom s 64 0) (lateA T T.length 0 { A with evs := [] })
def goA (A : KA) (r x : Int) : KA := if r = -1 then A.note 10 (-1) 0 else runA (turn2 (turn1 A r) r x) r
def endT (A : KA) (r : Int) : KA := { A with last := r, tick := wrap64 (A.tick + 1) }
def StepPost (B0 : Bs) (w : World) (g : Nat) (rl : Int) (T : List S46) (L : KL) (A : KA) (e : Ending) (w' : World) : Prop :=
  ∃ r x : Int, rule_Choose.f 20 rl T A.st A.last A.tick = some r ∧ Who T A.st r ∧ (∃ K ev, e = .returned ev ∧ KInv B0 w' g rl T L K ev none ∧ K.abs = endT (goA A r x) r) ∧ KpT B0 w w' TsAll
theorem turn_job (A : KA) (r x : Int) : (turn2 (turn1 A r) r x).job = A.job ∧ (turn1 A r).st = A.st ∧ (turn1 A r).job = A.job := by
  have h1 : (turn1 A r).st = A.st ∧ (turn1 A r).job = A.job := by
    unfold turn1; split <;> exact ⟨rfl, rfl⟩
  refine ⟨?_, h1⟩
  unfold turn2
  split
  · exact h1.2
  · split <;> exact h1.2
theorem turn_len (A : KA) (r x : Int) : (turn2 (turn1 A r) r x).evs.length ≤ A.evs.length + 2 := by
  have h1 : (turn1 A r).evs.length ≤ A.evs.length + 1 := by
    unfold turn1; split
    · simp [KA.note]
    · omega
  unfold turn2
  split
  · simp only [KA.note, List.length_append, List.length_singleton]; omega
  · split
    · simp only [KA.note, List.length_append, List.length_singleton]; omega
    · omega
theorem turn_has (A : KA) (i : Nat) (x : Int) (hi : i < A.st.length) (h : hasS A.st (i : Int) = true) : hasS (turn2 (turn1 A (i : Int)) (i : Int) x).st (i : Int) = true := by
  have h1 := (turn_job A (i : Int) x).2.1
  unfold turn2
  split
  · show hasS ((turn1 A (i : Int)).st.set (i : Int).toNat ⟨(rd_T132 (turn1 A (i : Int)).st (i : Int)).f0, true, (rd_T132 (turn1 A (i : Int)).st (i : Int)).f2, (rd_T132 (turn1 A (i : Int)).st (i : Int)).f3⟩) (i : Int) = true
    rw [h1, Int.toNat_natCast]
    unfold hasS at h ⊢
    rw [rdS_set_eq hi, List.length_set]; exact h
  · split
    · show hasS (turn1 A (i : Int)).st (i : Int) = true
      rw [h1]; exact h
    · rw [h1]; exact h
theorem ker_done {B0 : Bs} {w : World} {g : Nat} {rl : Int} {T : List S46} {L : KL} {K : KS} {ev : Value} (h : KInv B0 w g rl T L K ev none) (r t : Int) :
    KInv B0 ((w.setCell ⟨g, 3, none⟩ (.int .i64 r)).setCell ⟨g, 2, none⟩ (.int .i64 t)) g rl T L { K with last := r, tick := t } ev none ∧ KpT B0 w ((w.setCell ⟨g, 3, none⟩ (.int .i64 r)).setCell ⟨g, 2, none⟩ (.int .i64 t)) [96, 43] := by
  have b1 := blk_set h.ker 3 (.int .i64 r)
  have b2 := blk_set b1 2 (.int .i64 t)
  have hk : KpT B0 w ((w.setCell ⟨g, 3, none⟩ (.int .i64 r)).setCell ⟨g, 2, none⟩ (.int .i64 t)) [96, 43] := (KpT.one (Kp.set1 (Kp.set1 (Kp.refl _ _) _ _) _ _) h.ker h.ge.1).mono (by decide)
  refine ⟨h.setKer hk rfl rfl rfl rfl ?_ ?_, hk⟩
  · have e : ((kcells rl L T.length K ev).setIfInBounds 3 (.int .i64 r)).setIfInBounds 2 (.int .i64 t) = kcells rl L T.length { K with last := r, tick := t } ev := by simp [kcells]
    rw [← e]; exact b2
  · exact Kd.R_set (Kd.R_set h.evs h.ker (fun q hq => by rw [List.mem_singleton.mp hq]; decide) 3 _) b1 (fun q hq => by rw [List.mem_singleton.mp hq]; decide) 2 _
theorem KInv.rebase {Bo B0 : Bs} {w : World} {g : Nat} {rl : Int} {T : List S46} {L : KL} {K : KS} {ev : Value} {X : Option Nat} (h : KInv Bo w g rl T L K ev X) (hb : B0.b = Bo.b) (he : Kd.R k43 43 w B0.e (fun _ => True) ev K.evs) : KInv B0 w g rl T L K ev X := by
  obtain ⟨b, e, le⟩ := Bo
  obtain ⟨b', e', le'⟩ := B0
  obtain rfl : b' = b := hb
  exact ⟨h.ker, h.tasks, h.pol, h.cac, h.tab, h.own, he, h.lw, h.ls, h.lo, h.lj, h.n1, h.n8, h.job, h.inj, h.ge, h.hadr⟩
theorem ker_first {Bo B0 : Bs} {w : World} {g : Nat} {rl : Int} {T : List S46} {L : KL} {K : KS} {ev : Value} (h : KInv Bo w g rl T L K ev none) (hbb : B0.b = Bo.b) (o : Obj) :
    KInv B0 ((w.setCell ⟨g, 8, none⟩ (.slice none 0 0)).alloc o) g rl T L { K with evs := [] } (.slice none 0 0) none ∧ KpT B0 w ((w.setCell ⟨g, 8, none⟩ (.slice none 0 0)).alloc o) TsAll := by
  have b1 := blk_set h.ker 8 (.slice none 0 0)
  have hk : ∀ B : Bs, B.b = Bo.b → KpT B w (w.setCell ⟨g, 8, none⟩ (.slice none 0 0)) [96, 43] := fun B hB => (KpT.one (Kp.set1 (Kp.refl _ _) _ _) h.ker (hB ▸ h.ge.1)).mono (by decide)
  have h1 : KInv Bo (w.setCell ⟨g, 8, none⟩ (.slice none 0 0)) g rl T L { K with evs := [] } (.slice none 0 0) none := by
    refine h.setKer (hk Bo rfl) rfl rfl rfl rfl ?_ (Kd.R_nil _ _ _ _ _)
    have e : (kcells rl L T.length K ev).setIfInBounds 8 (.slice none 0 0) = kcells rl L T.length { K with evs := [] } (.slice none 0 0) := by simp [kcells]
    rw [← e]; exact b1
  exact ⟨(h1.below (Below.alloc (Below.refl _ _) (Nat.le_refl _) _)).rebase hbb (Kd.R_nil _ _ _ _ _), ((hk B0 hbb).mono (by decide)).alloc _⟩
set_option maxHeartbeats 16000000 in
set_option maxRecDepth 100000 in
theorem step_calls (Bo B0 : Bs) (w : World) (g : Nat) (rl : Int) (T : List S46) (L : KL) (K : KS) (ev : Value) (s : Nat) (AD : Option Addr) (cD : Nat) (D : List (List Int)) (tn : Nat) (hTw : ∀ W, KpT B0 w W TsAll → TabW W) (h : KInv Bo w g rl T L K ev none) (hbb : B0.b = Bo.b) (hB0 : B0.e ≤ w.heap.size)
    (hs : s < 18446744073709551616) (htn : tn < 18446744073709551616) (hD : ∀ W, KpT B0 w W TsAll → Kd.C (Kd.slice 2 (Kd.int .i64)) W AD D.length D) (htick : 0 ≤ K.tick) (htick2 : K.tick < 1099511627776) (hodd : ∀ t ∈ T, 1 ≤ t.f6.length ∧ t.f6.length ≤ 8 ∧ t.f6.any oddTime = false)
    (hU : ∀ t ∈ T, (0 ≤ t.f7 ∧ t.f7 < 18446744073709551616) ∧ (0 ≤ t.f8 ∧ t.f8 < 18446744073709551616))
    (hrdy : ∀ i, i < T.length → hasS (midA T D s K.abs).st (i : Int) = true → JRdy ((midA T D s K.abs).job.getD i zJ)) :
    Calls Tryz.prog 27 #[.pointer (some ⟨g, 0, none⟩), .agg #[.int .u64 (s : Int), .slice AD D.length cD, .int .u64 (tn : Int)]] w (StepPost B0 w g rl T L (midA T D s K.abs)) := by
  obtain ⟨tv, pb, wb, cb, tb, sb, ob⟩ := L
  have k2 : w.cell? ⟨g, 2, none⟩ = some (.int .i64 K.tick) := blk_cell h.ker 2
  have k8 : w.cell? ⟨g, 8, none⟩ = some ev := blk_cell h.ker 8
  have f8 := blk_frozen h.ker 8
  have hg := blk_lt h.ker
  have e1 : decide (K.tick ≥ 1099511627776) = false := decide_eq_false (by omega)
  have HI := Aside0.mk h
  have HB0 := Aside0.mk hB0
  have HT := Aside0.mk hTw
  have HD := Aside0.mk hD
  have HR := Aside0.mk hrdy
  have HO := Aside0.mk hodd
  have HU := Aside0.mk hU
  clear h hB0 hTw hD hrdy hodd hU
  have hnp : ∀ w : World, (binOp .eql 65 (.pointer (some ⟨g, 0, none⟩)) (.pointer none)).run Tryz.prog w = .ok (.bool false) w := fun w => by kernel_rfl
  go_enter Tryz.func27, Tryz.ntmps27
  go_upto_region 4 with fail
  generalize hw1 : World.alloc _ _ = w1
  have HF := ker_first HI.out hbb (.cells #[.int .u64 (s : Int), .slice AD D.length cD, .int .u64 (tn : Int)] 52)
  have hbx := heap_alloc_new (w.setCell ⟨g, 8, none⟩ (.slice none 0 0)) (.cells #[.int .u64 (s : Int), .slice AD D.length cD, .int .u64 (tn : Int)] 52)
  have hz : (w.setCell ⟨g, 8, none⟩ (.slice none 0 0)).heap.size = w.heap.size := by simp
  rw [hz] at hbx
  rw [hw1] at HF hbx
  obtain ⟨H1, hK1⟩ := HF
  have H1 := Aside0.mk H1
  have HK1 := Aside0.mk hK1
  have hs1 := hK1.size
  clear hw1 hz hK1 k2 k8 f8
  have hbb : ∃ cs, w1.heap[w.heap.size]? = some (.cells cs 52 (0, 0)) := ⟨_, hbx⟩
  have x0 : w1.cell? ⟨w.heap.size, 0, none⟩ = some (.int .u64 (s : Int)) := blk_cell hbx 0
  have x1 : w1.cell? ⟨w.heap.size, 1, none⟩ = some (.slice AD D.length cD) := blk_cell hbx 1
  have x2 : w1.cell? ⟨w.heap.size, 2, none⟩ = some (.int .u64 (tn : Int)) := blk_cell hbx 2
  clear hbx
  have HLA := Aside0.mk (late_calls B0 w1 g rl T ⟨tv, pb, wb, cb, tb, sb, ob⟩ { K with evs := [] } (.slice none 0 0) none H1.out (by have := HB0.out; omega) (by simp))
  have hla : Aside0 ((lateK T T.length 0 { K with evs := [] }).abs = lateA T T.length 0 { K.abs with evs := [] }) := ⟨abs_late T T.length 0 _⟩
  generalize hKl : lateK T T.length 0 { K with evs := [] } = K2 at HLA hla
  clear hKl
  have hAll : Aside0 (K2.evs.length ≤ 8 ∧ K2.tick = K.tick) := Aside0.mk (by
    have h1 := congrArg KA.evs hla.out
    have h2 := congrArg KA.tick hla.out
    have h3 := lateA_len T T.length 0 { K.abs with evs := [] }
    have h4 := (lateA_st T T.length 0 { K.abs with evs := [] }).2.1
    have h5 := HI.out.n8
    refine ⟨?_, h2.trans h4⟩
    show K2.abs.evs.length ≤ 8
    rw [h1]
    exact Nat.le_trans h3 (by show 0 + T.length ≤ 8; omega))
  go_upto_region 6 with (first | (go_at_call 49; (with_reducible refine HLA.out.mono ?_); rintro e w2 ⟨rfl, ⟨ev2, hi2⟩, hk2⟩; have H2 := Aside0.mk hi2; have HK2 := Aside0.mk (HK1.out.trans (hk2.mono (by decide))); have hs2 := hk2.size; have hbb2 : ∃ cs, w2.heap[w.heap.size]? = some (.cells cs 52 (0, 0)) := (by obtain ⟨cs, hcs⟩ := hbb; exact ⟨cs, hk2.blk hcs (by decide)⟩); have v0 := hk2.cellG hbb (by decide) x0; have v1 := hk2.cellG hbb (by decide) x1; have v2 := hk2.cellG hbb (by decide) x2; have HAR := Aside0.mk (arrive_calls B0 w2 g rl T ⟨tv, pb, wb, cb, tb, sb, ob⟩ K2 ev2 s AD cD D (tn : Int) (HT.out _ HK2.out) hi2 (by have := HB0.out; omega) (by have := hAll.out.1; omega) hs (fun W hW => HD.out _ (HK2.out.trans hW)) (by rw [hAll.out.2]; exact htick) HO.out); clear hi2 hk2) | (go_at_call 50; (with_reducible refine HAR.out.mono ?_); rintro e w3 ⟨rfl, ⟨K3, ev3, hi3, habs⟩, hk3⟩; have H3 := Aside0.mk hi3; have HK3 := Aside0.mk (HK2.out.trans hk3); have hs3 := hk3.size; have z2 := hk3.cellG hbb2 (by decide) v2; have hbb3 : ∃ cs, w3.heap[w.heap.size]? = some (.cells cs 52 (0, 0)) := (by obtain ⟨cs, hcs⟩ := hbb2; exact ⟨cs, hk3.blk hcs (by decide)⟩); replace habs := Aside0.mk habs; clear hi3 hk3))
  have hmid : Aside0 (K3.abs = midA T D s K.abs) := Aside0.mk (by rw [habs.out, hla.out]; rfl)
  clear habs hla hAll x0 x1 x2 hbb
  rw [← hmid.out] at HR
  have hgoal : Aside0 (∀ e W, StepPost B0 w g rl T ⟨tv, pb, wb, cb, tb, sb, ob⟩ K3.abs e W → StepPost B0 w g rl T ⟨tv, pb, wb, cb, tb, sb, ob⟩ (midA T D s K.abs) e W) := ⟨fun e W h => by rw [hmid.out] at h; exact h⟩
  have hlen3 : Aside0 (K3.evs.length ≤ 100) := Aside0.mk (by
    have h1 : K3.evs = (midA T D s K.abs).evs := congrArg KA.evs hmid.out
    have h2 := arriveA_len T D (listFrom s 64 0) (lateA T T.length 0 { K.abs with evs := [] })
    have h3 := lateA_len T T.length 0 { K.abs with evs := [] }
    have h4 := listFrom_le s 64 0
    have h5 := HI.out.n8
    rw [h1]
    exact Nat.le_trans h2 (Nat.le_trans (Nat.add_le_add h3 (Nat.le_refl _)) (by show 0 + T.length + (listFrom s 64 0).length ≤ 100; omega)))
  clear hmid
  obtain ⟨r, hr, hwho⟩ := choose_some rl T K3.st H3.out.ls H3.out.n8 K3.last K3.tick
  obtain ⟨At, ct, rfl, hlt2, hCt⟩ := Kd.R_reads H3.out.tasks
  have y0 : w3.cell? ⟨g, 0, none⟩ = some (.int .i64 rl) := blk_cell H3.out.ker 0
  have y1 : w3.cell? ⟨g, 1, none⟩ = some (.slice At T.length ct) := blk_cell H3.out.ker 1
  have y2 : w3.cell? ⟨g, 2, none⟩ = some (.int .i64 K3.tick) := blk_cell H3.out.ker 2
  have y3 : w3.cell? ⟨g, 3, none⟩ = some (.int .i64 K3.last) := blk_cell H3.out.ker 3
  have y6 : w3.cell? ⟨g, 6, none⟩ = some (.pointer (some ⟨tb, 0, none⟩)) := blk_cell H3.out.ker 6
  have HAL := Aside0.mk (fun W (hb : Below w3.heap.size w3 W) => All_calls W tb sb K3.st (H3.out.below hb).tab)
  have HCH := Aside0.mk (fun W A c (hb : Below w3.heap.size w3 W) (hC : Kd.C k132 W A K3.st.length K3.st) (hc : K3.st.length ≤ c) => rule_Choose.calls 20 rl At ct T A c K3.st K3.last K3.tick r W (Kd.C_below hCt hb) hlt2 hC hc hr)
  have hg3 := blk_lt H3.out.ker
  replace hr := Aside0.mk hr
  replace hwho := Aside0.mk hwho
  clear hCt
  go_region_held3 (fun W => W.cell? ⟨g, 0, none⟩ = some (.int .i64 rl) ∧ W.cell? ⟨g, 1, none⟩ = some (.slice At T.length ct) ∧ W.cell? ⟨g, 2, none⟩ = some (.int .i64 K3.tick) ∧ W.cell? ⟨g, 3, none⟩ = some (.int .i64 K3.last) ∧ W.cell? ⟨g, 6, none⟩ = some (.pointer (some ⟨tb, 0, none⟩)))
    (first | exact ⟨y0, y1, y2, y3, y6⟩ | exact ⟨pw_cell_below HB5.out y0, pw_cell_below HB5.out y1, pw_cell_below HB5.out y2, pw_cell_below HB5.out y3, pw_cell_below HB5.out y6⟩ | exact ⟨pw_cell_below HB4.out y0, pw_cell_below HB4.out y1, pw_cell_below HB4.out y2, pw_cell_below HB4.out y3, pw_cell_below HB4.out y6⟩ | go_keep)
    ((first | (go_at_call 52; (with_reducible refine (HAL.out _ ?sideB).mono ?_); (case sideB => repeat (first | exact Below.refl _ _ | apply below_drew1 | apply pw_below_drewN)); rintro e w4 ⟨v4, rfl, hR4, hb⟩; have HB4 := Aside0.mk (show Below w3.heap.size w3 w4 from (below_drew1 (Below.refl _ _)).trans hb); obtain ⟨A4, c4, rfl, hlc4, hC4⟩ := Kd.R_reads hR4; have HC4 := Aside0.mk hC4; clear hb hR4 hC4) | (go_at_call 51; (with_reducible refine (HCH.out _ A4 c4 ?sideB ?sideC hlc4).mono ?_); (case sideB => repeat (first | exact HB4.out | apply below_drew1 | apply pw_below_drewN)); (case sideC => exact Kd.C_below HC4.out (by repeat (first | exact Below.refl _ _ | apply below_drew1 | apply pw_below_drewN))); rintro e w5 ⟨rfl, hb⟩; have HB5 := Aside0.mk (show Below w3.heap.size w3 w5 from HB4.out.trans (hb.mono HB4.out.size)); clear hb)))
  go_upto_region 7 with fail
  rcases hwho.out with rfl | ⟨i, rfl, hi, hp⟩
  · have HI5 := Aside0.mk (H3.out.below HB5.out)
    have hs5 := HB5.out.size
    go_wp2_with (go_at_call 53; (with_reducible refine (notes_calls B0 _ g rl T ⟨.slice At T.length ct, pb, wb, cb, tb, sb, ob⟩ K3 ev3 none 10 (-1) 0 HI5.out (by have := HB0.out; omega) (by have := hlen3.out; omega)).mono ?_); rintro e w6 ⟨rfl, ⟨ev6, hi6⟩, hk6⟩; have H6 := Aside0.mk hi6; have HK6 := Aside0.mk hk6; have t2 : w6.cell? ⟨g, 2, none⟩ = some (.int .i64 K3.tick) := blk_cell hi6.ker 2; have t3 : w6.cell? ⟨g, 3, none⟩ = some (.int .i64 K3.last) := blk_cell hi6.ker 3; have t8 : w6.cell? ⟨g, 8, none⟩ = some ev6 := blk_cell hi6.ker 8; have q2 := blk_frozen hi6.ker 2; have q3 := blk_frozen hi6.ker 3; have hg6 := blk_lt hi6.ker; clear hi6 hk6)
    go_ret
    have hd := ker_done H6.out (-1) (wrap64 (K3.tick + 1))
    exact hgoal.out _ _ ⟨-1, 0, hr.out, hwho.out, ⟨_, ev6, rfl, hd.1, rfl⟩, HK3.out.trans ((KpT.of_below HB5.out _).trans ((HK6.out.mono (by decide)).trans (hd.2.mono (by decide))))⟩
  · have HI5 := Aside0.mk (H3.out.below HB5.out)
    have hs5 := HB5.out.size
    have HK5 := Aside0.mk (HK3.out.trans (KpT.of_below HB5.out _))
    have z25 := pw_cell_below HB5.out z2
    have hbb5 : ∃ cs, w5.heap[w.heap.size]? = some (.cells cs 52 (0, 0)) := (by obtain ⟨cs, hcs⟩ := hbb3; exact ⟨cs, (KpT.of_below (B0 := B0) HB5.out [96]).blk hcs (by decide)⟩)
    have hne : decide ((i : Int) = -1) = false := decide_eq_false (by omega)
    have HTU := Aside0.mk (turns_calls B0 w5 g rl T ⟨.slice At T.length ct, pb, wb, cb, tb, sb, ob⟩ K3 ev3 i (fun W hW => HT.out _ (HK5.out.trans hW)) HI5.out (by have := HB0.out; omega) (by have := hlen3.out; omega) hi hp HU.out)
    clear z2 hbb2 hbb3 y0 y1 y2 y3 y6 v0 v1 v2
    replace hp := Aside0.mk hp
    go_upto_region 10 with (go_at_call 54; (with_reducible refine HTU.out.mono ?_); rintro e w6 ⟨x, rfl, ⟨K6, ev6, hi6, ha6⟩, hk6⟩; have H6 := Aside0.mk hi6; have HA6 := Aside0.mk ha6; have HK6 := Aside0.mk hk6; have z26 := hk6.cellG hbb5 (by decide) z25; have hs6 := hk6.size; clear hi6 ha6 hk6)
    have hj6 : Aside0 (JRdy (K6.job.getD i zJ)) := Aside0.mk (by
      have h1 : K6.job = K3.abs.job := (congrArg KA.job HA6.out).trans (turn_job K3.abs (i : Int) x).1
      rw [h1]; exact HR.out i hi hp.out)
    have hp6 : Aside0 (hasS K6.st (i : Int) = true) := Aside0.mk (by
      have h1 : K6.st = (turn2 (turn1 K3.abs (i : Int)) (i : Int) x).st := congrArg KA.st HA6.out
      rw [h1]; exact turn_has K3.abs i x (Nat.lt_of_lt_of_eq hi H3.out.ls.symm) hp.out)
    have hl6 : Aside0 (K6.evs.length ≤ 1000) := Aside0.mk (by
      have h1 : K6.evs = (turn2 (turn1 K3.abs (i : Int)) (i : Int) x).evs := congrArg KA.evs HA6.out
      have h2 := turn_len K3.abs (i : Int) x
      have h3 := hlen3.out
      have h4 : K3.abs.evs.length = K3.evs.length := rfl
      rw [h1]; omega)
    have HRU := Aside0.mk (runs_calls B0 w6 g rl T ⟨.slice At T.length ct, pb, wb, cb, tb, sb, ob⟩ K6 ev6 i tn htn (fun W hW => HT.out _ (HK5.out.trans (HK6.out.trans hW))) H6.out (by have := HB0.out; omega) hl6.out hi hp6.out hj6.out HU.out)
    go_wp2_with (go_at_call 55; (with_reducible refine HRU.out.mono ?_); rintro e w7 ⟨rfl, ⟨K7, ev7, hi7, ha7⟩, hk7⟩; have H7 := Aside0.mk hi7; have HA7 := Aside0.mk ha7; have HK7 := Aside0.mk hk7; have t2 : w7.cell? ⟨g, 2, none⟩ = some (.int .i64 K7.tick) := blk_cell hi7.ker 2; have t3 : w7.cell? ⟨g, 3, none⟩ = some (.int .i64 K7.last) := blk_cell hi7.ker 3; have t8 : w7.cell? ⟨g, 8, none⟩ = some ev7 := blk_cell hi7.ker 8; have q2 := blk_frozen hi7.ker 2; have q3 := blk_frozen hi7.ker 3; have hg6 := blk_lt hi7.ker; clear hi7 ha7 hk7)
    go_ret
    have hd := ker_done H7.out (i : Int) (wrap64 (K7.tick + 1))
    refine hgoal.out _ _ ⟨(i : Int), x, hr.out, hwho.out, ⟨_, ev7, rfl, hd.1, ?_⟩, HK5.out.trans (HK6.out.trans (HK7.out.trans (hd.2.mono (by decide))))⟩
    have h1 : goA K3.abs (i : Int) x = K7.abs := by
      unfold goA
      rw [if_neg (show ¬ (i : Int) = -1 by omega), ← HA6.out, ← HA7.out]
    rw [h1]; rfl
end Go.Proofs.YtaofmmnfenlofaaGreatDoor.QTc
namespace Go.Proofs.YtaofmmnfenlofaaGreatDoor.QTc
open Go.RowKit Go.Proofs.YtaofmmnfenlofaaGreatDoorW.PrintWords Go.Proofs.YtaofmmnfenlofaaGreatDoorW.PrintLast Go.Proofs.YtaofmmnfenlofaaGreatDoorW.PrintMore
set_option linter.unusedVariables false
set_option linter.unusedSimpArgs false
def kW : Kd W3 := Kd.iso (Kd.pair (Kd.int .i64) (Kd.pair (Kd.int .i64) Kd.bool)) (fun x : W3 => (x.period, x.last, x.noted))
theorem kW_openM {w : World} {base : Nat} {ok : Nat → Prop} {x : W3} {cs : List Value} (h : kW.M w base ok x cs) : cs = encW x := by
  obtain ⟨_, _, rfl, rfl, ⟨_, _, rfl, rfl, rfl⟩⟩ := h
  exact rfl
theorem kW_mkM (w : World) (base : Nat) (ok : Nat → Prop) (x : W3) : kW.M w base ok x (encW x) := ⟨[.int .i64 x.period], [.int .i64 x.last, .bool x.noted], rfl, rfl, ⟨[.int .i64 x.last], [.bool x.noted], rfl, rfl, rfl⟩⟩
theorem info130 : (Tryz.prog.info? 130).map (fun i => (i.zero, i.size, i.bytes)) = some (some (.agg #[.int .i64 0, .int .i64 0, .bool false]), 3, 24) := by kernel_rfl
theorem RowE.of_R {α : Type} {d : Kd α} {enc : α → List Value} {sz e : Nat} {w : World} {base : Nat} {ok : Nat → Prop} {v : Value} {l : List α} (h : Kd.R d e w base ok v l) (hsz : d.sz = sz) (henc : ∀ (ok : Nat → Prop) x cs, d.M w base ok x cs → cs = enc x) (hlen : ∀ q, (enc q).length = sz) (hne : 0 < l.length) :
    ∃ b c, v = .slice (some ⟨b, 0, none⟩) l.length c ∧ RowE enc sz e w b l ∧ base ≤ b := by
  obtain ⟨h0, inner, ⟨ho1, ho2⟩, hr1, hr2⟩ := h
  rcases ho2 with ⟨_, hz⟩ | ⟨b, cap, cur, rfl, hb, hh, h1, h2, h3, h4⟩
  · omega
  · refine ⟨b, cap, rfl, ⟨cur, hh, fun j p hp i u hu => ?_⟩, hb⟩
    have h5 := hr2 j p hp
    have h6 := henc _ _ _ h5
    rw [hsz] at h6 h4
    have hi : i < sz := by
      rcases Nat.lt_or_ge i sz with x | x
      · exact x
      · rw [List.getElem?_eq_none (by rw [hlen]; exact x)] at hu; cases hu
    rw [← h6, List.getElem?_take_of_lt hi, List.getElem?_drop, ← h4] at hu
    have hj : j < l.length := by
      rcases Nat.lt_or_ge j l.length with x | x
      · exact x
      · rw [List.getElem?_eq_none x] at hp; cases hp
    have hji : j * sz + i < l.length * sz := by
      have : (j + 1) * sz ≤ l.length * sz := Nat.mul_le_mul_right _ hj
      rw [Nat.add_mul, Nat.one_mul] at this; omega
    rw [List.getElem?_take_of_lt hji] at hu
    rw [← hu, Array.getElem?_toList]
def watL (ps : List Int) : List W3 := ps.map fun t => ⟨t, 0, false⟩
theorem watL_len (ps : List Int) : (watL ps).length = ps.length := by simp [watL]
theorem watL_take (ps : List Int) (i : Nat) (hi : i < ps.length) : (watL ps).take (i + 1) = (watL ps).take i ++ [⟨rd ps (i : Int), 0, false⟩] := by
  rw [List.take_add_one, List.getElem?_eq_getElem (by rw [watL_len]; exact hi)]
  simp only [watL, List.getElem_map]
  unfold rd
  rw [Int.toNat_natCast, List.getD_eq_getElem?_getD, List.getElem?_eq_getElem hi]; rfl
structure PNewI (B0 : Nat) (w : World) (pb : Nat) (ps : List Int) (u : Value) (i : Nat) (w' : World) : Prop where
  blk : w'.heap[pb]? = some (.cells #[u] 128 (0, 0))
  hu : Kd.R kW 130 w' B0 (fun k => True) u ((watL ps).take i)
  hB : Below B0 w w'
  hj : B0 ≤ pb
theorem PNewI.ne {B0 : Nat} {w : World} {pb : Nat} {ps : List Int} {u : Value} {i : Nat} {W : World} (h : PNewI B0 w pb ps u i W) : some pb ≠ u.ownBlock := by
  intro e
  obtain ⟨_, inner, ho, _⟩ := h.hu
  obtain ⟨cs, hcs⟩ := own_typed ho pb e.symm
  exact blk_ne hcs h.blk (by decide) rfl
theorem PNewI.next {B0 : Nat} {w : World} {pb : Nat} {ps : List Int} {u : Value} {i : Nat} {W w9 : World} {u1 : Value} (h : PNewI B0 w pb ps u i W)
    (hR : Kd.R kW 130 w9 B0 (fun _ => True) u1 ((watL ps).take (i + 1))) (hB : Below B0 w w9) (hg : W.grownBy w9 u.ownBlock) :
    PNewI B0 w pb ps u1 (i + 1) (w9.setCell ⟨pb, 0, none⟩ u1) := by
  have hb9 := blk_grown h.blk hg h.ne
  have h1 := blk_set hb9 0 u1
  refine ⟨by simpa using h1, Kd.R_set hR hb9 (fun q hq => by rw [List.mem_singleton.mp hq]; decide) 0 u1, Below.setCell hB h.hj u1, h.hj⟩
set_option maxHeartbeats 8000000 in
set_option maxRecDepth 100000 in
theorem pNew_calls (w : World) (A0 : Option Addr) (c : Nat) (ps : List Int) (hr : Kd.C (Kd.int .i64) w A0 ps.length ps) (hc : ps.length ≤ c)
    (h1 : 1 ≤ ps.length) (h8 : ps.length ≤ 8) (ho : ps.any oddTime = false) :
    Calls Tryz.prog 48 #[.slice A0 ps.length c] w fun e w' => ∃ pb b, e = .returned (.pointer (some ⟨pb, 0, none⟩)) ∧ PolIs w' pb b (watL ps) ∧ w.heap.size ≤ b ∧ Below w.heap.size w w' := by
  have HCF := Aside0.mk (cf_calls _ oddTime odd_police _ Tryz.func78 (by kernel_rfl) rfl A0 c ps w hr hc)
  rw [ho] at HCF
  have HR := Aside0.mk hr
  have e1 : decide ((ps.length : Int) > 8) = false := decide_eq_false (by omega)
  have e2 : decide (8 < ps.length) = false := decide_eq_false (by omega)
  clear hr ho
  go_enter Tryz.func48, Tryz.ntmps48
  go_wp2_with (go_at_call 77; (with_reducible refine HCF.out.mono ?_); rintro e w' ⟨rfl, ⟨nd, rfl⟩⟩)
  have N0 : PNewI w.heap.size w w.heap.size ps (.slice none 0 0) 0 ((w.drewN nd).alloc (.cells #[.slice none 0 0] 128)) := by
    refine ⟨heap_alloc_new (w.drewN nd) _, Kd.R_nil _ _ _ _ _, Below.alloc (pw_below_drewN (Below.refl _ _) nd) (Nat.le_refl _) _, Nat.le_refl _⟩
  generalize (w.drewN nd).alloc (.cells #[.slice none 0 0] 128) = W0 at N0 ⊢
  generalize hpb : w.heap.size = pb at N0 ⊢
  replace hpb := Aside0.mk hpb
  replace N0 := Aside0.mk N0
  go_loopg [5, 17] (ps.length + 1) (fun kq v5 v17 w' => ∃ (i : Nat) (A : Option Addr) (q : Nat), kq + i = ps.length + 1 ∧ v17 = .int .i64 (i : Int) ∧ i ≤ ps.length ∧ PNewI pb w pb ps (.slice A i q) i w')
  case atStart => exact ⟨0, none, 0, by omega, rfl, by omega, by simpa using N0.out⟩
  case round =>
    clear N0
    obtain ⟨i, A, q, hq, rfl, hi, INV⟩ := hrel
    cases gk with
    | zero => exfalso; omega
    | succ k1 =>
    have hB := INV.hB
    have k1_ : wr.cell? ⟨pb, 0, none⟩ = some (.slice A i q) := blk_cell INV.blk 0
    have z1 := blk_frozen INV.blk 0
    by_cases hlt : i < ps.length
    · have hlt1 : decide ((i : Int) < (ps.length : Int)) = true := decide_eq_true (by omega)
      have i0 : 0 ≤ (i : Int) := by omega
      have i1 : (i : Int) < (ps.length : Int) := by omega
      have htk := watL_take ps i hlt
      have HL := Aside0.mk (show ((watL ps).take i).length = i by rw [List.length_take, watL_len]; omega)
      have HL2 := Aside0.mk (show ((watL ps).take (i + 1)).length = i + 1 by rw [List.length_take, watL_len]; omega)
      obtain ⟨ad, rfl, hx⟩ := Kd.at_int (Kd.C_below HR.out (hpb.out ▸ hB)) (i : Int) i0 i1
      rw [Int.toNat_natCast] at hx
      have HB := Aside0.mk hB
      have HI := Aside0.mk INV
      generalize rd ps (i : Int) = t at hx htk
      have HTK := Aside0.mk htk
      clear hB INV htk
      go_wp2_with ((with_reducible refine gate_builtin (b := .append) (xs := #[.tmp 25, .tmp 28]) rfl ?_); at_builtin; go_loud (refine Kd.R_append kW (w0 := w) pb rfl (.tmp 25) (.tmp 28) 126 130 (.agg #[.int .i64 0, .int .i64 0, .bool false]) 24 rfl Tryz.underlying126 info130 rfl (by decide) (by omega) (.slice A i q) ((watL ps).take i) ⟨t, 0, false⟩ [.int .i64 t, .int .i64 0, .bool false] (fun _ => True) (fun _ => False) rfl rfl ?aP (fun _ hk => hk.elim) (fun _ _ => trivial) ?aO ?aB ?aS ?aL ?_; (case aP => exact kW_mkM _ _ _ _); (case aO => exact HI.out.hu); (case aB => exact HB.out); (case aS => have := HB.out.size; have := blk_lt HI.out.blk; omega); (case aL => have := HL.out; omega); intro u1 w9 hR9 hB9 hg9 hat9; rw [← HTK.out] at hR9; obtain ⟨A9, q9, e9⟩ := Kd.R_slice hR9; rw [HL2.out] at e9; subst e9; have HN := Aside0.mk (PNewI.next HI.out hR9 hB9 hg9); have zz : w9.frozen? ⟨pb, 0, none⟩ = false := (blk_frozen (blk_grown HI.out.blk hg9 (PNewI.ne HI.out)) 0); have zc : w9.cell? ⟨pb, 0, none⟩ = some (.slice A i q) := (blk_cell (blk_grown HI.out.blk hg9 (PNewI.ne HI.out)) 0); clear hR9 hB9 hg9 hat9))
      go_roundg k1
      case measure => exact Nat.lt_succ_self _
      case rel => exact ⟨i + 1, A9, q9, by omega, by rw [show ((i : Int) + 1) = ((i + 1 : Nat) : Int) by omega], by omega, HN.out⟩
    · have hlt1 : decide ((i : Int) < (ps.length : Int)) = false := decide_eq_false (by omega)
      have HI := Aside0.mk INV
      clear INV hB
      go_wp2
      go_ret
      have hil : i = ps.length := by omega
      subst hil
      have h9 := HI.out
      have hu9 := h9.hu
      rw [List.take_of_length_le (show (watL ps).length ≤ ps.length by rw [watL_len]; exact Nat.le_refl _)] at hu9
      obtain ⟨b, cc, e, hr, hb⟩ := RowE.of_R hu9 rfl (fun _ _ _ h => kW_openM h) encW_len (by rw [watL_len]; omega)
      rw [watL_len] at e
      have hblk := h9.blk
      rw [e] at hblk
      exact ⟨pb, b, rfl, ⟨⟨cc, by rw [watL_len]; exact hblk⟩, hr, by rw [watL_len]; exact h8⟩, hpb.out ▸ hb, hpb.out ▸ h9.hB⟩
end Go.Proofs.YtaofmmnfenlofaaGreatDoor.QTc
namespace Go.Proofs.YtaofmmnfenlofaaGreatDoor.QTc
open Go.RowKit Go.Proofs.YtaofmmnfenlofaaGreatDoorW.PrintWords Go.Proofs.YtaofmmnfenlofaaGreatDoorW.PrintLast Go.Proofs.YtaofmmnfenlofaaGreatDoorW.PrintMore
attribute [local go_sem] max2_int min2_int max_two min_two max_three min_three max_four min_four
set_option linter.unusedVariables false
set_option linter.unusedSimpArgs false
def lex_isLetter.f (a0 : Int) : Option (Bool) := if a0 ≥ 97 then (some (decide (a0 ≤ 122))) else (some false)
set_option maxHeartbeats 8000000 in
set_option maxRecDepth 100000 in
theorem lex_isLetter.calls (a0 : Int) (r : Bool) (w : World) (h : lex_isLetter.f a0 = some r) :
  Calls Tryz.prog 160 #[.int .u8 a0] w fun e w' => e = .returned (.bool r) ∧ Drawn0 w w' := by
 have H : (if a0 ≥ 97 then (some (decide (a0 ≤ 122))) else (some false)) = some r := h
 clear h
 by_cases c2 : a0 ≥ 97
 ·rw [if_pos c2] at H
  have c2b0 : decide (97 ≤ a0) = true := decide_eq_true c2
  clear c2
  obtain rfl := Option.some.inj H
  go_enter Tryz.func160, Tryz.ntmps160
  go_wp2
  go_ret
  exact ⟨by first | rfl | (simp; done) | (simp [*]; done), by repeat (first | exact Drawn0.refl _ | apply Drawn0.step)⟩
 ·rw [if_neg c2] at H
  have c2b0 : decide (97 ≤ a0) = false := decide_eq_false c2
  clear c2
  obtain rfl := Option.some.inj H
  go_enter Tryz.func160, Tryz.ntmps160
  go_wp2
  go_ret
  exact ⟨by first | rfl | (simp; done) | (simp [*]; done), by repeat (first | exact Drawn0.refl _ | apply Drawn0.step)⟩
def slices_Index_string_string.l0 : Nat → List ByteArray → ByteArray → Int → Int → Option (Int)
 | 0, _, _, _, _ => none
 | k + 1, x0, x1, x7, x8 => if x8 < x7 then (if 0 ≤ x8 then (if x8 < (x0.length : Int) then (if x1.toList = (rdOf ByteArray.empty x0 x8).toList then (some x8) else (slices_Index_string_string.l0 k x0 x1 x7 (wrap64 (x8 + 1)))) else (none)) else (none)) else (some (-1))
def slices_Index_string_string.f (k : Nat) (l0 : List ByteArray) (a1 : ByteArray) : Option (Int) := slices_Index_string_string.l0 k l0 a1 (l0.length : Int) 0
set_option maxHeartbeats 8000000 in
set_option maxRecDepth 100000 in
theorem slices_Index_string_string.calls (k : Nat) (A0 : Option Addr) (c0 : Nat) (l0 : List ByteArray) (a1 : ByteArray) (r : Int) (w : World) (hr0 : Kd.C Kd.string w A0 l0.length l0) (hc0 : l0.length ≤ c0) (h : slices_Index_string_string.f k l0 a1 = some r) :
  Calls Tryz.prog 193 #[.slice A0 l0.length c0, .string a1] w fun e w' => e = .returned (.int .i64 r) ∧ Drawn0 w w' := by
 have HR0 := Aside0.mk hr0
 have HC0 := Aside0.mk hc0
 clear hr0 hc0
 have H : (slices_Index_string_string.l0 k l0 a1 (l0.length : Int) 0) = some r := h
 clear h
 have H' := Aside0.mk H
 clear H
 go_enter Tryz.func193, Tryz.ntmps193
 go_wp2
 go_loopg [8] k (fun kq v8 w' => ∃ (x8_1 : Int), v8 = .int .i64 x8_1 ∧ Aside0 (slices_Index_string_string.l0 kq l0 a1 (l0.length : Int) x8_1 = some r) ∧ Aside0 (kq ≤ k) ∧ Drawn0 w w')
 case atStart => exact ⟨(0), (by first | rfl | (simp; done) | (simp [*]; done)), H', ⟨Nat.le_refl _⟩, by repeat (first | exact Drawn0.refl _ | apply Drawn0.step)⟩
 case round =>
  clear H'
  try clear c1
  try clear p2
  obtain ⟨x8_1, rfl, HA, HK1, ⟨m1, rfl⟩⟩ := hrel
  cases gk with
  | zero => exact absurd HA.out (by simp [slices_Index_string_string.l0])
  | succ k1 =>
   have H := HA.out
   clear HA
   simp only [slices_Index_string_string.l0] at H
   by_cases c3 : x8_1 < (l0.length : Int)
   ·rw [if_pos c3] at H
    have c3b0 : decide (x8_1 < (l0.length : Int)) = true := decide_eq_true c3
    clear c3
    by_cases c4 : 0 ≤ x8_1
    ·rw [if_pos c4] at H
     have c4b0 : decide (0 ≤ x8_1) = true := decide_eq_true c4
     clear c4
     by_cases c5 : x8_1 < (l0.length : Int)
     ·rw [if_pos c5] at H
      have c5b0 : decide (x8_1 < (l0.length : Int)) = true := decide_eq_true c5
      clear c5
      by_cases c6 : a1.toList = (rdOf ByteArray.empty l0 x8_1).toList
      ·rw [if_pos c6] at H
       have c6b0 : (a1.toList == (rdOf ByteArray.empty l0 x8_1).toList) = true := beq_iff_eq.mpr c6
       have c6b1 : (a1.toList != (rdOf ByteArray.empty l0 x8_1).toList) = false := bne_eq_false_iff_eq.mpr c6
       clear c6
       obtain rfl := Option.some.inj H
       have p109 : 0 ≤ (x8_1 : Int) := of_decide_eq_true (by first | (with_reducible assumption) | assumption)
       have q109 : x8_1 < (l0.length : Int) := of_decide_eq_true (by first | (with_reducible assumption) | assumption)
       obtain ⟨ad109, e109, hx109_0⟩ := Kd.at_string HR0.out x8_1 p109 q109
       cases e109
       replace p109 := eq_true p109
       replace q109 := eq_true q109
       go_wp2
       go_ret
       exact ⟨by first | rfl | (simp; done) | (simp [*]; done), by repeat (first | exact Drawn0.refl _ | apply Drawn0.step)⟩
      ·rw [if_neg c6] at H
       have c6b0 : (a1.toList == (rdOf ByteArray.empty l0 x8_1).toList) = false := beq_eq_false_iff_ne.mpr c6
       have c6b1 : (a1.toList != (rdOf ByteArray.empty l0 x8_1).toList) = true := bne_iff_ne.mpr c6
       have H' := Aside0.mk H
       clear H
       have p109 : 0 ≤ (x8_1 : Int) := of_decide_eq_true (by first | (with_reducible assumption) | assumption)
       have q109 : x8_1 < (l0.length : Int) := of_decide_eq_true (by first | (with_reducible assumption) | assumption)
       obtain ⟨ad109, e109, hx109_0⟩ := Kd.at_string HR0.out x8_1 p109 q109
       cases e109
       replace p109 := eq_true p109
       replace q109 := eq_true q109
       go_wp2
       go_roundg k1
       case measure => have := HK1.out; omega
       case rel => exact ⟨(wrap64 (x8_1 + 1)), (by first | rfl | (simp; done) | (simp [*]; done)), H', ⟨by have := HK1.out; omega⟩, by repeat (first | exact Drawn0.refl _ | apply Drawn0.step)⟩
     ·rw [if_neg c5] at H
      exact absurd H (by simp)
    ·rw [if_neg c4] at H
     exact absurd H (by simp)
   ·rw [if_neg c3] at H
    have c3b0 : decide (x8_1 < (l0.length : Int)) = false := decide_eq_false c3
    clear c3
    obtain rfl := Option.some.inj H
    go_wp2
    go_ret
    exact ⟨by first | rfl | (simp; done) | (simp [*]; done), by repeat (first | exact Drawn0.refl _ | apply Drawn0.step)⟩
def slices_Contains_string_string.f (k : Nat) (l0 : List ByteArray) (a1 : ByteArray) : Option (Bool) := (slices_Index_string_string.f k l0 a1).bind fun t110 => (some (decide (t110 ≥ 0)))
set_option maxHeartbeats 8000000 in
set_option maxRecDepth 100000 in
theorem slices_Contains_string_string.calls (k : Nat) (A0 : Option Addr) (c0 : Nat) (l0 : List ByteArray) (a1 : ByteArray) (r : Bool) (w : World) (hr0 : Kd.C Kd.string w A0 l0.length l0) (hc0 : l0.length ≤ c0) (h : slices_Contains_string_string.f k l0 a1 = some r) :
  Calls Tryz.prog 180 #[.slice A0 l0.length c0, .string a1] w fun e w' => e = .returned (.bool r) ∧ Drawn0 w w' := by
 have HR0 := Aside0.mk hr0
 have HC0 := Aside0.mk hc0
 clear hr0 hc0
 have H : ((slices_Index_string_string.f k l0 a1).bind fun t110 => (some (decide (t110 ≥ 0)))) = some r := h
 clear h
 replace H := Option.bind_eq_some_iff.mp H
 obtain ⟨t110, A30, H⟩ := H
 replace H : (some (decide (t110 ≥ 0))) = some r := H
 have A3 := Aside0.mk A30
 clear A30
 obtain rfl := Option.some.inj H
 go_enter Tryz.func180, Tryz.ntmps180
 go_wp2_with (first | ((with_reducible refine gate_callee (f := 193) rfl ?_); refine goesL_ (some 7) rfl rfl Tryz.func193 (by kernel_rfl) rfl #[.slice A0 l0.length c0, .string a1] rfl (by (try simp only [List.map_toArray, List.map_cons, List.map_nil]); first | done | rfl | (simp only [List.length_drop, List.length_take]; rfl)) ?_; (with_reducible refine (slices_Index_string_string.calls k _ _ l0 a1 t110 _ ?side1 ?side2 A3.out).mono ?_); (case side1 => repeat (first | exact HR0.out | (with_reducible refine Kd.C_alloc ?_ _) | (with_reducible refine Kd.C_drewN ?_ _) | (with_reducible refine Kd.C_drew ?_))); (case side2 => exact HC0.out); rintro e w' ⟨rfl, ⟨nd, rfl⟩⟩; refine ⟨_, rfl, ?_⟩))
 go_ret
 exact ⟨by first | rfl | (simp; done) | (simp [*]; done), by repeat (first | exact Drawn0.refl _ | apply Drawn0.step)⟩
end Go.Proofs.YtaofmmnfenlofaaGreatDoor.QTc
namespace Go.Proofs
open Go.Shelf
def Tryz.lays206_ren : Go.Shelf.Ren := ⟨fun | 206 => 182 | n => n, fun | 9 => 9 | 4 => 4 | 3 => 3 | n => n, fun | n => n⟩
theorem Tryz.lays206 : Go.Proofs.Lays.n206 Tryz.prog Tryz.lays206_ren := {
  mixed := by kernel_rfl
  f206 := Tryz.func182.trans (congrArg some (by kernel_rfl))
  t3 := Tryz.underlying3
  a3 := Tryz.isAgg3
  z3 := Tryz.sizeOf3
  v3 := Tryz.zeroValue3
  t4 := Tryz.underlying4
  a4 := Tryz.isAgg4
  z4 := Tryz.sizeOf4
  v4 := Tryz.zeroValue4
  t9 := Tryz.underlying9
  a9 := Tryz.isAgg9
  z9 := Tryz.sizeOf9
  v9 := Tryz.zeroValue9 }
open Go.RowKit Go.Lib in
theorem Tryz.stringslite_HasPrefix (s p : ByteArray) (w : World) :
    Calls Tryz.prog 182 #[.string s, .string p] w fun e w' => e = .returned (.bool (Lib.hasPrefix s.data.toList p.data.toList)) ∧ w' = w := Any.stringslite_HasPrefix Tryz.lays206 s p w
def Tryz.lays99_ren : Go.Shelf.Ren := ⟨fun | 99 => 164 | 206 => 182 | n => n, fun | 9 => 9 | 4 => 4 | 3 => 3 | n => n, fun | n => n⟩
theorem Tryz.lays99 : Go.Proofs.Lays.n99 Tryz.prog Tryz.lays99_ren := {
  mixed := by kernel_rfl
  f99 := Tryz.func164.trans (congrArg some (by kernel_rfl))
  f206 := Tryz.func182.trans (congrArg some (by kernel_rfl))
  t3 := Tryz.underlying3
  a3 := Tryz.isAgg3
  z3 := Tryz.sizeOf3
  v3 := Tryz.zeroValue3
  t4 := Tryz.underlying4
  a4 := Tryz.isAgg4
  z4 := Tryz.sizeOf4
  v4 := Tryz.zeroValue4
  t9 := Tryz.underlying9
  a9 := Tryz.isAgg9
  z9 := Tryz.sizeOf9
  v9 := Tryz.zeroValue9 }
open Go.RowKit Go.Lib in
theorem Tryz.strings_HasPrefix (s p : ByteArray) (w : World) :
    Calls Tryz.prog 164 #[.string s, .string p] w fun e w' => e = .returned (.bool (Lib.hasPrefix s.data.toList p.data.toList)) ∧ w' = w := Any.strings_HasPrefix Tryz.lays99 s p w
def Tryz.lays157_ren : Go.Shelf.Ren := ⟨fun | 157 => 194 | 229 => 204 | 199 => 205 | 261 => 211 | 311 => 212 | 312 => 213 | n => n, fun | 9 => 9 | 31 => 206 | 3 => 3 | 5 => 5 | 4 => 4 | 119 => 250 | 0 => 0 | 40 => 252 | 152 => 257 | 21 => 21 | 154 => 259 | 51 => 244 | 141 => 261 | 196 => 266 | 193 => 263 | 198 => 269 | 49 => 267 | 194 => 264 | 201 => 272 | 226 => 274 | 46 => 210 | 227 => 275 | n => n, fun | 0 => 3 | 6 => 5 | n => n⟩
theorem Tryz.lays157 : Go.Proofs.Lays.n157 Tryz.prog Tryz.lays157_ren := {
  mixed := by kernel_rfl
  f157 := Tryz.func194.trans (congrArg some (by kernel_rfl))
  f199 := Tryz.func205.trans (congrArg some (by kernel_rfl))
  f229 := Tryz.func204.trans (congrArg some (by kernel_rfl))
  f261 := Tryz.func211.trans (congrArg some (by kernel_rfl))
  f311 := Tryz.func212.trans (congrArg some (by kernel_rfl))
  f312 := Tryz.func213.trans (congrArg some (by kernel_rfl))
  t0 := Tryz.underlying0
  a0 := Tryz.isAgg0
  z0 := Tryz.sizeOf0
  v0 := Tryz.zeroValue0
  t3 := Tryz.underlying3
  a3 := Tryz.isAgg3
  z3 := Tryz.sizeOf3
  v3 := Tryz.zeroValue3
  t4 := Tryz.underlying4
  a4 := Tryz.isAgg4
  z4 := Tryz.sizeOf4
  v4 := Tryz.zeroValue4
  t5 := Tryz.underlying5
  a5 := Tryz.isAgg5
  z5 := Tryz.sizeOf5
  v5 := Tryz.zeroValue5
  t9 := Tryz.underlying9
  a9 := Tryz.isAgg9
  z9 := Tryz.sizeOf9
  v9 := Tryz.zeroValue9
  t21 := Tryz.underlying21
  a21 := Tryz.isAgg21
  z21 := Tryz.sizeOf21
  v21 := Tryz.zeroValue21
  t31 := Tryz.underlying206
  a31 := Tryz.isAgg206
  z31 := Tryz.sizeOf206
  v31 := Tryz.zeroValue206
  t40 := Tryz.underlying252
  a40 := Tryz.isAgg252
  z40 := Tryz.sizeOf252
  v40 := Tryz.zeroValue252
  t46 := Tryz.underlying210
  a46 := Tryz.isAgg210
  z46 := Tryz.sizeOf210
  v46 := Tryz.zeroValue210
  t49 := Tryz.underlying267
  a49 := Tryz.isAgg267
  z49 := Tryz.sizeOf267
  v49 := Tryz.zeroValue267
  t51 := Tryz.underlying244
  a51 := Tryz.isAgg244
  z51 := Tryz.sizeOf244
  v51 := Tryz.zeroValue244
  t119 := Tryz.underlying250
  a119 := Tryz.isAgg250
  z119 := Tryz.sizeOf250
  t141 := Tryz.underlying261
  a141 := Tryz.isAgg261
  z141 := Tryz.sizeOf261
  v141 := Tryz.zeroValue261
  t152 := Tryz.underlying257
  a152 := Tryz.isAgg257
  z152 := Tryz.sizeOf257
  v152 := Tryz.zeroValue257
  t154 := Tryz.underlying259
  a154 := Tryz.isAgg259
  z154 := Tryz.sizeOf259
  v154 := Tryz.zeroValue259
  t193 := Tryz.underlying263
  a193 := Tryz.isAgg263
  z193 := Tryz.sizeOf263
  v193 := Tryz.zeroValue263
  t194 := Tryz.underlying264
  a194 := Tryz.isAgg264
  z194 := Tryz.sizeOf264
  v194 := Tryz.zeroValue264
  t196 := Tryz.underlying266
  a196 := Tryz.isAgg266
  z196 := Tryz.sizeOf266
  v196 := Tryz.zeroValue266
  t198 := Tryz.underlying269
  a198 := Tryz.isAgg269
  z198 := Tryz.sizeOf269
  v198 := Tryz.zeroValue269
  t201 := Tryz.underlying272
  a201 := Tryz.isAgg272
  z201 := Tryz.sizeOf272
  v201 := Tryz.zeroValue272
  t226 := Tryz.underlying274
  a226 := Tryz.isAgg274
  z226 := Tryz.sizeOf274
  v226 := Tryz.zeroValue274
  t227 := Tryz.underlying275
  a227 := Tryz.isAgg275
  z227 := Tryz.sizeOf275
  v227 := Tryz.zeroValue275
  g0 := by kernel_rfl
  g6 := by kernel_rfl }
open Go.RowKit Go.Lib in
theorem Tryz.strings_Fields (s : ByteArray) (w : World) (hs : s.size < 4294967281) (hascii : ∀ (j : Nat) b, s.data.toList[j]? = some b → b.toNat < 128) (htab : Lib.TabIs Tryz.prog w "strings.asciiSpace" .u8 Lib.asciiSpaceTab) :
    Calls Tryz.prog 194 #[.string s] w fun e w' =>
      e = .returned (.slice (some ⟨w.heap.size, 0, none⟩) (Lib.fields s.data.toList).length (Lib.fields s.data.toList).length) ∧ w' = w.alloc (.cells ((Lib.fields s.data.toList).map fun l => Value.string ⟨l.toArray⟩).toArray 9) := Any.strings_Fields Tryz.lays157 (by kernel_rfl) (by kernel_rfl) s w hs hascii htab
end Go.Proofs
namespace Go.Proofs.YtaofmmnfenlofaaGreatDoor.QTc
open Go.RowKit Go.Proofs.YtaofmmnfenlofaaGreatDoorW.PrintWords Go.Proofs.YtaofmmnfenlofaaGreatDoorW.PrintLast Go.Proofs.YtaofmmnfenlofaaGreatDoorW.PrintMore
set_option linter.unusedVariables false
set_option linter.unusedSimpArgs false
theorem cntF_le : ∀ (l : List UInt8) (b : Bool), Lib.cntF b l ≤ l.length
  | [], _ => by simp [Lib.cntF]
  | c :: l, b => by
    unfold Lib.cntF
    have := cntF_le l (Lib.isSp c)
    rw [List.length_cons]
    split <;> omega
theorem fields_len (l : List UInt8) : (Lib.fields l).length ≤ l.length + 1 := by
  unfold Lib.fields
  rw [Lib.fieldsGo_length]
  have := cntF_le l true
  simp
  omega
def strings_Fields.f (a0 : ByteArray) : Option (List ByteArray) :=
  if a0.size < 4294967281 ∧ (a0.data.toList.all fun b => decide (b.toNat < 128)) = true then some ((Lib.fields a0.data.toList).map fun l => ⟨l.toArray⟩) else none
theorem strings_Fields.calls (a0 : ByteArray) (r : List ByteArray) (w : World) (hT : TabW w) (h : strings_Fields.f a0 = some r) :
    Calls Tryz.prog 194 #[.string a0] w fun e w' => ∃ v, e = .returned v ∧ Kd.R Kd.string 9 w' w.heap.size (fun _ => True) v r ∧ Below w.heap.size w w' := by
  unfold strings_Fields.f at h
  by_cases hr : a0.size < 4294967281 ∧ (a0.data.toList.all fun b => decide (b.toNat < 128)) = true
  · rw [if_pos hr] at h
    obtain rfl := Option.some.inj h
    obtain ⟨h0, h1⟩ := hr
    have hlen : (Lib.fields a0.data.toList).length ≤ 9223372036854775807 := by
      have := fields_len a0.data.toList
      have h2 : a0.data.toList.length = a0.size := by simp
      omega
    have ha : ∀ (j : Nat) b, a0.data.toList[j]? = some b → b.toNat < 128 := fun j b hj => by
      have := List.all_eq_true.mp h1 b (List.mem_of_getElem? hj)
      exact of_decide_eq_true this
    refine (Tryz.strings_Fields a0 w h0 ha hT.2).mono fun e w' ⟨he, hw⟩ => ⟨_, he, ?_, by rw [hw]; exact Below.alloc (Below.refl _ _) (Nat.le_refl _) _⟩
    subst hw
    generalize Lib.fields a0.data.toList = L at hlen ⊢
    refine ⟨fun _ _ => trivial, ?_⟩
    have hR : Reps (Kd.string.M (w.alloc (.cells ((L.map fun l => Value.string ⟨l.toArray⟩).toArray) 9)) w.heap.size (fun k => True ∧ some k ≠ (Value.slice (some ⟨w.heap.size, 0, none⟩) L.length L.length).ownBlock)) 1 (L.map fun l => (⟨l.toArray⟩ : ByteArray)) (L.map fun l => Value.string ⟨l.toArray⟩) := by
      refine ⟨by simp, fun j p hj => ?_⟩
      rw [List.getElem?_map] at hj
      obtain ⟨x, hx, rfl⟩ := Option.map_eq_some_iff.mp hj
      show _ = [Value.string _]
      rw [Nat.mul_one]
      have hlt : j < (L.map fun l => Value.string ⟨l.toArray⟩).length := by
        rcases Nat.lt_or_ge j L.length with q | q
        · simpa using q
        · rw [List.getElem?_eq_none q] at hx; cases hx
      rw [List.drop_eq_getElem_cons hlt]
      rw [List.getElem?_eq_some_iff] at hx
      obtain ⟨hq, rfl⟩ := hx
      simp
    have := OwnRow.lit (e := 9) w w.heap.size hR (Nat.le_refl _) (by rw [List.length_map]; exact hlen)
    have hz : Kd.string.sz = 1 := rfl
    rw [hz]
    simpa using this
  · rw [if_neg hr] at h; cases h
end Go.Proofs.YtaofmmnfenlofaaGreatDoor.QTc
namespace Go.Proofs.YtaofmmnfenlofaaGreatDoor.QTc
open Go.RowKit Go.Proofs.YtaofmmnfenlofaaGreatDoorW.PrintWords Go.Proofs.YtaofmmnfenlofaaGreatDoorW.PrintLast Go.Proofs.YtaofmmnfenlofaaGreatDoorW.PrintMore
attribute [local go_sem] max2_int min2_int max_two min_two max_three min_three max_four min_four
set_option linter.unusedVariables false
set_option linter.unusedSimpArgs false
def lex_Words.f  : Option (List ByteArray) := (strings_Fields.f (⟨#[114, 101, 108, 111, 97, 100, 32, 116, 97, 115, 107, 32, 112, 101, 114, 105, 111, 100, 32, 100, 101, 97, 100, 108, 105, 110, 101, 32, 102, 105, 120, 101, 100, 32, 102, 108, 111, 97, 116, 32, 116, 104, 114, 101, 115, 104, 32, 114, 101, 103, 105, 111, 110, 115, 32, 101, 99, 98, 32, 117, 99, 98]⟩ : ByteArray)).bind fun t114 => (some t114)
set_option maxHeartbeats 8000000 in
set_option maxRecDepth 100000 in
theorem lex_Words.calls  (r : List ByteArray) (w : World) (hT : TabW w) (h : lex_Words.f  = some r) :
  Calls Tryz.prog 181 #[] w fun e w' => ∃ v0_ : Value, e = .returned (v0_) ∧ Kd.R Kd.string 9 w' w.heap.size (fun _ => True) v0_ r ∧ Below w.heap.size w w' := by
 have HT := Aside0.mk hT
 clear hT
 have HB := Aside0.mk (Below.refl w.heap.size w)
 have H : ((strings_Fields.f (⟨#[114, 101, 108, 111, 97, 100, 32, 116, 97, 115, 107, 32, 112, 101, 114, 105, 111, 100, 32, 100, 101, 97, 100, 108, 105, 110, 101, 32, 102, 105, 120, 101, 100, 32, 102, 108, 111, 97, 116, 32, 116, 104, 114, 101, 115, 104, 32, 114, 101, 103, 105, 111, 110, 115, 32, 101, 99, 98, 32, 117, 99, 98]⟩ : ByteArray)).bind fun t114 => (some t114)) = some r := h
 clear h
 replace H := Option.bind_eq_some_iff.mp H
 obtain ⟨t114, A10, H⟩ := H
 replace H : (some t114) = some r := H
 have A1 := Aside0.mk A10
 clear A10
 obtain rfl := Option.some.inj H
 go_enter Tryz.func181, Tryz.ntmps181
 go_wp2_with (first | ((with_reducible refine gate_callee (f := 194) rfl ?_); refine goesL_ (some 1) rfl rfl Tryz.func194 (by kernel_rfl) rfl #[.string (⟨#[114, 101, 108, 111, 97, 100, 32, 116, 97, 115, 107, 32, 112, 101, 114, 105, 111, 100, 32, 100, 101, 97, 100, 108, 105, 110, 101, 32, 102, 105, 120, 101, 100, 32, 102, 108, 111, 97, 116, 32, 116, 104, 114, 101, 115, 104, 32, 114, 101, 103, 105, 111, 110, 115, 32, 101, 99, 98, 32, 117, 99, 98]⟩ : ByteArray)] rfl (by (try simp only [List.map_toArray, List.map_cons, List.map_nil]); first | done | rfl | (simp only [List.length_drop, List.length_take]; rfl)) ?_; (with_reducible refine (strings_Fields.calls (hT := ?sideT) (⟨#[114, 101, 108, 111, 97, 100, 32, 116, 97, 115, 107, 32, 112, 101, 114, 105, 111, 100, 32, 100, 101, 97, 100, 108, 105, 110, 101, 32, 102, 105, 120, 101, 100, 32, 102, 108, 111, 97, 116, 32, 116, 104, 114, 101, 115, 104, 32, 114, 101, 103, 105, 111, 110, 115, 32, 101, 99, 98, 32, 117, 99, 98]⟩ : ByteArray) t114 _ A1.out).mono ?_); (case sideT => first | with_reducible exact HT.out | refine TabW.below HT.out ?_; repeat (first | (with_reducible first | exact HB.out | apply below_alloc | apply pw_below_drewN | apply below_drew1) | exact HB.out | exact Below.refl _ _)); rintro e w2 ⟨v115, rfl, ho0, hb⟩; refine ⟨_, rfl, ?_⟩; have n0_ := Aside0.mk (Kd.R_lower ho0 (below_size (by repeat (first | (with_reducible first | exact HB.out | apply below_alloc | apply pw_below_drewN | apply below_drew1) | exact HB.out)))); have n1_ := Aside0.mk (below_step (by repeat (first | (with_reducible first | exact HB.out | apply below_alloc | apply pw_below_drewN | apply below_drew1) | exact HB.out)) hb); clear HB; have HO116 := n0_; have HB := n1_; clear n0_ n1_; (try clear hb); (try clear hb2); (try clear hk); (try clear hi); (try clear ho0)))
 go_ret
 exact ⟨_, by first | rfl | (simp [errW_none, errW_some] <;> rfl) | (simp [*, errW_none, errW_some] <;> rfl), by (with_reducible repeat (first | apply Kd.R_alloc | apply Kd.R_drewN | apply Kd.R_drew)); exact HO116.out, by repeat (first | (with_reducible first | exact HB.out | apply below_alloc | apply pw_below_drewN | apply below_drew1) | exact HB.out)⟩
def lex_isDigit.f (a0 : Int) : Option (Bool) := if a0 ≥ 48 then (some (decide (a0 ≤ 57))) else (some false)
set_option maxHeartbeats 8000000 in
set_option maxRecDepth 100000 in
theorem lex_isDigit.calls (a0 : Int) (r : Bool) (w : World) (h : lex_isDigit.f a0 = some r) :
  Calls Tryz.prog 162 #[.int .u8 a0] w fun e w' => e = .returned (.bool r) ∧ Drawn0 w w' := by
 have H : (if a0 ≥ 48 then (some (decide (a0 ≤ 57))) else (some false)) = some r := h
 clear h
 by_cases c2 : a0 ≥ 48
 ·rw [if_pos c2] at H
  have c2b0 : decide (48 ≤ a0) = true := decide_eq_true c2
  clear c2
  obtain rfl := Option.some.inj H
  go_enter Tryz.func162, Tryz.ntmps162
  go_wp2
  go_ret
  exact ⟨by first | rfl | (simp; done) | (simp [*]; done), by repeat (first | exact Drawn0.refl _ | apply Drawn0.step)⟩
 ·rw [if_neg c2] at H
  have c2b0 : decide (48 ≤ a0) = false := decide_eq_false c2
  clear c2
  obtain rfl := Option.some.inj H
  go_enter Tryz.func162, Tryz.ntmps162
  go_wp2
  go_ret
  exact ⟨by first | rfl | (simp; done) | (simp [*]; done), by repeat (first | exact Drawn0.refl _ | apply Drawn0.step)⟩
def lex_isMore.f (a0 : Int) : Option (Bool) := (lex_isLetter.f a0).bind fun t107 => (if t107 = true then (some true) else ((lex_isDigit.f a0).bind fun t108 => (if t108 = true then (some true) else (some (a0 == 95)))))
set_option maxHeartbeats 8000000 in
set_option maxRecDepth 100000 in
theorem lex_isMore.calls (a0 : Int) (r : Bool) (w : World) (h : lex_isMore.f a0 = some r) :
  Calls Tryz.prog 179 #[.int .u8 a0] w fun e w' => e = .returned (.bool r) ∧ Drawn0 w w' := by
 have H : ((lex_isLetter.f a0).bind fun t107 => (if t107 = true then (some true) else ((lex_isDigit.f a0).bind fun t108 => (if t108 = true then (some true) else (some (a0 == 95)))))) = some r := h
 clear h
 replace H := Option.bind_eq_some_iff.mp H
 obtain ⟨t107, A20, H⟩ := H
 replace H : (if t107 = true then (some true) else ((lex_isDigit.f a0).bind fun t108 => (if t108 = true then (some true) else (some (a0 == 95))))) = some r := H
 have A2 := Aside0.mk A20
 clear A20
 by_cases c3 : t107 = true
 ·subst c3
  have H1 : (some true) = some r := by rw [if_pos rfl] at H; exact H
  clear H
  have H := H1
  clear H1
  obtain rfl := Option.some.inj H
  go_enter Tryz.func179, Tryz.ntmps179
  go_wp2_with (first | ((with_reducible refine gate_callee (f := 160) rfl ?_); refine goesL_ (some 4) rfl rfl Tryz.func160 (by kernel_rfl) rfl #[.int .u8 a0] rfl (by (try simp only [List.map_toArray, List.map_cons, List.map_nil]); first | done | rfl | (simp only [List.length_drop, List.length_take]; rfl)) ?_; (with_reducible refine (lex_isLetter.calls a0 true _ A2.out).mono ?_); rintro e w' ⟨rfl, ⟨nd, rfl⟩⟩; refine ⟨_, rfl, ?_⟩))
  go_ret
  exact ⟨by first | rfl | (simp; done) | (simp [*]; done), by repeat (first | exact Drawn0.refl _ | apply Drawn0.step)⟩
 ·replace c3 := Bool.eq_false_iff.mpr c3
  subst c3
  have H1 : ((lex_isDigit.f a0).bind fun t108 => (if t108 = true then (some true) else (some (a0 == 95)))) = some r := by rw [if_neg (show ¬ (false = true) by decide)] at H; exact H
  clear H
  have H := H1
  clear H1
  replace H := Option.bind_eq_some_iff.mp H
  obtain ⟨t108, A40, H⟩ := H
  replace H : (if t108 = true then (some true) else (some (a0 == 95))) = some r := H
  have A4 := Aside0.mk A40
  clear A40
  by_cases c5 : t108 = true
  ·subst c5
   have H1 : (some true) = some r := by rw [if_pos rfl] at H; exact H
   clear H
   have H := H1
   clear H1
   obtain rfl := Option.some.inj H
   go_enter Tryz.func179, Tryz.ntmps179
   go_wp2_with (first | ((with_reducible refine gate_callee (f := 160) rfl ?_); refine goesL_ (some 4) rfl rfl Tryz.func160 (by kernel_rfl) rfl #[.int .u8 a0] rfl (by (try simp only [List.map_toArray, List.map_cons, List.map_nil]); first | done | rfl | (simp only [List.length_drop, List.length_take]; rfl)) ?_; (with_reducible refine (lex_isLetter.calls a0 false _ A2.out).mono ?_); rintro e w' ⟨rfl, ⟨nd, rfl⟩⟩; refine ⟨_, rfl, ?_⟩) | (go_at_call 162; (with_reducible refine (lex_isDigit.calls a0 true _ A4.out).mono ?_); rintro e w' ⟨rfl, ⟨nd, rfl⟩⟩))
   go_ret
   exact ⟨by first | rfl | (simp; done) | (simp [*]; done), by repeat (first | exact Drawn0.refl _ | apply Drawn0.step)⟩
  ·replace c5 := Bool.eq_false_iff.mpr c5
   subst c5
   have H1 : (some (a0 == 95)) = some r := by rw [if_neg (show ¬ (false = true) by decide)] at H; exact H
   clear H
   have H := H1
   clear H1
   obtain rfl := Option.some.inj H
   go_enter Tryz.func179, Tryz.ntmps179
   go_wp2_with (first | ((with_reducible refine gate_callee (f := 160) rfl ?_); refine goesL_ (some 4) rfl rfl Tryz.func160 (by kernel_rfl) rfl #[.int .u8 a0] rfl (by (try simp only [List.map_toArray, List.map_cons, List.map_nil]); first | done | rfl | (simp only [List.length_drop, List.length_take]; rfl)) ?_; (with_reducible refine (lex_isLetter.calls a0 false _ A2.out).mono ?_); rintro e w' ⟨rfl, ⟨nd, rfl⟩⟩; refine ⟨_, rfl, ?_⟩) | (go_at_call 162; (with_reducible refine (lex_isDigit.calls a0 false _ A4.out).mono ?_); rintro e w' ⟨rfl, ⟨nd, rfl⟩⟩))
   go_ret
   exact ⟨by first | rfl | (simp; done) | (simp [*]; done), by repeat (first | exact Drawn0.refl _ | apply Drawn0.step)⟩
end Go.Proofs.YtaofmmnfenlofaaGreatDoor.QTc
namespace Go.Proofs.YtaofmmnfenlofaaGreatDoor.QTc
open Go.RowKit Go.Proofs.YtaofmmnfenlofaaGreatDoorW.PrintWords Go.Proofs.YtaofmmnfenlofaaGreatDoorW.PrintLast Go.Proofs.YtaofmmnfenlofaaGreatDoorW.PrintMore
set_option linter.unusedVariables false
set_option linter.unusedSimpArgs false
def plen (p : UInt8 → Bool) : List UInt8 → Nat
  | [] => 0
  | c :: r => if p c = true then plen p r + 1 else 0
theorem plen_le (p : UInt8 → Bool) : ∀ l, plen p l ≤ l.length
  | [] => Nat.le_refl _
  | c :: r => by
    unfold plen
    split
    · have := plen_le p r; rw [List.length_cons]; omega
    · exact Nat.zero_le _
set_option maxHeartbeats 4000000 in
theorem run_calls (fn : FuncId) (p : UInt8 → Bool) (s : ByteArray) (hs : s.size ≤ 100000) (hp : ∀ (c : UInt8) (w : World), Calls Tryz.prog fn #[.int .u8 c.toNat] w fun e w' => e = .returned (.bool (p c)) ∧ Drawn0 w w')
    (fd : Func) (hf : Tryz.prog.funcs[fn]? = some fd) (hname : (fd.name == "runtime.NumGoroutine") = false) (hb : fd.body.isSome = true) (w : World) :
    Calls Tryz.prog 158 #[.string s, .func (.func fn) #[] #[]] w fun e w' => e = .returned (.int .i64 (plen p s.data.toList : Nat)) ∧ Drawn0 w w' := by
  have HP := Aside0.mk hp
  have HE := Aside0.mk (fun (args : Array Value) (w : World) => enters_ hf hname hb args w)
  clear hp hf hname hb
  go_enter Tryz.func158, Tryz.ntmps158
  go_wp2
  go_loopg [5] (s.size + 1) (fun kq v5 w' => ∃ i : Nat, kq + i = s.size + 1 ∧ v5 = .int .i64 (i : Int) ∧ i ≤ s.size ∧ i + plen p (s.data.toList.drop i) = plen p s.data.toList ∧ Drawn0 w w')
  case atStart => exact ⟨0, by omega, rfl, by omega, by simp, Drawn0.refl _⟩
  case round =>
    obtain ⟨i, hq, rfl, hi, hl, hB⟩ := hrel
    cases gk with
    | zero => exfalso; omega
    | succ k1 =>
    by_cases hlt : i < s.size
    · have hlt1 : decide ((i : Int) < (s.size : Int)) = true := decide_eq_true (by omega)
      have hdrop : s.data.toList.drop i = s[i] :: s.data.toList.drop (i + 1) := by
        rw [List.drop_eq_getElem_cons (by simpa using hlt)]; rfl
      rw [hdrop, plen] at hl
      have h0 := HP.out s[i]
      have i0 : decide (0 ≤ (i : Int)) = true := decide_eq_true (by omega)
      have HE' := HE.out
      have hw1 : wrap64 ((i : Int) + 1) = ((i + 1 : Nat) : Int) := by unfold wrap64; omega
      by_cases hc : p s[i] = true
      · rw [if_pos hc] at hl
        rw [hc] at h0
        go_wp2_with (first | ((with_reducible refine (h0 _).mono ?_); rintro e w1 ⟨rfl, ⟨nd, rfl⟩⟩))
        go_roundg k1
        case measure => exact Nat.lt_succ_self _
        case rel => exact ⟨i + 1, by omega, by rw [show ((i : Int) + 1) = ((i + 1 : Nat) : Int) by omega], by omega, by omega, by repeat (first | exact hB | apply Drawn0.step)⟩
      · rw [if_neg hc] at hl
        rw [Bool.eq_false_iff.mpr hc] at h0
        go_wp2_with (first | ((with_reducible refine (h0 _).mono ?_); rintro e w1 ⟨rfl, ⟨nd, rfl⟩⟩))
        go_wp2
        go_ret
        rw [← hl]
        exact ⟨by first | rfl | (simp; done), by repeat (first | exact hB | apply Drawn0.step)⟩
    · have hlt1 : decide ((i : Int) < (s.size : Int)) = false := decide_eq_false (by omega)
      rw [List.drop_of_length_le (by simp; omega), plen] at hl
      go_wp2
      go_ret
      rw [← hl]
      exact ⟨by first | rfl | (simp; done), hB⟩
def isLetterB (c : UInt8) : Bool := decide (97 ≤ c.toNat ∧ c.toNat ≤ 122)
def isDigitB (c : UInt8) : Bool := decide (48 ≤ c.toNat ∧ c.toNat ≤ 57)
def isMoreB (c : UInt8) : Bool := isLetterB c || isDigitB c || decide (c.toNat = 95)
theorem letter_f (c : UInt8) : lex_isLetter.f (c.toNat : Int) = some (isLetterB c) := by
  unfold lex_isLetter.f isLetterB
  by_cases h : 97 ≤ c.toNat
  · rw [if_pos (by omega)]; simp [h]; omega
  · rw [if_neg (by omega)]; simp [h]
theorem digit_f (c : UInt8) : lex_isDigit.f (c.toNat : Int) = some (isDigitB c) := by
  unfold lex_isDigit.f isDigitB
  by_cases h : 48 ≤ c.toNat
  · rw [if_pos (by omega)]; simp [h]; omega
  · rw [if_neg (by omega)]; simp [h]
theorem more_f (c : UInt8) : lex_isMore.f (c.toNat : Int) = some (isMoreB c) := by
  unfold lex_isMore.f
  rw [letter_f, digit_f]
  unfold isMoreB
  have e : ((c.toNat : Int) == 95) = decide (c.toNat = 95) := by
    rw [Bool.eq_iff_iff]; simp; omega
  cases h1 : isLetterB c <;> cases h2 : isDigitB c <;> simp [e]
def lex_runMore.f (a0 : ByteArray) : Option Int := if a0.size ≤ 100000 then some (plen isMoreB a0.data.toList : Nat) else none
theorem lex_runMore.calls (a0 : ByteArray) (r : Int) (w : World) (h : lex_runMore.f a0 = some r) :
    Calls Tryz.prog 158 #[.string a0, .func (.func 179) #[] #[]] w fun e w' => e = .returned (.int .i64 r) ∧ Drawn0 w w' := by
  unfold lex_runMore.f at h
  by_cases hr : a0.size ≤ 100000
  · rw [if_pos hr] at h
    obtain rfl := Option.some.inj h
    exact run_calls _ isMoreB a0 hr (fun c w => lex_isMore.calls _ _ w (more_f c)) _ Tryz.func179 (by kernel_rfl) rfl w
  · rw [if_neg hr] at h; cases h
def lex_runDigit.f (a0 : ByteArray) : Option Int := if a0.size ≤ 100000 then some (plen isDigitB a0.data.toList : Nat) else none
theorem lex_runDigit.calls (a0 : ByteArray) (r : Int) (w : World) (h : lex_runDigit.f a0 = some r) :
    Calls Tryz.prog 158 #[.string a0, .func (.func 162) #[] #[]] w fun e w' => e = .returned (.int .i64 r) ∧ Drawn0 w w' := by
  unfold lex_runDigit.f at h
  by_cases hr : a0.size ≤ 100000
  · rw [if_pos hr] at h
    obtain rfl := Option.some.inj h
    exact run_calls _ isDigitB a0 hr (fun c w => lex_isDigit.calls _ _ w (digit_f c)) _ Tryz.func162 (by kernel_rfl) rfl w
  · rw [if_neg hr] at h; cases h
def notFeed (c : UInt8) : Bool := decide (c.toNat ≠ 10)
set_option maxHeartbeats 1000000 in
theorem feed_calls (c : UInt8) (w : World) : Calls Tryz.prog 159 #[.int .u8 c.toNat] w fun e w' => e = .returned (.bool (notFeed c)) ∧ Drawn0 w w' := by
  have e : ((c.toNat : Int) != 10) = notFeed c := by
    unfold notFeed
    rw [Bool.eq_iff_iff]; simp; omega
  generalize notFeed c = r at e ⊢
  go_enter Tryz.func159, Tryz.ntmps159
  go_wp2
  go_ret
  exact ⟨by first | rfl | (simp; done) | (simp [*]; done), by repeat (first | exact Drawn0.refl _ | apply Drawn0.step)⟩
def gapN : List UInt8 → Nat
  | [] => 0
  | c :: r => if c.toNat = 32 ∨ c.toNat = 10 then 1 else if c.toNat = 35 then plen notFeed (c :: r) else 0
set_option maxHeartbeats 4000000 in
theorem lex_gap.calls (s : ByteArray) (hs : s.size ≤ 100000) (h0 : 0 < s.size) (w : World) :
    Calls Tryz.prog 135 #[.string s] w fun e w' => e = .returned (.int .i64 (gapN s.data.toList : Nat)) ∧ Drawn0 w w' := by
  have hl : s.data.toList = s[0] :: s.data.toList.drop 1 := by
    have := List.drop_eq_getElem_cons (l := s.data.toList) (i := 0) (by simpa using h0)
    rw [List.drop_zero] at this; exact this
  have hg : gapN s.data.toList = if s[0].toNat = 32 ∨ s[0].toNat = 10 then 1 else if s[0].toNat = 35 then plen notFeed s.data.toList else 0 := by
    conv => lhs; rw [hl, gapN]
    rw [← hl]
  rw [hg]
  have R := fun w => run_calls _ notFeed s hs (fun c w => feed_calls c w) _ Tryz.func159 (by kernel_rfl) rfl w
  clear hg hl
  have h00 : decide ((0 : Int) < (s.size : Int)) = true := decide_eq_true (by omega)
  by_cases c1 : s[0].toNat = 32
  · have e1 : ((s[0].toNat : Int) == 32) = true := by simp; omega
    rw [if_pos (Or.inl c1)]
    clear R c1
    go_enter Tryz.func135, Tryz.ntmps135
    go_wp2
    go_ret
    exact ⟨by first | rfl | (simp; done) | (simp [*]; done), by repeat (first | exact Drawn0.refl _ | apply Drawn0.step)⟩
  · have e1 : ((s[0].toNat : Int) == 32) = false := by simp; omega
    by_cases c2 : s[0].toNat = 10
    · have e2 : ((s[0].toNat : Int) == 10) = true := by simp; omega
      rw [if_pos (Or.inr c2)]
      clear R c1 c2
      go_enter Tryz.func135, Tryz.ntmps135
      go_wp2
      go_ret
      exact ⟨by first | rfl | (simp; done) | (simp [*]; done), by repeat (first | exact Drawn0.refl _ | apply Drawn0.step)⟩
    · have e2 : ((s[0].toNat : Int) == 10) = false := by simp; omega
      rw [if_neg (by omega)]
      by_cases c3 : s[0].toNat = 35
      · have e3 : ((s[0].toNat : Int) == 35) = true := by simp; omega
        rw [if_pos c3]
        generalize plen notFeed s.data.toList = n at R ⊢
        have RA := Aside0.mk R
        clear R c1 c2 c3
        go_enter Tryz.func135, Tryz.ntmps135
        go_wp2_with (go_at_call 158; (with_reducible refine (RA.out _).mono ?_); rintro e w' ⟨rfl, ⟨nd, rfl⟩⟩)
        go_ret
        exact ⟨by first | rfl | (simp; done) | (simp [*]; done), by repeat (first | exact Drawn0.refl _ | apply Drawn0.step)⟩
      · have e3 : ((s[0].toNat : Int) == 35) = false := by simp; omega
        rw [if_neg c3]
        clear R c1 c2 c3
        go_enter Tryz.func135, Tryz.ntmps135
        go_wp2
        go_ret
        exact ⟨by first | rfl | (simp; done) | (simp [*]; done), by repeat (first | exact Drawn0.refl _ | apply Drawn0.step)⟩
end Go.Proofs.YtaofmmnfenlofaaGreatDoor.QTc
namespace Go.Proofs.YtaofmmnfenlofaaGreatDoor.QTc
open Go.RowKit Go.Proofs.YtaofmmnfenlofaaGreatDoorW.PrintWords Go.Proofs.YtaofmmnfenlofaaGreatDoorW.PrintLast Go.Proofs.YtaofmmnfenlofaaGreatDoorW.PrintMore
attribute [local go_sem] max2_int min2_int max_two min_two max_three min_three max_four min_four
set_option linter.unusedVariables false
set_option linter.unusedSimpArgs false
def lex_name.f (k : Nat) (a0 : ByteArray) : Option (Int × ByteArray × Int × Int × Int × Bool) := (lex_runMore.f a0).bind fun t118 => (if 0 ≤ t118 then (if t118 ≤ (a0.size : Int) then ((lex_Words.f).bind fun t120 => ((slices_Contains_string_string.f k t120 (a0.extract 0 (t118 : Int).toNat)).bind fun t123 => (if t123 = true then (some (3, a0.extract 0 (t118 : Int).toNat, 0, 0, t118, decide (t118 ≤ 12))) else (some (1, a0.extract 0 (t118 : Int).toNat, 0, 0, t118, decide (t118 ≤ 12)))))) else (none)) else (none))
set_option maxHeartbeats 8000000 in
set_option maxRecDepth 100000 in
theorem lex_name.calls (k : Nat) (a0 : ByteArray) (r1 : Int) (r2 : ByteArray) (r3 : Int) (r4 : Int) (r5 : Int) (r6 : Bool) (w : World) (hT : TabW w) (h : lex_name.f k a0 = some (r1, r2, r3, r4, r5, r6)) :
  Calls Tryz.prog 161 #[.string a0] w fun e w' => e = .returned (.tuple #[.agg #[.int .i64 r1, .string r2, .int .i64 r3, .int .i64 r4], .int .i64 r5, .bool r6]) ∧ Below w.heap.size w w' := by
 have HT := Aside0.mk hT
 clear hT
 have hu155 := Tryz.underlying155
 have HB := Aside0.mk (Below.refl w.heap.size w)
 have H : ((lex_runMore.f a0).bind fun t118 => (if 0 ≤ t118 then (if t118 ≤ (a0.size : Int) then ((lex_Words.f).bind fun t120 => ((slices_Contains_string_string.f k t120 (a0.extract 0 (t118 : Int).toNat)).bind fun t123 => (if t123 = true then (some (3, a0.extract 0 (t118 : Int).toNat, 0, 0, t118, decide (t118 ≤ 12))) else (some (1, a0.extract 0 (t118 : Int).toNat, 0, 0, t118, decide (t118 ≤ 12)))))) else (none)) else (none))) = some (r1, r2, r3, r4, r5, r6) := h
 clear h
 replace H := Option.bind_eq_some_iff.mp H
 obtain ⟨t118, A20, H⟩ := H
 replace H : (if 0 ≤ t118 then (if t118 ≤ (a0.size : Int) then ((lex_Words.f).bind fun t120 => ((slices_Contains_string_string.f k t120 (a0.extract 0 (t118 : Int).toNat)).bind fun t123 => (if t123 = true then (some (3, a0.extract 0 (t118 : Int).toNat, 0, 0, t118, decide (t118 ≤ 12))) else (some (1, a0.extract 0 (t118 : Int).toNat, 0, 0, t118, decide (t118 ≤ 12)))))) else (none)) else (none)) = some (r1, r2, r3, r4, r5, r6) := H
 have A2 := Aside0.mk A20
 clear A20
 by_cases c3 : 0 ≤ t118
 ·rw [if_pos c3] at H
  have c3b0 := eq_true c3
  have c3b1 : decide (0 ≤ t118) = true := decide_eq_true c3
  clear c3
  by_cases c4 : t118 ≤ (a0.size : Int)
  ·rw [if_pos c4] at H
   have c4b0 := eq_true c4
   have c4b1 : decide (t118 ≤ (a0.size : Int)) = true := decide_eq_true c4
   clear c4
   replace H := Option.bind_eq_some_iff.mp H
   obtain ⟨t120, A50, H⟩ := H
   replace H : ((slices_Contains_string_string.f k t120 (a0.extract 0 (t118 : Int).toNat)).bind fun t123 => (if t123 = true then (some (3, a0.extract 0 (t118 : Int).toNat, 0, 0, t118, decide (t118 ≤ 12))) else (some (1, a0.extract 0 (t118 : Int).toNat, 0, 0, t118, decide (t118 ≤ 12))))) = some (r1, r2, r3, r4, r5, r6) := H
   have A5 := Aside0.mk A50
   clear A50
   replace H := Option.bind_eq_some_iff.mp H
   obtain ⟨t123, A60, H⟩ := H
   replace H : (if t123 = true then (some (3, a0.extract 0 (t118 : Int).toNat, 0, 0, t118, decide (t118 ≤ 12))) else (some (1, a0.extract 0 (t118 : Int).toNat, 0, 0, t118, decide (t118 ≤ 12)))) = some (r1, r2, r3, r4, r5, r6) := H
   have A6 := Aside0.mk A60
   clear A60
   by_cases c7 : t123 = true
   ·subst c7
    have H1 : (some (3, a0.extract 0 (t118 : Int).toNat, 0, 0, t118, decide (t118 ≤ 12))) = some (r1, r2, r3, r4, r5, r6) := by rw [if_pos rfl] at H; exact H
    clear H
    have H := H1
    clear H1
    simp only [Option.some.injEq, Prod.mk.injEq] at H
    obtain ⟨rfl, rfl, rfl, rfl, rfl, rfl⟩ := H
    go_enter Tryz.func161, Tryz.ntmps161
    try go_wp2_with (first | ((with_reducible refine gate_dst (N := 2) rfl ?_); refine box_event ?hg (N := 2) ?hd (cs := #[.int .i64 0, .string (⟨#[]⟩ : ByteArray), .int .i64 0, .int .i64 0]) (t := 155) ?hr ?_; (case hd => rfl); (case hg => rfl); (case hr => first | (go_simp; done) | (go_simp; rfl)); intro gb117 hg w8 hbox hb; have n0_ := Aside0.mk (below_step (by repeat (first | (with_reducible first | exact HB.out | apply below_alloc | apply pw_below_drewN | apply below_drew1) | exact HB.out)) hb); have n1_ := Aside0.mk (hbox); have n2_ := Aside0.mk ((by rw [hg]; exact (below_size (by repeat (first | (with_reducible first | exact HB.out | apply below_alloc | apply pw_below_drewN | apply below_drew1) | exact HB.out))) : w.heap.size ≤ gb117)); have n3_ := Aside0.mk ((by rw [hg]; exact (below_size (by repeat (first | (with_reducible first | exact HB.out | apply below_alloc | apply pw_below_drewN | apply below_drew1) | exact HB.out))) : w.heap.size ≤ gb117)); clear HB; have HB := n0_; have BK117 := n1_; have GW117 := n2_; have GE117 := n3_; clear n0_ n1_ n2_ n3_; clear hb hbox hg) | ((with_reducible refine gate_callee (f := 158) rfl ?_); refine goesL_ (some 8) rfl rfl Tryz.func158 (by kernel_rfl) rfl #[.string a0, .func (.func 179) #[] #[]] rfl (by (try simp only [List.map_toArray, List.map_cons, List.map_nil]); first | done | rfl | (simp only [List.length_drop, List.length_take]; rfl)) ?_; (with_reducible refine (lex_runMore.calls a0 t118 _ A2.out).mono ?_); rintro e w' ⟨rfl, ⟨nd, rfl⟩⟩; refine ⟨_, rfl, ?_⟩; (try (rw [drewN_self w8]; generalize hq_ : World.drewN w8 _ = w8; have n0_ : Aside0 (w8.heap[gb117]? = some (.cells #[.int .i64 0, .string (⟨#[]⟩ : ByteArray), .int .i64 0, .int .i64 0] 155 (0, 0))) := ⟨by rw [← hq_]; exact (by (with_reducible repeat (first | refine blk_drewN ?_ _ | refine blk_drew ?_ | refine blk_alloc ?_ _)); exact BK117.out)⟩; have n1_ : Aside0 (Below w.heap.size w w8) := ⟨by rw [← hq_]; exact (by repeat (first | (with_reducible first | exact HB.out | apply below_alloc | apply pw_below_drewN | apply below_drew1 | refine below_set ?_ GE117.out) | exact HB.out))⟩; clear BK117 HB hq_; have BK117 := n0_; have HB := n1_; clear n0_ n1_))) | ((with_reducible refine gate_dst (N := 6) rfl ?_); refine box_event ?hg (N := 6) ?hd (cs := #[.int .i64 0, .string (⟨#[]⟩ : ByteArray), .int .i64 0, .int .i64 0]) (t := 155) ?hr ?_; (case hd => rfl); (case hg => rfl); (case hr => first | (go_simp; done) | (go_simp; rfl)); intro gb119 hg w9 hbox hb; have n0_ := Aside0.mk (blk_below (g := gb117) (o := .cells #[.int .i64 0, .string (⟨#[]⟩ : ByteArray), .int .i64 0, .int .i64 0] 155 (0, 0)) (by (with_reducible repeat (first | refine blk_drewN ?_ _ | refine blk_drew ?_ | refine blk_alloc ?_ _)); exact BK117.out) hb); have n1_ := Aside0.mk (below_step (by repeat (first | (with_reducible first | exact HB.out | apply below_alloc | apply pw_below_drewN | apply below_drew1 | refine below_set ?_ GE117.out) | exact HB.out)) hb); have n2_ := Aside0.mk (hbox); have n3_ := Aside0.mk ((by rw [hg]; exact (below_size (by repeat (first | (with_reducible first | exact HB.out | apply below_alloc | apply pw_below_drewN | apply below_drew1 | refine below_set ?_ GE117.out) | exact HB.out))) : w.heap.size ≤ gb119)); have n4_ := Aside0.mk ((by rw [hg]; exact (below_size (by repeat (first | (with_reducible first | exact HB.out | apply below_alloc | apply pw_below_drewN | apply below_drew1 | refine below_set ?_ GE117.out) | exact HB.out))) : w.heap.size ≤ gb119)); have n5_ := Aside0.mk ((by rw [hg]; exact Nat.ne_of_lt (blk_lt (g := gb117) (o := .cells #[.int .i64 0, .string (⟨#[]⟩ : ByteArray), .int .i64 0, .int .i64 0] 155 (0, 0)) (by (with_reducible repeat (first | refine blk_drewN ?_ _ | refine blk_drew ?_ | refine blk_alloc ?_ _)); exact BK117.out)) : gb117 ≠ gb119)); have n6_ := Aside0.mk ((by rw [hg]; exact Nat.ne_of_gt (blk_lt (g := gb117) (o := .cells #[.int .i64 0, .string (⟨#[]⟩ : ByteArray), .int .i64 0, .int .i64 0] 155 (0, 0)) (by (with_reducible repeat (first | refine blk_drewN ?_ _ | refine blk_drew ?_ | refine blk_alloc ?_ _)); exact BK117.out)) : gb119 ≠ gb117)); clear BK117; clear HB; have BK117 := n0_; have HB := n1_; have BK119 := n2_; have GW119 := n3_; have GE119 := n4_; have NB117_119 := n5_; have NB119_117 := n6_; clear n0_ n1_ n2_ n3_ n4_ n5_ n6_; clear hb hbox hg; have hnb10 := NB119_117.out; have hnc10 := NB117_119.out; have hcz11_0 : w9.cell? ⟨gb119, 0, none⟩ = some (.int .i64 0) := (blk_cell BK119.out 0).trans rfl; have hcz11_1 : w9.cell? ⟨gb119, 1, none⟩ = some (.string (⟨#[]⟩ : ByteArray)) := (blk_cell BK119.out 1).trans rfl; have hcz11_2 : w9.cell? ⟨gb119, 2, none⟩ = some (.int .i64 0) := (blk_cell BK119.out 2).trans rfl; have hcz11_3 : w9.cell? ⟨gb119, 3, none⟩ = some (.int .i64 0) := (blk_cell BK119.out 3).trans rfl; have hfz11_0 := blk_frozen BK119.out 0; have hfz11_1 := blk_frozen BK119.out 1; have hfz11_2 := blk_frozen BK119.out 2; have hfz11_3 := blk_frozen BK119.out 3))
    have n0_ : Aside0 (((((w9.setCell ⟨gb119, 0, none⟩ (.int .i64 1)).setCell ⟨gb119, 1, none⟩ (.string (a0.extract 0 (t118 : Int).toNat))).setCell ⟨gb119, 2, none⟩ (.int .i64 0)).setCell ⟨gb119, 3, none⟩ (.int .i64 0)).heap[gb117]? = some (.cells #[.int .i64 0, .string (⟨#[]⟩ : ByteArray), .int .i64 0, .int .i64 0] 155 (0, 0))) := ⟨by (with_reducible repeat (first | refine blk_drewN ?_ _ | refine blk_drew ?_ | refine blk_alloc ?_ _)); refine blk_far ?_ NB117_119.out _; (with_reducible repeat (first | refine blk_drewN ?_ _ | refine blk_drew ?_ | refine blk_alloc ?_ _)); refine blk_far ?_ NB117_119.out _; (with_reducible repeat (first | refine blk_drewN ?_ _ | refine blk_drew ?_ | refine blk_alloc ?_ _)); refine blk_far ?_ NB117_119.out _; (with_reducible repeat (first | refine blk_drewN ?_ _ | refine blk_drew ?_ | refine blk_alloc ?_ _)); refine blk_far ?_ NB117_119.out _; (with_reducible repeat (first | refine blk_drewN ?_ _ | refine blk_drew ?_ | refine blk_alloc ?_ _)); exact BK117.out⟩
    have n1_ : Aside0 (((((w9.setCell ⟨gb119, 0, none⟩ (.int .i64 1)).setCell ⟨gb119, 1, none⟩ (.string (a0.extract 0 (t118 : Int).toNat))).setCell ⟨gb119, 2, none⟩ (.int .i64 0)).setCell ⟨gb119, 3, none⟩ (.int .i64 0)).heap[gb119]? = some (.cells #[.int .i64 1, .string (a0.extract 0 (t118 : Int).toNat), .int .i64 0, .int .i64 0] 155 (0, 0))) := ⟨by (with_reducible repeat (first | refine blk_drewN ?_ _ | refine blk_drew ?_ | refine blk_alloc ?_ _)); refine blk_put (cs := #[.int .i64 1, .string (a0.extract 0 (t118 : Int).toNat), .int .i64 0, .int .i64 0]) ?_ 3 _ rfl; (with_reducible repeat (first | refine blk_drewN ?_ _ | refine blk_drew ?_ | refine blk_alloc ?_ _)); refine blk_put (cs := #[.int .i64 1, .string (a0.extract 0 (t118 : Int).toNat), .int .i64 0, .int .i64 0]) ?_ 2 _ rfl; (with_reducible repeat (first | refine blk_drewN ?_ _ | refine blk_drew ?_ | refine blk_alloc ?_ _)); refine blk_put (cs := #[.int .i64 1, .string (⟨#[]⟩ : ByteArray), .int .i64 0, .int .i64 0]) ?_ 1 _ rfl; (with_reducible repeat (first | refine blk_drewN ?_ _ | refine blk_drew ?_ | refine blk_alloc ?_ _)); refine blk_put (cs := #[.int .i64 0, .string (⟨#[]⟩ : ByteArray), .int .i64 0, .int .i64 0]) ?_ 0 _ rfl; (with_reducible repeat (first | refine blk_drewN ?_ _ | refine blk_drew ?_ | refine blk_alloc ?_ _)); exact BK119.out⟩
    have n2_ : Aside0 (Below w.heap.size w ((((w9.setCell ⟨gb119, 0, none⟩ (.int .i64 1)).setCell ⟨gb119, 1, none⟩ (.string (a0.extract 0 (t118 : Int).toNat))).setCell ⟨gb119, 2, none⟩ (.int .i64 0)).setCell ⟨gb119, 3, none⟩ (.int .i64 0))) := ⟨by repeat (first | (with_reducible first | exact HB.out | apply below_alloc | apply pw_below_drewN | apply below_drew1 | refine below_set ?_ GE117.out | refine below_set ?_ GE119.out) | exact HB.out)⟩
    (try clear BK117)
    (try clear BK119)
    (try clear HB)
    generalize ((((w9.setCell ⟨gb119, 0, none⟩ (.int .i64 1)).setCell ⟨gb119, 1, none⟩ (.string (a0.extract 0 (t118 : Int).toNat))).setCell ⟨gb119, 2, none⟩ (.int .i64 0)).setCell ⟨gb119, 3, none⟩ (.int .i64 0)) = w12 at n0_ n1_ n2_ ⊢
    have BK117 := n0_
    have BK119 := n1_
    have HB := n2_
    clear n0_ n1_ n2_
    have n0_ := Aside0.mk (blk_drew BK117.out)
    have n1_ := Aside0.mk (blk_drew BK119.out)
    have n2_ := Aside0.mk (below_drew1 HB.out)
    clear BK117
    clear BK119
    clear HB
    have BK117 := n0_
    have BK119 := n1_
    have HB := n2_
    clear n0_ n1_ n2_
    refine start_ (n := 4) (S := fun w' => w'.cell? ⟨gb119, 0, none⟩ = some (.int .i64 1) ∧ w'.cell? ⟨gb119, 1, none⟩ = some (.string (a0.extract 0 (t118 : Int).toNat)) ∧ w'.cell? ⟨gb119, 2, none⟩ = some (.int .i64 0) ∧ w'.cell? ⟨gb119, 3, none⟩ = some (.int .i64 0)) (ds := []) #[false, false, false, false] (by kernel_rfl) rfl rfl ⟨(blk_cell BK119.out 0).trans rfl, (blk_cell BK119.out 1).trans rfl, (blk_cell BK119.out 2).trans rfl, (blk_cell BK119.out 3).trans rfl⟩ (fun hHeld => ?_)
    generalize w12.drew = w13 at BK117 BK119 HB hHeld ⊢
    refine pure_ (i := 1) (N := some 14) (v := ?_) (a' := ?_) #[false, true, false, false] rfl rfl (by kernel_rfl) (fun _ _ _ h => h) (Or.inl ⟨by rfl, ?_⟩) ?_ ?_
    rotate_left
    ·intro w'
     go_simp
     with_reducible rfl
    rotate_left
    ·simp only [Act.put, List.setIfInBounds_toArray, List.set_cons_zero, List.set_cons_succ, i64_w, i32_w]
     rfl
    refine take_ (i := 2) (N := some 15) (v := ?_) (a' := ?_) #[false, true, true, false] rfl rfl (by kernel_rfl) (fun _ _ _ h => h) (Or.inl ⟨by rfl, ?_⟩) hHeld ?_ ?_
    rotate_left
    ·rintro w' ⟨s0, s1, s2, s3⟩
     go_simp
     with_reducible rfl
    rotate_left
    ·simp only [Act.put, List.setIfInBounds_toArray, List.set_cons_zero, List.set_cons_succ, i64_w, i32_w]
     rfl
    refine one_ (i := 0) (N := some 13) #[true, true, true, false] rfl rfl (by kernel_rfl) (by decide) (fun K hK => ?_)
    refine goes_ Tryz.func181 (by kernel_rfl) rfl #[] (by rfl) rfl rfl (by (try simp only [List.map_toArray, List.map_cons, List.map_nil]); first | done | rfl | (simp only [List.length_drop, List.length_take]; rfl)) ?_
    with_reducible refine (lex_Words.calls (hT := ?sideT)  t120 _ A5.out).mono ?_
    (case sideT => first | with_reducible exact HT.out | refine TabW.below HT.out ?_; repeat (first | (with_reducible first | exact HB.out | apply below_alloc | apply pw_below_drewN | apply below_drew1 | refine below_set ?_ GE117.out | refine below_set ?_ GE119.out) | exact HB.out | exact Below.refl _ _))
    rintro e w14 ⟨v121, rfl, ho0, hb⟩
    refine ⟨_, rfl, ?_⟩
    have n0_ := Aside0.mk (Kd.R_lower ho0 (below_size (by repeat (first | (with_reducible first | exact HB.out | apply below_alloc | apply pw_below_drewN | apply below_drew1 | refine below_set ?_ GE117.out | refine below_set ?_ GE119.out) | exact HB.out))))
    have n1_ := Aside0.mk (blk_below (g := gb117) (o := .cells #[.int .i64 0, .string (⟨#[]⟩ : ByteArray), .int .i64 0, .int .i64 0] 155 (0, 0)) (by (with_reducible repeat (first | refine blk_drewN ?_ _ | refine blk_drew ?_ | refine blk_alloc ?_ _)); exact BK117.out) hb)
    have n2_ := Aside0.mk (blk_below (g := gb119) (o := .cells #[.int .i64 1, .string (a0.extract 0 (t118 : Int).toNat), .int .i64 0, .int .i64 0] 155 (0, 0)) (by (with_reducible repeat (first | refine blk_drewN ?_ _ | refine blk_drew ?_ | refine blk_alloc ?_ _)); exact BK119.out) hb)
    have n3_ := Aside0.mk (below_step (by repeat (first | (with_reducible first | exact HB.out | apply below_alloc | apply pw_below_drewN | apply below_drew1 | refine below_set ?_ GE117.out | refine below_set ?_ GE119.out) | exact HB.out)) hb)
    clear BK117
    clear BK119
    clear HB
    have HO122 := n0_
    have BK117 := n1_
    have BK119 := n2_
    have HB := n3_
    clear n0_ n1_ n2_ n3_
    (try clear hb)
    (try clear hb2)
    (try clear hk)
    (try clear hi)
    (try clear ho0)
    obtain ⟨Ao15, co15, eo15⟩ := Kd.R_slice HO122.out
    (first | subst eo15 | (injection eo15 with f1_ f2_ f3_; have f4_ := f1_.symm; have f5_ := f3_.symm; clear f1_ f2_ f3_; subst f4_; subst f5_))
    refine hK.out _ _ ⟨(blk_cell BK119.out 0).trans rfl, (blk_cell BK119.out 1).trans rfl, (blk_cell BK119.out 2).trans rfl, (blk_cell BK119.out 3).trans rfl⟩ (fun hHeld => ?_)
    clear hK K
    refine norm_ (a' := ?_) ?_ ?_
    rotate_left
    ·show Act.put _ (some 13) _ = _
     simp only [Act.put, List.setIfInBounds_toArray, List.set_cons_zero, List.set_cons_succ, i64_w, i32_w]
     rfl
    refine one_ (i := 3) (N := some 16) #[true, true, true, true] rfl rfl (by kernel_rfl) (by decide) (fun K hK => ?_)
    refine goes_ Tryz.func180 (by kernel_rfl) rfl #[.slice Ao15 t120.length co15, .string (a0.extract 0 (t118 : Int).toNat)] (by rfl) rfl rfl (by (try simp only [List.map_toArray, List.map_cons, List.map_nil]); first | done | rfl | (simp only [List.length_drop, List.length_take]; rfl)) ?_
    with_reducible refine (slices_Contains_string_string.calls k _ _ t120 (a0.extract 0 (t118 : Int).toNat) true _ ?side1 ?side2 A6.out).mono ?_
    (case side1 => repeat (first | exact (Kd.R_reads' HO122.out).2.2 | (with_reducible refine Kd.C_alloc ?_ _) | (with_reducible refine Kd.C_drewN ?_ _) | (with_reducible refine Kd.C_drew ?_)))
    (case side2 => exact (Kd.R_reads' HO122.out).2.1)
    rintro e w' ⟨rfl, ⟨nd, rfl⟩⟩
    refine ⟨_, rfl, ?_⟩
    refine hK.out _ _ ⟨(blk_cell BK119.out 0).trans rfl, (blk_cell BK119.out 1).trans rfl, (blk_cell BK119.out 2).trans rfl, (blk_cell BK119.out 3).trans rfl⟩ (fun hHeld => ?_)
    clear hK K
    refine norm_ (a' := ?_) ?_ ?_
    rotate_left
    ·show Act.put _ (some 16) _ = _
     simp only [Act.put, List.setIfInBounds_toArray, List.set_cons_zero, List.set_cons_succ, i64_w, i32_w]
     rfl
    refine done_ (by kernel_rfl) ?_
    have hcz16_0 : w14.cell? ⟨gb119, 0, none⟩ = some (.int .i64 1) := (blk_cell BK119.out 0).trans rfl
    have hcz16_1 : w14.cell? ⟨gb119, 1, none⟩ = some (.string (a0.extract 0 (t118 : Int).toNat)) := (blk_cell BK119.out 1).trans rfl
    have hcz16_2 : w14.cell? ⟨gb119, 2, none⟩ = some (.int .i64 0) := (blk_cell BK119.out 2).trans rfl
    have hcz16_3 : w14.cell? ⟨gb119, 3, none⟩ = some (.int .i64 0) := (blk_cell BK119.out 3).trans rfl
    have hfz16_0 := blk_frozen BK119.out 0
    have hfz16_1 := blk_frozen BK119.out 1
    have hfz16_2 := blk_frozen BK119.out 2
    have hfz16_3 := blk_frozen BK119.out 3
    have hcz17_0 : w14.cell? ⟨gb117, 0, none⟩ = some (.int .i64 0) := (blk_cell BK117.out 0).trans rfl
    have hcz17_1 : w14.cell? ⟨gb117, 1, none⟩ = some (.string (⟨#[]⟩ : ByteArray)) := (blk_cell BK117.out 1).trans rfl
    have hcz17_2 : w14.cell? ⟨gb117, 2, none⟩ = some (.int .i64 0) := (blk_cell BK117.out 2).trans rfl
    have hcz17_3 : w14.cell? ⟨gb117, 3, none⟩ = some (.int .i64 0) := (blk_cell BK117.out 3).trans rfl
    have hfz17_0 := blk_frozen BK117.out 0
    have hfz17_1 := blk_frozen BK117.out 1
    have hfz17_2 := blk_frozen BK117.out 2
    have hfz17_3 := blk_frozen BK117.out 3
    try go_wp2
    refine bodyPost_ret (results_ctt rfl _ _ gb117 155 #[.int .i64 3, .string (a0.extract 0 (t118 : Int).toNat), .int .i64 0, .int .i64 0] (0, 0) _ rfl (by (with_reducible repeat (first | refine blk_drewN ?_ _ | refine blk_drew ?_ | refine blk_alloc ?_ _)); refine blk_put (cs := #[.int .i64 3, .string (a0.extract 0 (t118 : Int).toNat), .int .i64 0, .int .i64 0]) ?_ 3 _ rfl; (with_reducible repeat (first | refine blk_drewN ?_ _ | refine blk_drew ?_ | refine blk_alloc ?_ _)); refine blk_put (cs := #[.int .i64 3, .string (a0.extract 0 (t118 : Int).toNat), .int .i64 0, .int .i64 0]) ?_ 2 _ rfl; (with_reducible repeat (first | refine blk_drewN ?_ _ | refine blk_drew ?_ | refine blk_alloc ?_ _)); refine blk_put (cs := #[.int .i64 3, .string (⟨#[]⟩ : ByteArray), .int .i64 0, .int .i64 0]) ?_ 1 _ rfl; (with_reducible repeat (first | refine blk_drewN ?_ _ | refine blk_drew ?_ | refine blk_alloc ?_ _)); refine blk_put (cs := #[.int .i64 0, .string (⟨#[]⟩ : ByteArray), .int .i64 0, .int .i64 0]) ?_ 0 _ rfl; (with_reducible repeat (first | refine blk_drewN ?_ _ | refine blk_drew ?_ | refine blk_alloc ?_ _)); refine blk_far ?_ NB117_119.out _; (with_reducible repeat (first | refine blk_drewN ?_ _ | refine blk_drew ?_ | refine blk_alloc ?_ _)); exact BK117.out) Tryz.underlying155 rfl (by kernel_rfl)) rfl ?_
    exact ⟨by first | rfl | (simp [errW_none, errW_some] <;> rfl) | (simp [*, errW_none, errW_some] <;> rfl), by repeat (first | (with_reducible first | exact HB.out | apply below_alloc | apply pw_below_drewN | apply below_drew1 | refine below_set ?_ GE117.out | refine below_set ?_ GE119.out) | exact HB.out)⟩
   ·replace c7 := Bool.eq_false_iff.mpr c7
    subst c7
    have H1 : (some (1, a0.extract 0 (t118 : Int).toNat, 0, 0, t118, decide (t118 ≤ 12))) = some (r1, r2, r3, r4, r5, r6) := by rw [if_neg (show ¬ (false = true) by decide)] at H; exact H
    clear H
    have H := H1
    clear H1
    simp only [Option.some.injEq, Prod.mk.injEq] at H
    obtain ⟨rfl, rfl, rfl, rfl, rfl, rfl⟩ := H
    go_enter Tryz.func161, Tryz.ntmps161
    try go_wp2_with (first | ((with_reducible refine gate_dst (N := 2) rfl ?_); refine box_event ?hg (N := 2) ?hd (cs := #[.int .i64 0, .string (⟨#[]⟩ : ByteArray), .int .i64 0, .int .i64 0]) (t := 155) ?hr ?_; (case hd => rfl); (case hg => rfl); (case hr => first | (go_simp; done) | (go_simp; rfl)); intro gb117 hg w18 hbox hb; have n0_ := Aside0.mk (below_step (by repeat (first | (with_reducible first | exact HB.out | apply below_alloc | apply pw_below_drewN | apply below_drew1) | exact HB.out)) hb); have n1_ := Aside0.mk (hbox); have n2_ := Aside0.mk ((by rw [hg]; exact (below_size (by repeat (first | (with_reducible first | exact HB.out | apply below_alloc | apply pw_below_drewN | apply below_drew1) | exact HB.out))) : w.heap.size ≤ gb117)); have n3_ := Aside0.mk ((by rw [hg]; exact (below_size (by repeat (first | (with_reducible first | exact HB.out | apply below_alloc | apply pw_below_drewN | apply below_drew1) | exact HB.out))) : w.heap.size ≤ gb117)); clear HB; have HB := n0_; have BK117 := n1_; have GW117 := n2_; have GE117 := n3_; clear n0_ n1_ n2_ n3_; clear hb hbox hg) | ((with_reducible refine gate_callee (f := 158) rfl ?_); refine goesL_ (some 8) rfl rfl Tryz.func158 (by kernel_rfl) rfl #[.string a0, .func (.func 179) #[] #[]] rfl (by (try simp only [List.map_toArray, List.map_cons, List.map_nil]); first | done | rfl | (simp only [List.length_drop, List.length_take]; rfl)) ?_; (with_reducible refine (lex_runMore.calls a0 t118 _ A2.out).mono ?_); rintro e w' ⟨rfl, ⟨nd, rfl⟩⟩; refine ⟨_, rfl, ?_⟩; (try (rw [drewN_self w18]; generalize hq_ : World.drewN w18 _ = w18; have n0_ : Aside0 (w18.heap[gb117]? = some (.cells #[.int .i64 0, .string (⟨#[]⟩ : ByteArray), .int .i64 0, .int .i64 0] 155 (0, 0))) := ⟨by rw [← hq_]; exact (by (with_reducible repeat (first | refine blk_drewN ?_ _ | refine blk_drew ?_ | refine blk_alloc ?_ _)); exact BK117.out)⟩; have n1_ : Aside0 (Below w.heap.size w w18) := ⟨by rw [← hq_]; exact (by repeat (first | (with_reducible first | exact HB.out | apply below_alloc | apply pw_below_drewN | apply below_drew1 | refine below_set ?_ GE117.out) | exact HB.out))⟩; clear BK117 HB hq_; have BK117 := n0_; have HB := n1_; clear n0_ n1_))) | ((with_reducible refine gate_dst (N := 6) rfl ?_); refine box_event ?hg (N := 6) ?hd (cs := #[.int .i64 0, .string (⟨#[]⟩ : ByteArray), .int .i64 0, .int .i64 0]) (t := 155) ?hr ?_; (case hd => rfl); (case hg => rfl); (case hr => first | (go_simp; done) | (go_simp; rfl)); intro gb119 hg w19 hbox hb; have n0_ := Aside0.mk (blk_below (g := gb117) (o := .cells #[.int .i64 0, .string (⟨#[]⟩ : ByteArray), .int .i64 0, .int .i64 0] 155 (0, 0)) (by (with_reducible repeat (first | refine blk_drewN ?_ _ | refine blk_drew ?_ | refine blk_alloc ?_ _)); exact BK117.out) hb); have n1_ := Aside0.mk (below_step (by repeat (first | (with_reducible first | exact HB.out | apply below_alloc | apply pw_below_drewN | apply below_drew1 | refine below_set ?_ GE117.out) | exact HB.out)) hb); have n2_ := Aside0.mk (hbox); have n3_ := Aside0.mk ((by rw [hg]; exact (below_size (by repeat (first | (with_reducible first | exact HB.out | apply below_alloc | apply pw_below_drewN | apply below_drew1 | refine below_set ?_ GE117.out) | exact HB.out))) : w.heap.size ≤ gb119)); have n4_ := Aside0.mk ((by rw [hg]; exact (below_size (by repeat (first | (with_reducible first | exact HB.out | apply below_alloc | apply pw_below_drewN | apply below_drew1 | refine below_set ?_ GE117.out) | exact HB.out))) : w.heap.size ≤ gb119)); have n5_ := Aside0.mk ((by rw [hg]; exact Nat.ne_of_lt (blk_lt (g := gb117) (o := .cells #[.int .i64 0, .string (⟨#[]⟩ : ByteArray), .int .i64 0, .int .i64 0] 155 (0, 0)) (by (with_reducible repeat (first | refine blk_drewN ?_ _ | refine blk_drew ?_ | refine blk_alloc ?_ _)); exact BK117.out)) : gb117 ≠ gb119)); have n6_ := Aside0.mk ((by rw [hg]; exact Nat.ne_of_gt (blk_lt (g := gb117) (o := .cells #[.int .i64 0, .string (⟨#[]⟩ : ByteArray), .int .i64 0, .int .i64 0] 155 (0, 0)) (by (with_reducible repeat (first | refine blk_drewN ?_ _ | refine blk_drew ?_ | refine blk_alloc ?_ _)); exact BK117.out)) : gb119 ≠ gb117)); clear BK117; clear HB; have BK117 := n0_; have HB := n1_; have BK119 := n2_; have GW119 := n3_; have GE119 := n4_; have NB117_119 := n5_; have NB119_117 := n6_; clear n0_ n1_ n2_ n3_ n4_ n5_ n6_; clear hb hbox hg; have hnb20 := NB119_117.out; have hnc20 := NB117_119.out; have hcz21_0 : w19.cell? ⟨gb119, 0, none⟩ = some (.int .i64 0) := (blk_cell BK119.out 0).trans rfl; have hcz21_1 : w19.cell? ⟨gb119, 1, none⟩ = some (.string (⟨#[]⟩ : ByteArray)) := (blk_cell BK119.out 1).trans rfl; have hcz21_2 : w19.cell? ⟨gb119, 2, none⟩ = some (.int .i64 0) := (blk_cell BK119.out 2).trans rfl; have hcz21_3 : w19.cell? ⟨gb119, 3, none⟩ = some (.int .i64 0) := (blk_cell BK119.out 3).trans rfl; have hfz21_0 := blk_frozen BK119.out 0; have hfz21_1 := blk_frozen BK119.out 1; have hfz21_2 := blk_frozen BK119.out 2; have hfz21_3 := blk_frozen BK119.out 3))
    have n0_ : Aside0 (((((w19.setCell ⟨gb119, 0, none⟩ (.int .i64 1)).setCell ⟨gb119, 1, none⟩ (.string (a0.extract 0 (t118 : Int).toNat))).setCell ⟨gb119, 2, none⟩ (.int .i64 0)).setCell ⟨gb119, 3, none⟩ (.int .i64 0)).heap[gb117]? = some (.cells #[.int .i64 0, .string (⟨#[]⟩ : ByteArray), .int .i64 0, .int .i64 0] 155 (0, 0))) := ⟨by (with_reducible repeat (first | refine blk_drewN ?_ _ | refine blk_drew ?_ | refine blk_alloc ?_ _)); refine blk_far ?_ NB117_119.out _; (with_reducible repeat (first | refine blk_drewN ?_ _ | refine blk_drew ?_ | refine blk_alloc ?_ _)); refine blk_far ?_ NB117_119.out _; (with_reducible repeat (first | refine blk_drewN ?_ _ | refine blk_drew ?_ | refine blk_alloc ?_ _)); refine blk_far ?_ NB117_119.out _; (with_reducible repeat (first | refine blk_drewN ?_ _ | refine blk_drew ?_ | refine blk_alloc ?_ _)); refine blk_far ?_ NB117_119.out _; (with_reducible repeat (first | refine blk_drewN ?_ _ | refine blk_drew ?_ | refine blk_alloc ?_ _)); exact BK117.out⟩
    have n1_ : Aside0 (((((w19.setCell ⟨gb119, 0, none⟩ (.int .i64 1)).setCell ⟨gb119, 1, none⟩ (.string (a0.extract 0 (t118 : Int).toNat))).setCell ⟨gb119, 2, none⟩ (.int .i64 0)).setCell ⟨gb119, 3, none⟩ (.int .i64 0)).heap[gb119]? = some (.cells #[.int .i64 1, .string (a0.extract 0 (t118 : Int).toNat), .int .i64 0, .int .i64 0] 155 (0, 0))) := ⟨by (with_reducible repeat (first | refine blk_drewN ?_ _ | refine blk_drew ?_ | refine blk_alloc ?_ _)); refine blk_put (cs := #[.int .i64 1, .string (a0.extract 0 (t118 : Int).toNat), .int .i64 0, .int .i64 0]) ?_ 3 _ rfl; (with_reducible repeat (first | refine blk_drewN ?_ _ | refine blk_drew ?_ | refine blk_alloc ?_ _)); refine blk_put (cs := #[.int .i64 1, .string (a0.extract 0 (t118 : Int).toNat), .int .i64 0, .int .i64 0]) ?_ 2 _ rfl; (with_reducible repeat (first | refine blk_drewN ?_ _ | refine blk_drew ?_ | refine blk_alloc ?_ _)); refine blk_put (cs := #[.int .i64 1, .string (⟨#[]⟩ : ByteArray), .int .i64 0, .int .i64 0]) ?_ 1 _ rfl; (with_reducible repeat (first | refine blk_drewN ?_ _ | refine blk_drew ?_ | refine blk_alloc ?_ _)); refine blk_put (cs := #[.int .i64 0, .string (⟨#[]⟩ : ByteArray), .int .i64 0, .int .i64 0]) ?_ 0 _ rfl; (with_reducible repeat (first | refine blk_drewN ?_ _ | refine blk_drew ?_ | refine blk_alloc ?_ _)); exact BK119.out⟩
    have n2_ : Aside0 (Below w.heap.size w ((((w19.setCell ⟨gb119, 0, none⟩ (.int .i64 1)).setCell ⟨gb119, 1, none⟩ (.string (a0.extract 0 (t118 : Int).toNat))).setCell ⟨gb119, 2, none⟩ (.int .i64 0)).setCell ⟨gb119, 3, none⟩ (.int .i64 0))) := ⟨by repeat (first | (with_reducible first | exact HB.out | apply below_alloc | apply pw_below_drewN | apply below_drew1 | refine below_set ?_ GE117.out | refine below_set ?_ GE119.out) | exact HB.out)⟩
    (try clear BK117)
    (try clear BK119)
    (try clear HB)
    generalize ((((w19.setCell ⟨gb119, 0, none⟩ (.int .i64 1)).setCell ⟨gb119, 1, none⟩ (.string (a0.extract 0 (t118 : Int).toNat))).setCell ⟨gb119, 2, none⟩ (.int .i64 0)).setCell ⟨gb119, 3, none⟩ (.int .i64 0)) = w22 at n0_ n1_ n2_ ⊢
    have BK117 := n0_
    have BK119 := n1_
    have HB := n2_
    clear n0_ n1_ n2_
    have n0_ := Aside0.mk (blk_drew BK117.out)
    have n1_ := Aside0.mk (blk_drew BK119.out)
    have n2_ := Aside0.mk (below_drew1 HB.out)
    clear BK117
    clear BK119
    clear HB
    have BK117 := n0_
    have BK119 := n1_
    have HB := n2_
    clear n0_ n1_ n2_
    refine start_ (n := 4) (S := fun w' => w'.cell? ⟨gb119, 0, none⟩ = some (.int .i64 1) ∧ w'.cell? ⟨gb119, 1, none⟩ = some (.string (a0.extract 0 (t118 : Int).toNat)) ∧ w'.cell? ⟨gb119, 2, none⟩ = some (.int .i64 0) ∧ w'.cell? ⟨gb119, 3, none⟩ = some (.int .i64 0)) (ds := []) #[false, false, false, false] (by kernel_rfl) rfl rfl ⟨(blk_cell BK119.out 0).trans rfl, (blk_cell BK119.out 1).trans rfl, (blk_cell BK119.out 2).trans rfl, (blk_cell BK119.out 3).trans rfl⟩ (fun hHeld => ?_)
    generalize w22.drew = w23 at BK117 BK119 HB hHeld ⊢
    refine pure_ (i := 1) (N := some 14) (v := ?_) (a' := ?_) #[false, true, false, false] rfl rfl (by kernel_rfl) (fun _ _ _ h => h) (Or.inl ⟨by rfl, ?_⟩) ?_ ?_
    rotate_left
    ·intro w'
     go_simp
     with_reducible rfl
    rotate_left
    ·simp only [Act.put, List.setIfInBounds_toArray, List.set_cons_zero, List.set_cons_succ, i64_w, i32_w]
     rfl
    refine take_ (i := 2) (N := some 15) (v := ?_) (a' := ?_) #[false, true, true, false] rfl rfl (by kernel_rfl) (fun _ _ _ h => h) (Or.inl ⟨by rfl, ?_⟩) hHeld ?_ ?_
    rotate_left
    ·rintro w' ⟨s0, s1, s2, s3⟩
     go_simp
     with_reducible rfl
    rotate_left
    ·simp only [Act.put, List.setIfInBounds_toArray, List.set_cons_zero, List.set_cons_succ, i64_w, i32_w]
     rfl
    refine one_ (i := 0) (N := some 13) #[true, true, true, false] rfl rfl (by kernel_rfl) (by decide) (fun K hK => ?_)
    refine goes_ Tryz.func181 (by kernel_rfl) rfl #[] (by rfl) rfl rfl (by (try simp only [List.map_toArray, List.map_cons, List.map_nil]); first | done | rfl | (simp only [List.length_drop, List.length_take]; rfl)) ?_
    with_reducible refine (lex_Words.calls (hT := ?sideT)  t120 _ A5.out).mono ?_
    (case sideT => first | with_reducible exact HT.out | refine TabW.below HT.out ?_; repeat (first | (with_reducible first | exact HB.out | apply below_alloc | apply pw_below_drewN | apply below_drew1 | refine below_set ?_ GE117.out | refine below_set ?_ GE119.out) | exact HB.out | exact Below.refl _ _))
    rintro e w24 ⟨v121, rfl, ho0, hb⟩
    refine ⟨_, rfl, ?_⟩
    have n0_ := Aside0.mk (Kd.R_lower ho0 (below_size (by repeat (first | (with_reducible first | exact HB.out | apply below_alloc | apply pw_below_drewN | apply below_drew1 | refine below_set ?_ GE117.out | refine below_set ?_ GE119.out) | exact HB.out))))
    have n1_ := Aside0.mk (blk_below (g := gb117) (o := .cells #[.int .i64 0, .string (⟨#[]⟩ : ByteArray), .int .i64 0, .int .i64 0] 155 (0, 0)) (by (with_reducible repeat (first | refine blk_drewN ?_ _ | refine blk_drew ?_ | refine blk_alloc ?_ _)); exact BK117.out) hb)
    have n2_ := Aside0.mk (blk_below (g := gb119) (o := .cells #[.int .i64 1, .string (a0.extract 0 (t118 : Int).toNat), .int .i64 0, .int .i64 0] 155 (0, 0)) (by (with_reducible repeat (first | refine blk_drewN ?_ _ | refine blk_drew ?_ | refine blk_alloc ?_ _)); exact BK119.out) hb)
    have n3_ := Aside0.mk (below_step (by repeat (first | (with_reducible first | exact HB.out | apply below_alloc | apply pw_below_drewN | apply below_drew1 | refine below_set ?_ GE117.out | refine below_set ?_ GE119.out) | exact HB.out)) hb)
    clear BK117
    clear BK119
    clear HB
    have HO122 := n0_
    have BK117 := n1_
    have BK119 := n2_
    have HB := n3_
    clear n0_ n1_ n2_ n3_
    (try clear hb)
    (try clear hb2)
    (try clear hk)
    (try clear hi)
    (try clear ho0)
    obtain ⟨Ao25, co25, eo25⟩ := Kd.R_slice HO122.out
    (first | subst eo25 | (injection eo25 with f1_ f2_ f3_; have f4_ := f1_.symm; have f5_ := f3_.symm; clear f1_ f2_ f3_; subst f4_; subst f5_))
    refine hK.out _ _ ⟨(blk_cell BK119.out 0).trans rfl, (blk_cell BK119.out 1).trans rfl, (blk_cell BK119.out 2).trans rfl, (blk_cell BK119.out 3).trans rfl⟩ (fun hHeld => ?_)
    clear hK K
    refine norm_ (a' := ?_) ?_ ?_
    rotate_left
    ·show Act.put _ (some 13) _ = _
     simp only [Act.put, List.setIfInBounds_toArray, List.set_cons_zero, List.set_cons_succ, i64_w, i32_w]
     rfl
    refine one_ (i := 3) (N := some 16) #[true, true, true, true] rfl rfl (by kernel_rfl) (by decide) (fun K hK => ?_)
    refine goes_ Tryz.func180 (by kernel_rfl) rfl #[.slice Ao25 t120.length co25, .string (a0.extract 0 (t118 : Int).toNat)] (by rfl) rfl rfl (by (try simp only [List.map_toArray, List.map_cons, List.map_nil]); first | done | rfl | (simp only [List.length_drop, List.length_take]; rfl)) ?_
    with_reducible refine (slices_Contains_string_string.calls k _ _ t120 (a0.extract 0 (t118 : Int).toNat) false _ ?side1 ?side2 A6.out).mono ?_
    (case side1 => repeat (first | exact (Kd.R_reads' HO122.out).2.2 | (with_reducible refine Kd.C_alloc ?_ _) | (with_reducible refine Kd.C_drewN ?_ _) | (with_reducible refine Kd.C_drew ?_)))
    (case side2 => exact (Kd.R_reads' HO122.out).2.1)
    rintro e w' ⟨rfl, ⟨nd, rfl⟩⟩
    refine ⟨_, rfl, ?_⟩
    refine hK.out _ _ ⟨(blk_cell BK119.out 0).trans rfl, (blk_cell BK119.out 1).trans rfl, (blk_cell BK119.out 2).trans rfl, (blk_cell BK119.out 3).trans rfl⟩ (fun hHeld => ?_)
    clear hK K
    refine norm_ (a' := ?_) ?_ ?_
    rotate_left
    ·show Act.put _ (some 16) _ = _
     simp only [Act.put, List.setIfInBounds_toArray, List.set_cons_zero, List.set_cons_succ, i64_w, i32_w]
     rfl
    refine done_ (by kernel_rfl) ?_
    have hcz26_0 : w24.cell? ⟨gb119, 0, none⟩ = some (.int .i64 1) := (blk_cell BK119.out 0).trans rfl
    have hcz26_1 : w24.cell? ⟨gb119, 1, none⟩ = some (.string (a0.extract 0 (t118 : Int).toNat)) := (blk_cell BK119.out 1).trans rfl
    have hcz26_2 : w24.cell? ⟨gb119, 2, none⟩ = some (.int .i64 0) := (blk_cell BK119.out 2).trans rfl
    have hcz26_3 : w24.cell? ⟨gb119, 3, none⟩ = some (.int .i64 0) := (blk_cell BK119.out 3).trans rfl
    have hfz26_0 := blk_frozen BK119.out 0
    have hfz26_1 := blk_frozen BK119.out 1
    have hfz26_2 := blk_frozen BK119.out 2
    have hfz26_3 := blk_frozen BK119.out 3
    have hcz27_0 : w24.cell? ⟨gb117, 0, none⟩ = some (.int .i64 0) := (blk_cell BK117.out 0).trans rfl
    have hcz27_1 : w24.cell? ⟨gb117, 1, none⟩ = some (.string (⟨#[]⟩ : ByteArray)) := (blk_cell BK117.out 1).trans rfl
    have hcz27_2 : w24.cell? ⟨gb117, 2, none⟩ = some (.int .i64 0) := (blk_cell BK117.out 2).trans rfl
    have hcz27_3 : w24.cell? ⟨gb117, 3, none⟩ = some (.int .i64 0) := (blk_cell BK117.out 3).trans rfl
    have hfz27_0 := blk_frozen BK117.out 0
    have hfz27_1 := blk_frozen BK117.out 1
    have hfz27_2 := blk_frozen BK117.out 2
    have hfz27_3 := blk_frozen BK117.out 3
    try go_wp2
    refine bodyPost_ret (results_ctt rfl _ _ gb117 155 #[.int .i64 1, .string (a0.extract 0 (t118 : Int).toNat), .int .i64 0, .int .i64 0] (0, 0) _ rfl (by (with_reducible repeat (first | refine blk_drewN ?_ _ | refine blk_drew ?_ | refine blk_alloc ?_ _)); refine blk_put (cs := #[.int .i64 1, .string (a0.extract 0 (t118 : Int).toNat), .int .i64 0, .int .i64 0]) ?_ 3 _ rfl; (with_reducible repeat (first | refine blk_drewN ?_ _ | refine blk_drew ?_ | refine blk_alloc ?_ _)); refine blk_put (cs := #[.int .i64 1, .string (a0.extract 0 (t118 : Int).toNat), .int .i64 0, .int .i64 0]) ?_ 2 _ rfl; (with_reducible repeat (first | refine blk_drewN ?_ _ | refine blk_drew ?_ | refine blk_alloc ?_ _)); refine blk_put (cs := #[.int .i64 1, .string (⟨#[]⟩ : ByteArray), .int .i64 0, .int .i64 0]) ?_ 1 _ rfl; (with_reducible repeat (first | refine blk_drewN ?_ _ | refine blk_drew ?_ | refine blk_alloc ?_ _)); refine blk_put (cs := #[.int .i64 0, .string (⟨#[]⟩ : ByteArray), .int .i64 0, .int .i64 0]) ?_ 0 _ rfl; (with_reducible repeat (first | refine blk_drewN ?_ _ | refine blk_drew ?_ | refine blk_alloc ?_ _)); exact BK117.out) Tryz.underlying155 rfl (by kernel_rfl)) rfl ?_
    exact ⟨by first | rfl | (simp [errW_none, errW_some] <;> rfl) | (simp [*, errW_none, errW_some] <;> rfl), by repeat (first | (with_reducible first | exact HB.out | apply below_alloc | apply pw_below_drewN | apply below_drew1 | refine below_set ?_ GE117.out | refine below_set ?_ GE119.out) | exact HB.out)⟩
  ·rw [if_neg c4] at H
   exact absurd H (by simp)
 ·rw [if_neg c3] at H
  exact absurd H (by simp)
def stringslite_HasPrefix.f (a0 : ByteArray) (a1 : ByteArray) : Option (Bool) := if (a0.size : Int) ≥ (a1.size : Int) then (if 0 ≤ (a1.size : Int) then (if (a1.size : Int) ≤ (a0.size : Int) then (some ((a0.extract 0 ((a1.size : Int) : Int).toNat).toList == a1.toList)) else (none)) else (none)) else (some false)
set_option maxHeartbeats 8000000 in
set_option maxRecDepth 100000 in
theorem stringslite_HasPrefix.calls (a0 : ByteArray) (a1 : ByteArray) (r : Bool) (w : World) (h : stringslite_HasPrefix.f a0 a1 = some r) :
  Calls Tryz.prog 182 #[.string a0, .string a1] w fun e w' => e = .returned (.bool r) ∧ Drawn0 w w' := by
 have H : (if (a0.size : Int) ≥ (a1.size : Int) then (if 0 ≤ (a1.size : Int) then (if (a1.size : Int) ≤ (a0.size : Int) then (some ((a0.extract 0 ((a1.size : Int) : Int).toNat).toList == a1.toList)) else (none)) else (none)) else (some false)) = some r := h
 clear h
 by_cases c3 : (a0.size : Int) ≥ (a1.size : Int)
 ·rw [if_pos c3] at H
  have c3b0 : decide ((a1.size : Int) ≤ (a0.size : Int)) = true := decide_eq_true c3
  have c3b1 : decide (a1.size ≤ a0.size) = true := decide_eq_true (Int.ofNat_le.mp c3)
  clear c3
  by_cases c4 : 0 ≤ (a1.size : Int)
  ·rw [if_pos c4] at H
   have c4b0 := eq_true c4
   have c4b1 : decide (0 ≤ (a1.size : Int)) = true := decide_eq_true c4
   clear c4
   by_cases c5 : (a1.size : Int) ≤ (a0.size : Int)
   ·rw [if_pos c5] at H
    have c5b0 := eq_true c5
    have c5b1 : decide ((a1.size : Int) ≤ (a0.size : Int)) = true := decide_eq_true c5
    clear c5
    obtain rfl := Option.some.inj H
    go_enter Tryz.func182, Tryz.ntmps182
    go_wp2
    go_ret
    exact ⟨by first | rfl | (simp; done) | (simp [*]; done), by repeat (first | exact Drawn0.refl _ | apply Drawn0.step)⟩
   ·rw [if_neg c5] at H
    exact absurd H (by simp)
  ·rw [if_neg c4] at H
   exact absurd H (by simp)
 ·rw [if_neg c3] at H
  have c3b0 : decide ((a1.size : Int) ≤ (a0.size : Int)) = false := decide_eq_false c3
  have c3b1 : decide (a1.size ≤ a0.size) = false := decide_eq_false (fun h => c3 (Int.ofNat_le.mpr h))
  clear c3
  obtain rfl := Option.some.inj H
  go_enter Tryz.func182, Tryz.ntmps182
  go_wp2
  go_ret
  exact ⟨by first | rfl | (simp; done) | (simp [*]; done), by repeat (first | exact Drawn0.refl _ | apply Drawn0.step)⟩
def strings_HasPrefix.f (a0 : ByteArray) (a1 : ByteArray) : Option (Bool) := (stringslite_HasPrefix.f a0 a1).bind fun t124 => (some t124)
set_option maxHeartbeats 8000000 in
set_option maxRecDepth 100000 in
theorem strings_HasPrefix.calls (a0 : ByteArray) (a1 : ByteArray) (r : Bool) (w : World) (h : strings_HasPrefix.f a0 a1 = some r) :
  Calls Tryz.prog 164 #[.string a0, .string a1] w fun e w' => e = .returned (.bool r) ∧ Drawn0 w w' := by
 have H : ((stringslite_HasPrefix.f a0 a1).bind fun t124 => (some t124)) = some r := h
 clear h
 replace H := Option.bind_eq_some_iff.mp H
 obtain ⟨t124, A30, H⟩ := H
 replace H : (some t124) = some r := H
 have A3 := Aside0.mk A30
 clear A30
 obtain rfl := Option.some.inj H
 go_enter Tryz.func164, Tryz.ntmps164
 go_wp2_with (first | ((with_reducible refine gate_callee (f := 182) rfl ?_); refine goesL_ (some 7) rfl rfl Tryz.func182 (by kernel_rfl) rfl #[.string a0, .string a1] rfl (by (try simp only [List.map_toArray, List.map_cons, List.map_nil]); first | done | rfl | (simp only [List.length_drop, List.length_take]; rfl)) ?_; (with_reducible refine (stringslite_HasPrefix.calls a0 a1 t124 _ A3.out).mono ?_); rintro e w' ⟨rfl, ⟨nd, rfl⟩⟩; refine ⟨_, rfl, ?_⟩))
 go_ret
 exact ⟨by first | rfl | (simp; done) | (simp [*]; done), by repeat (first | exact Drawn0.refl _ | apply Drawn0.step)⟩
end Go.Proofs.YtaofmmnfenlofaaGreatDoor.QTc

/- What is proved: contracts and plain facts on the way to the row RowTraceReads, and, in the last text, the row itself; conditions as each theorem names them. -/
import Derived.Lib.Builder
import Derived.OneCell
import Derived.Lib.ItoaLen
import Derived.Lib.SplitLaws
import Derived.Lib.IndexBytes
import Derived.ChangeArms
import Derived.Deep.Slices
import Derived.DataReads
import Derived.WideShapes
import Derived.KernelRfl
import Derived.Test.YtkdndgclldlddaaDoorRows
import Derived.LaidMore
import Derived.MakeChecks
import Derived.Lib.LaidTab
import Derived.ProofKit
import Derived.Shelf.Vars
import Derived.Handed
import Derived.Lay
import Derived.WalkKit
import Derived.OpenShut
import Derived.ShutString
import Derived.ChangeOld
import Derived.Below
import Derived.SizedLaws
import Derived.Test.YtkdndgclldlddaaDoorTie
import Derived.Test.YtkdndgclldlddaaDoorCards
import Derived.SevenTiedAt
import Derived.Stop.Joined
import Derived.Test.YtkdndgclldlddaaDoorSkTrReads1
import Derived.Test.YtkdndgclldlddaaDoorSkTrReads2
import Derived.Test.YtkdndgclldlddaaDoorSkTrReads3
namespace Go.Proofs.YtkdndgclldlddaaDoor.QTr
open Go.RowKit Go.Proofs.YtkdndgclldlddaaDoorW.PrintWords Go.Proofs.YtkdndgclldlddaaDoorW.PrintLast Go.Proofs.YtkdndgclldlddaaDoorW.PrintMore
attribute [local go_sem] max2_int min2_int max_two min_two max_three min_three max_four min_four
set_option linter.unusedVariables false
set_option linter.unusedSimpArgs false
def taskmasterref26_Read.l0 : Nat → ByteArray → List (S44) → Int → Int → Option ((List (S44)) × Bool)
 | 0, _, _, _, _ => none
 | k + 1, x0, x4, x5, x6 => if x6 < (x0.size : Int) then (if 0 ≤ x6 then (if (bt x0 x6) = 10 then (if 0 ≤ x5 then (if x5 ≤ x6 then (if x6 ≤ (x0.size : Int) then ((taskmasterref26_line.f k (x0.extract (x5 : Int).toNat (x6 : Int).toNat)).bind fun bt239 => (if bt239.2.2.2.2 = true then (if x4.length < 4398046511104 then (taskmasterref26_Read.l0 k x0 (x4 ++ [(⟨bt239.1, bt239.2.1, bt239.2.2.1, bt239.2.2.2.1⟩ : S44)]) (wrap64 (x6 + 1)) (wrap64 (x6 + 1))) else (none)) else (some (([] : List (S44)), false)))) else (none)) else (none)) else (none)) else (taskmasterref26_Read.l0 k x0 x4 x5 (wrap64 (x6 + 1)))) else (none)) else ((taskmasterref26_Text.f k x4).bind fun bt237 => (if bt237.2 = true then (if bt237.1.toList = x0.toList then (some (x4, true)) else (some (([] : List (S44)), false))) else (some (([] : List (S44)), false))))
def taskmasterref26_Read.f (k : Nat) (a0 : ByteArray) : Option ((List (S44)) × Bool) := taskmasterref26_Read.l0 k a0 ([] : List (S44)) 0 0
set_option maxHeartbeats 8000000 in
set_option maxRecDepth 100000 in
theorem taskmasterref26_Read.calls (k : Nat) (a0 : ByteArray) (r1 : List (S44)) (r2 : Bool) (w : World) (h : taskmasterref26_Read.f k a0 = some (r1, r2)) :
  Calls Tryd.prog 20 #[.string a0] w fun e w' => ∃ v0_ : Value, e = .returned (.tuple #[v0_, .bool r2]) ∧ Kd.R k44 44 w' w.heap.size (fun _ => True) v0_ r1 ∧ Below w.heap.size w w' := by
 have hu44 := Tryd.underlying44
 have HB := Aside0.mk (Below.refl w.heap.size w)
 have H : (taskmasterref26_Read.l0 k a0 ([] : List (S44)) 0 0) = some (r1, r2) := h
 clear h
 have H' := Aside0.mk H
 clear H
 go_enter Tryd.func20, Tryd.ntmps20
 go_wp2
 go_loopg [4, 5, 6] k (fun kq v4 v5 v6 w' => ∃ (x4_1 : List (S44)) (x5_1 : Int) (x6_1 : Int), v5 = .int .i64 x5_1 ∧ v6 = .int .i64 x6_1 ∧ Aside0 (taskmasterref26_Read.l0 kq a0 x4_1 x5_1 x6_1 = some (r1, r2)) ∧ Aside0 (kq ≤ k) ∧ Aside0 (Kd.R k44 44 w' w.heap.size (fun _ => True) v4 x4_1) ∧ Aside0 (Below w.heap.size w w'))
 case atStart => exact ⟨(([] : List (S44))), (0), (0), (by first | rfl | (simp; done) | (simp [*]; done)), (by first | rfl | (simp; done) | (simp [*]; done)), H', ⟨Nat.le_refl _⟩, ⟨by first | exact Kd.R_nil _ _ _ _ _ | exact Kd.N_nil _ _ _ _ _ | exact Kd.V_nil _ _ _ _ _ | exact Kd.Q_nil _ _ _ _ _ | exact Kd.S_nil _ _ _ _ _⟩, ⟨by repeat (first | (with_reducible first | exact HB.out | apply below_alloc | apply pw_below_drewN | apply below_drew1) | exact HB.out)⟩⟩
 case round =>
  clear H'
  obtain ⟨x4_1, x5_1, x6_1, rfl, rfl, HA, HK1, HO_4, HB⟩ := hrel
  cases gk with
  | zero => exact absurd HA.out (by simp [taskmasterref26_Read.l0])
  | succ k1 =>
   have H := HA.out
   clear HA
   simp only [taskmasterref26_Read.l0] at H
   by_cases c2 : x6_1 < (a0.size : Int)
   ·rw [if_pos c2] at H
    have c2b0 : decide (x6_1 < (a0.size : Int)) = true := decide_eq_true c2
    clear c2
    by_cases c3 : 0 ≤ x6_1
    ·rw [if_pos c3] at H
     have c3b0 : decide (0 ≤ x6_1) = true := decide_eq_true c3
     clear c3
     by_cases c5 : (bt a0 x6_1) = 10
     ·rw [if_pos c5] at H
      have c5b0 : ((bt a0 x6_1) == 10) = true := beq_iff_eq.mpr c5
      have c5b1 : ((bt a0 x6_1) != 10) = false := bne_eq_false_iff_eq.mpr c5
      clear c5
      by_cases c6 : 0 ≤ x5_1
      ·rw [if_pos c6] at H
       have c6b0 := eq_true c6
       have c6b1 : decide (0 ≤ x5_1) = true := decide_eq_true c6
       clear c6
       by_cases c7 : x5_1 ≤ x6_1
       ·rw [if_pos c7] at H
        have c7b0 := eq_true c7
        have c7b1 : decide (x5_1 ≤ x6_1) = true := decide_eq_true c7
        clear c7
        by_cases c8 : x6_1 ≤ (a0.size : Int)
        ·rw [if_pos c8] at H
         have c8b0 := eq_true c8
         have c8b1 : decide (x6_1 ≤ (a0.size : Int)) = true := decide_eq_true c8
         clear c8
         replace H := Option.bind_eq_some_iff.mp H
         obtain ⟨⟨t239, t240, t241, t242, t243⟩, A90, H⟩ := H
         replace H : (if t243 = true then (if x4_1.length < 4398046511104 then (taskmasterref26_Read.l0 k1 a0 (x4_1 ++ [(⟨t239, t240, t241, t242⟩ : S44)]) (wrap64 (x6_1 + 1)) (wrap64 (x6_1 + 1))) else (none)) else (some (([] : List (S44)), false))) = some (r1, r2) := H
         have A9 := Aside0.mk A90
         clear A90
         by_cases c10 : t243 = true
         ·subst c10
          have H1 : (if x4_1.length < 4398046511104 then (taskmasterref26_Read.l0 k1 a0 (x4_1 ++ [(⟨t239, t240, t241, t242⟩ : S44)]) (wrap64 (x6_1 + 1)) (wrap64 (x6_1 + 1))) else (none)) = some (r1, r2) := by rw [if_pos rfl] at H; exact H
          clear H
          have H := H1
          clear H1
          by_cases c11 : x4_1.length < 4398046511104
          ·rw [if_pos c11] at H
           have LMc11 := Aside0.mk c11
           clear c11
           obtain ⟨y245, hy245⟩ : ∃ y_ : List (S44), y_ = (x4_1 ++ [(⟨t239, t240, t241, t242⟩ : S44)]) := ⟨_, rfl⟩
           replace H : (taskmasterref26_Read.l0 k1 a0 y245 (wrap64 (x6_1 + 1)) (wrap64 (x6_1 + 1))) = some (r1, r2) := by first | (rw [hy245]; with_reducible exact H) | (have H2_ := (Option.bind_some _ _).symm.trans H; rw [hy245]; with_reducible exact H2_) | (have H2_ := (Option.bind_some _ _).symm.trans H; with_reducible exact H2_) | with_reducible exact H | (rw [hy245]; exact H) | exact H
           have Ny245 := Aside0.mk hy245
           clear hy245
           have H' := Aside0.mk H
           clear H
           have p4 : 0 ≤ (x6_1 : Int) := of_decide_eq_true (by first | (with_reducible assumption) | assumption)
           have q4 : x6_1 < (a0.size : Int) := of_decide_eq_true (by first | (with_reducible assumption) | assumption)
           have hx4 := bt_at a0 x6_1
           replace p4 := eq_true p4
           replace q4 := eq_true q4
           go_wp2_with (first | ((with_reducible refine gate_callee (f := 41) rfl ?_); refine goesL_ (some 26) rfl rfl Tryd.func41 (by kernel_rfl) rfl #[.string (a0.extract (x5_1 : Int).toNat (x6_1 : Int).toNat)] rfl (by (try simp only [List.map_toArray, List.map_cons, List.map_nil]); first | done | rfl | (simp only [List.length_drop, List.length_take]; rfl)) ?_; (with_reducible refine (taskmasterref26_line.calls k1 (a0.extract (x5_1 : Int).toNat (x6_1 : Int).toNat) t239 t240 t241 t242 true _ A9.out).mono ?_); rintro e w12 ⟨rfl, hb⟩; refine ⟨_, rfl, ?_⟩; have n0_ := Aside0.mk (Kd.R_below (by (with_reducible repeat (first | apply Kd.R_alloc | apply Kd.R_drewN | apply Kd.R_drew)); exact HO_4.out) hb); have n1_ := Aside0.mk (below_step (by repeat (first | (with_reducible first | exact HB.out | apply below_alloc | apply pw_below_drewN | apply below_drew1) | exact HB.out)) hb); clear HO_4; clear HB; have HO_4 := n0_; have HB := n1_; clear n0_ n1_; (try clear hb); (try clear hb2); (try clear hk); (try clear hi)) | ((with_reducible refine gate_dst (N := 7) rfl ?_); refine box_event ?hg (N := 7) ?hd (cs := #[.int .i64 0, .int .i64 0, .int .i64 0, .int .i64 0]) (t := 44) ?hr ?_; (case hd => rfl); (case hg => rfl); (case hr => first | (go_simp; done) | (go_simp; rfl)); intro gb244 hg w13 hbox hb; have n0_ := Aside0.mk (Kd.R_below (Kd.R_elderB (by (with_reducible repeat (first | apply Kd.R_alloc | apply Kd.R_drewN | apply Kd.R_drew)); exact HO_4.out) gb244 (Nat.le_of_eq hg.symm)) hb); have n1_ := Aside0.mk (below_step (by repeat (first | (with_reducible first | exact HB.out | apply below_alloc | apply pw_below_drewN | apply below_drew1) | exact HB.out)) hb); have n2_ := Aside0.mk (hbox); have n3_ := Aside0.mk ((by rw [hg]; exact (below_size (by repeat (first | (with_reducible first | exact HB.out | apply below_alloc | apply pw_below_drewN | apply below_drew1) | exact HB.out))) : w.heap.size ≤ gb244)); have n4_ := Aside0.mk ((by rw [hg]; exact (below_size (by repeat (first | (with_reducible first | exact HB.out | apply below_alloc | apply pw_below_drewN | apply below_drew1) | exact HB.out))) : w.heap.size ≤ gb244)); clear HO_4; clear HB; have HO_4 := n0_; have HB := n1_; have BK244 := n2_; have GW244 := n3_; have GE244 := n4_; clear n0_ n1_ n2_ n3_ n4_; clear hb hbox hg; have hcz14_0 : w13.cell? ⟨gb244, 0, none⟩ = some (.int .i64 0) := (blk_cell BK244.out 0).trans rfl; have hcz14_1 : w13.cell? ⟨gb244, 1, none⟩ = some (.int .i64 0) := (blk_cell BK244.out 1).trans rfl; have hcz14_2 : w13.cell? ⟨gb244, 2, none⟩ = some (.int .i64 0) := (blk_cell BK244.out 2).trans rfl; have hcz14_3 : w13.cell? ⟨gb244, 3, none⟩ = some (.int .i64 0) := (blk_cell BK244.out 3).trans rfl; have hfz14_0 := blk_frozen BK244.out 0; have hfz14_1 := blk_frozen BK244.out 1; have hfz14_2 := blk_frozen BK244.out 2; have hfz14_3 := blk_frozen BK244.out 3) | ((with_reducible refine gate_builtin (b := .append) (xs := #[.tmp 31, .tmp 33]) rfl ?_); at_builtin; refine Kd.R_append k44 (w0 := w) w.heap.size rfl (.tmp 31) (.tmp 33) 37 44 (.agg #[(.int .i64 0), (.int .i64 0), (.int .i64 0), (.int .i64 0)]) 32 rfl Tryd.underlying37 info44 rfl (by decide) (by omega) u4 x4_1 (⟨t239, t240, t241, t242⟩ : S44) [.int .i64 t239, .int .i64 t240, .int .i64 t241, .int .i64 t242] (fun k_ => k_ ≠ gb244) (fun _ => False) rfl (by first | (go_simp; done) | (go_simp; rfl)) ?aP (fun _ hk => hk.elim) ?aF ?aO ?aB ?aS ?aL ?_; (case aP => exact k44_mkM _ _ _ (⟨t239, t240, t241, t242⟩ : S44)); (case aB => exact (by repeat (first | (with_reducible first | exact HB.out | apply below_alloc | apply pw_below_drewN | apply below_drew1 | refine below_set ?_ GE244.out) | exact HB.out))); (case aF => exact (fun k_ hk => Kd.freshB (g := gb244) (o := .cells #[.int .i64 t239, .int .i64 t240, .int .i64 t241, .int .i64 t242] 44 (0, 0)) (by (with_reducible repeat (first | refine blk_drewN ?_ _ | refine blk_drew ?_ | refine blk_alloc ?_ _)); refine blk_put (cs := #[.int .i64 t239, .int .i64 t240, .int .i64 t241, .int .i64 0]) ?_ 3 _ rfl; (with_reducible repeat (first | refine blk_drewN ?_ _ | refine blk_drew ?_ | refine blk_alloc ?_ _)); refine blk_put (cs := #[.int .i64 t239, .int .i64 t240, .int .i64 0, .int .i64 0]) ?_ 2 _ rfl; (with_reducible repeat (first | refine blk_drewN ?_ _ | refine blk_drew ?_ | refine blk_alloc ?_ _)); refine blk_put (cs := #[.int .i64 t239, .int .i64 0, .int .i64 0, .int .i64 0]) ?_ 1 _ rfl; (with_reducible repeat (first | refine blk_drewN ?_ _ | refine blk_drew ?_ | refine blk_alloc ?_ _)); refine blk_put (cs := #[.int .i64 0, .int .i64 0, .int .i64 0, .int .i64 0]) ?_ 0 _ rfl; (with_reducible repeat (first | refine blk_drewN ?_ _ | refine blk_drew ?_ | refine blk_alloc ?_ _)); exact BK244.out) k_ hk)); (case aO => exact (by (with_reducible repeat (first | apply Kd.R_alloc | apply Kd.R_drewN | apply Kd.R_drew)); exact Kd.R_mono (Kd.R_far (p := ⟨gb244, 3, none⟩) (Kd.R_far (p := ⟨gb244, 2, none⟩) (Kd.R_far (p := ⟨gb244, 1, none⟩) (Kd.R_far (p := ⟨gb244, 0, none⟩) (Kd.R_mono HO_4.out (fun k_ hk => (⟨hk, hk.2⟩ : _ ∧ k_ ≠ gb244))) (fun _ hk => hk.2) (.int .i64 t239)) (fun _ hk => hk.2) (.int .i64 t240)) (fun _ hk => hk.2) (.int .i64 t241)) (fun _ hk => hk.2) (.int .i64 t242)) (fun _ hk => hk.1.2))); (case aS => exact (below_size (by repeat (first | (with_reducible first | exact HB.out | apply below_alloc | apply pw_below_drewN | apply below_drew1 | refine below_set ?_ GE244.out) | exact HB.out)))); (case aL => have := LMc11.out; omega); intro v246 w15 ho hb hg hat; rw [← Ny245.out] at ho; have n0_ := Aside0.mk (blk_grown (g := gb244) (o := .cells #[.int .i64 t239, .int .i64 t240, .int .i64 t241, .int .i64 t242] 44 (0, 0)) (by (with_reducible repeat (first | refine blk_drewN ?_ _ | refine blk_drew ?_ | refine blk_alloc ?_ _)); refine blk_put (cs := #[.int .i64 t239, .int .i64 t240, .int .i64 t241, .int .i64 0]) ?_ 3 _ rfl; (with_reducible repeat (first | refine blk_drewN ?_ _ | refine blk_drew ?_ | refine blk_alloc ?_ _)); refine blk_put (cs := #[.int .i64 t239, .int .i64 t240, .int .i64 0, .int .i64 0]) ?_ 2 _ rfl; (with_reducible repeat (first | refine blk_drewN ?_ _ | refine blk_drew ?_ | refine blk_alloc ?_ _)); refine blk_put (cs := #[.int .i64 t239, .int .i64 0, .int .i64 0, .int .i64 0]) ?_ 1 _ rfl; (with_reducible repeat (first | refine blk_drewN ?_ _ | refine blk_drew ?_ | refine blk_alloc ?_ _)); refine blk_put (cs := #[.int .i64 0, .int .i64 0, .int .i64 0, .int .i64 0]) ?_ 0 _ rfl; (with_reducible repeat (first | refine blk_drewN ?_ _ | refine blk_drew ?_ | refine blk_alloc ?_ _)); exact BK244.out) hg (Kd.R_away HO_4.out (fun _ hk => hk.2))); have n1_ := Aside0.mk (hb); have n2_ := Aside0.mk (ho); clear BK244; clear HB; clear HO_4; have BK244 := n0_; have HB := n1_; have HO247 := n2_; clear n0_ n1_ n2_; clear ho hb hg hat))
           go_roundg k1
           case measure => have := HK1.out; omega
           case rel => exact ⟨(y245), (wrap64 (x6_1 + 1)), (wrap64 (x6_1 + 1)), (by first | rfl | (simp; done) | (simp [*]; done)), (by first | rfl | (simp; done) | (simp [*]; done)), H', ⟨by have := HK1.out; omega⟩, ⟨by (with_reducible repeat (first | apply Kd.R_alloc | apply Kd.R_drewN | apply Kd.R_drew)); exact Kd.R_mono HO247.out (fun _ hk => trivial)⟩, ⟨by repeat (first | (with_reducible first | exact HB.out | apply below_alloc | apply pw_below_drewN | apply below_drew1 | refine below_set ?_ GE244.out) | exact HB.out)⟩⟩
          ·rw [if_neg c11] at H
           exact absurd H (by simp)
         ·replace c10 := Bool.eq_false_iff.mpr c10
          subst c10
          have H1 : (some (([] : List (S44)), false)) = some (r1, r2) := by rw [if_neg (show ¬ (false = true) by decide)] at H; exact H
          clear H
          have H := H1
          clear H1
          simp only [Option.some.injEq, Prod.mk.injEq] at H
          obtain ⟨rfl, rfl⟩ := H
          have p4 : 0 ≤ (x6_1 : Int) := of_decide_eq_true (by first | (with_reducible assumption) | assumption)
          have q4 : x6_1 < (a0.size : Int) := of_decide_eq_true (by first | (with_reducible assumption) | assumption)
          have hx4 := bt_at a0 x6_1
          replace p4 := eq_true p4
          replace q4 := eq_true q4
          go_wp2_with (first | ((with_reducible refine gate_callee (f := 41) rfl ?_); refine goesL_ (some 26) rfl rfl Tryd.func41 (by kernel_rfl) rfl #[.string (a0.extract (x5_1 : Int).toNat (x6_1 : Int).toNat)] rfl (by (try simp only [List.map_toArray, List.map_cons, List.map_nil]); first | done | rfl | (simp only [List.length_drop, List.length_take]; rfl)) ?_; (with_reducible refine (taskmasterref26_line.calls k1 (a0.extract (x5_1 : Int).toNat (x6_1 : Int).toNat) t239 t240 t241 t242 false _ A9.out).mono ?_); rintro e w16 ⟨rfl, hb⟩; refine ⟨_, rfl, ?_⟩; have n0_ := Aside0.mk (Kd.R_below (by (with_reducible repeat (first | apply Kd.R_alloc | apply Kd.R_drewN | apply Kd.R_drew)); exact HO_4.out) hb); have n1_ := Aside0.mk (below_step (by repeat (first | (with_reducible first | exact HB.out | apply below_alloc | apply pw_below_drewN | apply below_drew1) | exact HB.out)) hb); clear HO_4; clear HB; have HO_4 := n0_; have HB := n1_; clear n0_ n1_; (try clear hb); (try clear hb2); (try clear hk); (try clear hi)) | ((with_reducible refine gate_dst (N := 7) rfl ?_); refine box_event ?hg (N := 7) ?hd (cs := #[.int .i64 0, .int .i64 0, .int .i64 0, .int .i64 0]) (t := 44) ?hr ?_; (case hd => rfl); (case hg => rfl); (case hr => first | (go_simp; done) | (go_simp; rfl)); intro gb244 hg w17 hbox hb; have n0_ := Aside0.mk (Kd.R_below (Kd.R_elderB (by (with_reducible repeat (first | apply Kd.R_alloc | apply Kd.R_drewN | apply Kd.R_drew)); exact HO_4.out) gb244 (Nat.le_of_eq hg.symm)) hb); have n1_ := Aside0.mk (below_step (by repeat (first | (with_reducible first | exact HB.out | apply below_alloc | apply pw_below_drewN | apply below_drew1) | exact HB.out)) hb); have n2_ := Aside0.mk (hbox); have n3_ := Aside0.mk ((by rw [hg]; exact (below_size (by repeat (first | (with_reducible first | exact HB.out | apply below_alloc | apply pw_below_drewN | apply below_drew1) | exact HB.out))) : w.heap.size ≤ gb244)); have n4_ := Aside0.mk ((by rw [hg]; exact (below_size (by repeat (first | (with_reducible first | exact HB.out | apply below_alloc | apply pw_below_drewN | apply below_drew1) | exact HB.out))) : w.heap.size ≤ gb244)); clear HO_4; clear HB; have HO_4 := n0_; have HB := n1_; have BK244 := n2_; have GW244 := n3_; have GE244 := n4_; clear n0_ n1_ n2_ n3_ n4_; clear hb hbox hg; have hcz18_0 : w17.cell? ⟨gb244, 0, none⟩ = some (.int .i64 0) := (blk_cell BK244.out 0).trans rfl; have hcz18_1 : w17.cell? ⟨gb244, 1, none⟩ = some (.int .i64 0) := (blk_cell BK244.out 1).trans rfl; have hcz18_2 : w17.cell? ⟨gb244, 2, none⟩ = some (.int .i64 0) := (blk_cell BK244.out 2).trans rfl; have hcz18_3 : w17.cell? ⟨gb244, 3, none⟩ = some (.int .i64 0) := (blk_cell BK244.out 3).trans rfl; have hfz18_0 := blk_frozen BK244.out 0; have hfz18_1 := blk_frozen BK244.out 1; have hfz18_2 := blk_frozen BK244.out 2; have hfz18_3 := blk_frozen BK244.out 3))
          go_ret2
          exact ⟨_, by first | rfl | (simp [errW_none, errW_some] <;> rfl) | (simp [*, errW_none, errW_some] <;> rfl), by first | exact Kd.R_nil _ _ _ _ _ | exact Kd.N_nil _ _ _ _ _ | exact Kd.V_nil _ _ _ _ _ | exact Kd.Q_nil _ _ _ _ _ | exact Kd.S_nil _ _ _ _ _, by repeat (first | (with_reducible first | exact HB.out | apply below_alloc | apply pw_below_drewN | apply below_drew1 | refine below_set ?_ GE244.out) | exact HB.out)⟩
        ·rw [if_neg c8] at H
         exact absurd H (by simp)
       ·rw [if_neg c7] at H
        exact absurd H (by simp)
      ·rw [if_neg c6] at H
       exact absurd H (by simp)
     ·rw [if_neg c5] at H
      have c5b0 : ((bt a0 x6_1) == 10) = false := beq_eq_false_iff_ne.mpr c5
      have c5b1 : ((bt a0 x6_1) != 10) = true := bne_iff_ne.mpr c5
      have H' := Aside0.mk H
      clear H
      have p4 : 0 ≤ (x6_1 : Int) := of_decide_eq_true (by first | (with_reducible assumption) | assumption)
      have q4 : x6_1 < (a0.size : Int) := of_decide_eq_true (by first | (with_reducible assumption) | assumption)
      have hx4 := bt_at a0 x6_1
      replace p4 := eq_true p4
      replace q4 := eq_true q4
      go_wp2
      go_roundg k1
      case measure => have := HK1.out; omega
      case rel => exact ⟨(x4_1), (x5_1), (wrap64 (x6_1 + 1)), (by first | rfl | (simp; done) | (simp [*]; done)), (by first | rfl | (simp; done) | (simp [*]; done)), H', ⟨by have := HK1.out; omega⟩, ⟨by (with_reducible repeat (first | apply Kd.R_alloc | apply Kd.R_drewN | apply Kd.R_drew)); exact HO_4.out⟩, ⟨by repeat (first | (with_reducible first | exact HB.out | apply below_alloc | apply pw_below_drewN | apply below_drew1) | exact HB.out)⟩⟩
    ·rw [if_neg c3] at H
     exact absurd H (by simp)
   ·rw [if_neg c2] at H
    have c2b0 : decide (x6_1 < (a0.size : Int)) = false := decide_eq_false c2
    clear c2
    replace H := Option.bind_eq_some_iff.mp H
    obtain ⟨⟨t237, t238⟩, A190, H⟩ := H
    replace H : (if t238 = true then (if t237.toList = a0.toList then (some (x4_1, true)) else (some (([] : List (S44)), false))) else (some (([] : List (S44)), false))) = some (r1, r2) := H
    have A19 := Aside0.mk A190
    clear A190
    by_cases c20 : t238 = true
    ·subst c20
     have H1 : (if t237.toList = a0.toList then (some (x4_1, true)) else (some (([] : List (S44)), false))) = some (r1, r2) := by rw [if_pos rfl] at H; exact H
     clear H
     have H := H1
     clear H1
     by_cases c21 : t237.toList = a0.toList
     ·rw [if_pos c21] at H
      have c21b0 : (t237.toList == a0.toList) = true := beq_iff_eq.mpr c21
      have c21b1 : (t237.toList != a0.toList) = false := bne_eq_false_iff_eq.mpr c21
      clear c21
      simp only [Option.some.injEq, Prod.mk.injEq] at H
      obtain ⟨rfl, rfl⟩ := H
      obtain ⟨Ao22, co22, eo22⟩ := Kd.R_slice HO_4.out
      subst eo22
      go_wp2_with (first | ((with_reducible refine gate_callee (f := 24) rfl ?_); refine goesL_ (some 39) rfl rfl Tryd.func24 (by kernel_rfl) rfl #[.slice Ao22 x4_1.length co22] rfl (by (try simp only [List.map_toArray, List.map_cons, List.map_nil]); first | done | rfl | (simp only [List.length_drop, List.length_take]; rfl)) ?_; (with_reducible refine (taskmasterref26_Text.calls k1 _ _ x4_1 t237 true _ ?side1 ?side2 A19.out).mono ?_); (case side1 => repeat (first | exact (Kd.R_reads' HO_4.out).2.2 | (with_reducible refine Kd.C_alloc ?_ _) | (with_reducible refine Kd.C_drewN ?_ _) | (with_reducible refine Kd.C_drew ?_))); (case side2 => exact (Kd.R_reads' HO_4.out).2.1); rintro e w23 ⟨rfl, hb⟩; refine ⟨_, rfl, ?_⟩; have n0_ := Aside0.mk (Kd.R_below (by (with_reducible repeat (first | apply Kd.R_alloc | apply Kd.R_drewN | apply Kd.R_drew)); exact HO_4.out) hb); have n1_ := Aside0.mk (below_step (by repeat (first | (with_reducible first | exact HB.out | apply below_alloc | apply pw_below_drewN | apply below_drew1) | exact HB.out)) hb); clear HO_4; clear HB; have HO_4 := n0_; have HB := n1_; clear n0_ n1_; (try clear hb); (try clear hb2); (try clear hk); (try clear hi)))
      go_ret2
      exact ⟨_, by first | rfl | (simp [errW_none, errW_some] <;> rfl) | (simp [*, errW_none, errW_some] <;> rfl), by (with_reducible repeat (first | apply Kd.R_alloc | apply Kd.R_drewN | apply Kd.R_drew)); exact HO_4.out, by repeat (first | (with_reducible first | exact HB.out | apply below_alloc | apply pw_below_drewN | apply below_drew1) | exact HB.out)⟩
     ·rw [if_neg c21] at H
      have c21b0 : (t237.toList == a0.toList) = false := beq_eq_false_iff_ne.mpr c21
      have c21b1 : (t237.toList != a0.toList) = true := bne_iff_ne.mpr c21
      simp only [Option.some.injEq, Prod.mk.injEq] at H
      obtain ⟨rfl, rfl⟩ := H
      obtain ⟨Ao24, co24, eo24⟩ := Kd.R_slice HO_4.out
      subst eo24
      go_wp2_with (first | ((with_reducible refine gate_callee (f := 24) rfl ?_); refine goesL_ (some 39) rfl rfl Tryd.func24 (by kernel_rfl) rfl #[.slice Ao24 x4_1.length co24] rfl (by (try simp only [List.map_toArray, List.map_cons, List.map_nil]); first | done | rfl | (simp only [List.length_drop, List.length_take]; rfl)) ?_; (with_reducible refine (taskmasterref26_Text.calls k1 _ _ x4_1 t237 true _ ?side1 ?side2 A19.out).mono ?_); (case side1 => repeat (first | exact (Kd.R_reads' HO_4.out).2.2 | (with_reducible refine Kd.C_alloc ?_ _) | (with_reducible refine Kd.C_drewN ?_ _) | (with_reducible refine Kd.C_drew ?_))); (case side2 => exact (Kd.R_reads' HO_4.out).2.1); rintro e w25 ⟨rfl, hb⟩; refine ⟨_, rfl, ?_⟩; have n0_ := Aside0.mk (Kd.R_below (by (with_reducible repeat (first | apply Kd.R_alloc | apply Kd.R_drewN | apply Kd.R_drew)); exact HO_4.out) hb); have n1_ := Aside0.mk (below_step (by repeat (first | (with_reducible first | exact HB.out | apply below_alloc | apply pw_below_drewN | apply below_drew1) | exact HB.out)) hb); clear HO_4; clear HB; have HO_4 := n0_; have HB := n1_; clear n0_ n1_; (try clear hb); (try clear hb2); (try clear hk); (try clear hi)))
      go_ret2
      exact ⟨_, by first | rfl | (simp [errW_none, errW_some] <;> rfl) | (simp [*, errW_none, errW_some] <;> rfl), by first | exact Kd.R_nil _ _ _ _ _ | exact Kd.N_nil _ _ _ _ _ | exact Kd.V_nil _ _ _ _ _ | exact Kd.Q_nil _ _ _ _ _ | exact Kd.S_nil _ _ _ _ _, by repeat (first | (with_reducible first | exact HB.out | apply below_alloc | apply pw_below_drewN | apply below_drew1) | exact HB.out)⟩
    ·replace c20 := Bool.eq_false_iff.mpr c20
     subst c20
     have H1 : (some (([] : List (S44)), false)) = some (r1, r2) := by rw [if_neg (show ¬ (false = true) by decide)] at H; exact H
     clear H
     have H := H1
     clear H1
     simp only [Option.some.injEq, Prod.mk.injEq] at H
     obtain ⟨rfl, rfl⟩ := H
     obtain ⟨Ao26, co26, eo26⟩ := Kd.R_slice HO_4.out
     subst eo26
     go_wp2_with (first | ((with_reducible refine gate_callee (f := 24) rfl ?_); refine goesL_ (some 39) rfl rfl Tryd.func24 (by kernel_rfl) rfl #[.slice Ao26 x4_1.length co26] rfl (by (try simp only [List.map_toArray, List.map_cons, List.map_nil]); first | done | rfl | (simp only [List.length_drop, List.length_take]; rfl)) ?_; (with_reducible refine (taskmasterref26_Text.calls k1 _ _ x4_1 t237 false _ ?side1 ?side2 A19.out).mono ?_); (case side1 => repeat (first | exact (Kd.R_reads' HO_4.out).2.2 | (with_reducible refine Kd.C_alloc ?_ _) | (with_reducible refine Kd.C_drewN ?_ _) | (with_reducible refine Kd.C_drew ?_))); (case side2 => exact (Kd.R_reads' HO_4.out).2.1); rintro e w27 ⟨rfl, hb⟩; refine ⟨_, rfl, ?_⟩; have n0_ := Aside0.mk (Kd.R_below (by (with_reducible repeat (first | apply Kd.R_alloc | apply Kd.R_drewN | apply Kd.R_drew)); exact HO_4.out) hb); have n1_ := Aside0.mk (below_step (by repeat (first | (with_reducible first | exact HB.out | apply below_alloc | apply pw_below_drewN | apply below_drew1) | exact HB.out)) hb); clear HO_4; clear HB; have HO_4 := n0_; have HB := n1_; clear n0_ n1_; (try clear hb); (try clear hb2); (try clear hk); (try clear hi)))
     go_ret2
     exact ⟨_, by first | rfl | (simp [errW_none, errW_some] <;> rfl) | (simp [*, errW_none, errW_some] <;> rfl), by first | exact Kd.R_nil _ _ _ _ _ | exact Kd.N_nil _ _ _ _ _ | exact Kd.V_nil _ _ _ _ _ | exact Kd.Q_nil _ _ _ _ _ | exact Kd.S_nil _ _ _ _ _, by repeat (first | (with_reducible first | exact HB.out | apply below_alloc | apply pw_below_drewN | apply below_drew1) | exact HB.out)⟩
theorem eqA44 (d : Nat) (w : World) (x0 y0 : Int) (x1 y1 : Int) (x2 y2 : Int) (x3 y3 : Int) :
  (Op.equalIn (d + 2) 44 (.agg #[.int .i64 x0, .int .i64 x1, .int .i64 x2, .int .i64 x3]) (.agg #[.int .i64 y0, .int .i64 y1, .int .i64 y2, .int .i64 y3])).run Tryd.prog w = .ok (x0 == y0 && (x1 == y1 && (x2 == y2 && (x3 == y3)))) w := by
 refine eqA_of Tryd.underlying44 (by kernel_rfl) ?_
 refine eqf_cons (by rfl) (by go_simp; rfl) (by go_simp; rfl) (by go_simp) ?_
 refine eqf_cons (by rfl) (by go_simp; rfl) (by go_simp; rfl) (by go_simp) ?_
 refine eqf_cons (by rfl) (by go_simp; rfl) (by go_simp; rfl) (by go_simp) ?_
 exact eqf_last (by rfl) (by go_simp; rfl) (by go_simp; rfl) (by go_simp)
end Go.Proofs.YtkdndgclldlddaaDoor.QTr
namespace Go.Proofs.YtkdndgclldlddaaDoor.QTr
open Go.RowKit Go.Proofs.YtkdndgclldlddaaDoorW.PrintWords Go.Proofs.YtkdndgclldlddaaDoorW.PrintLast Go.Proofs.YtkdndgclldlddaaDoorW.PrintMore
attribute [local go_sem] max2_int min2_int max_two min_two max_three min_three max_four min_four
set_option linter.unusedVariables false
set_option linter.unusedSimpArgs false
attribute [local go_sem high] eqA44
def taskmasterref25_Same.l0 : Nat → List (S44) → List (S44) → Int → Option (Bool)
 | 0, _, _, _ => none
 | k + 1, x0, x1, x5 => if x5 < (x0.length : Int) then (if 0 ≤ x5 then (if x5 < (x1.length : Int) then (if (!(((rd_T44 x0 x5).f0) == ((rd_T44 x1 x5).f0)) || (!(((rd_T44 x0 x5).f1) == ((rd_T44 x1 x5).f1)) || (!(((rd_T44 x0 x5).f2) == ((rd_T44 x1 x5).f2)) || (!(((rd_T44 x0 x5).f3) == ((rd_T44 x1 x5).f3)))))) = true then (some false) else (taskmasterref25_Same.l0 k x0 x1 (wrap64 (x5 + 1)))) else (none)) else (none)) else (some true)
def taskmasterref25_Same.f (k : Nat) (l0 : List (S44)) (l1 : List (S44)) : Option (Bool) := if (l0.length : Int) = (l1.length : Int) then (taskmasterref25_Same.l0 k l0 l1 0) else (some false)
set_option maxHeartbeats 8000000 in
set_option maxRecDepth 100000 in
theorem taskmasterref25_Same.calls (k : Nat) (A0 : Option Addr) (c0 : Nat) (l0 : List (S44)) (A1 : Option Addr) (c1 : Nat) (l1 : List (S44)) (r : Bool) (w : World) (hr0 : Kd.C k44 w A0 l0.length l0) (hc0 : l0.length ≤ c0) (hr1 : Kd.C k44 w A1 l1.length l1) (hc1 : l1.length ≤ c1) (h : taskmasterref25_Same.f k l0 l1 = some r) :
  Calls Tryd.prog 21 #[.slice A0 l0.length c0, .slice A1 l1.length c1] w fun e w' => e = .returned (.bool r) ∧ Drawn0 w w' := by
 have hu44 := Tryd.underlying44
 have HR0 := Aside0.mk hr0
 have HC0 := Aside0.mk hc0
 clear hr0 hc0
 have HR1 := Aside0.mk hr1
 have HC1 := Aside0.mk hc1
 clear hr1 hc1
 have H : (if (l0.length : Int) = (l1.length : Int) then (taskmasterref25_Same.l0 k l0 l1 0) else (some false)) = some r := h
 clear h
 by_cases c3 : (l0.length : Int) = (l1.length : Int)
 ·rw [if_pos c3] at H
  have c3b0 : ((l0.length : Int) == (l1.length : Int)) = true := beq_iff_eq.mpr c3
  have c3b1 : ((l0.length : Int) != (l1.length : Int)) = false := bne_eq_false_iff_eq.mpr c3
  have c3b2 : (l0.length == l1.length) = true := by first | simpa using c3 | (simp at c3 ⊢; omega)
  clear c3
  have H' := Aside0.mk H
  clear H
  go_enter Tryd.func21, Tryd.ntmps21
  go_wp2
  repeat (go_quiet (fail); try go_wp2)
  go_loopg [5] k (fun kq v5 w' => ∃ (x5_1 : Int), v5 = .int .i64 x5_1 ∧ Aside0 (taskmasterref25_Same.l0 kq l0 l1 x5_1 = some r) ∧ Aside0 (kq ≤ k) ∧ Drawn0 w w')
  case atStart => exact ⟨(0), (by first | rfl | (simp; done) | (simp [*]; done)), H', ⟨Nat.le_refl _⟩, by repeat (first | exact Drawn0.refl _ | apply Drawn0.step)⟩
  case round =>
   clear H'
   try clear c1
   try clear c2
   try clear p2
   try clear c3
   try clear c3b0
   try clear c3b1
   try clear c3b2
   obtain ⟨x5_1, rfl, HA, HK1, ⟨m1, rfl⟩⟩ := hrel
   cases gk with
   | zero => exact absurd HA.out (by simp [taskmasterref25_Same.l0])
   | succ k1 =>
    have H := HA.out
    clear HA
    simp only [taskmasterref25_Same.l0] at H
    by_cases c4 : x5_1 < (l0.length : Int)
    ·rw [if_pos c4] at H
     have c4b0 : decide (x5_1 < (l0.length : Int)) = true := decide_eq_true c4
     clear c4
     by_cases c5 : 0 ≤ x5_1
     ·rw [if_pos c5] at H
      have c5b0 : decide (0 ≤ x5_1) = true := decide_eq_true c5
      clear c5
      by_cases c6 : x5_1 < (l1.length : Int)
      ·rw [if_pos c6] at H
       have c6b0 : decide (x5_1 < (l1.length : Int)) = true := decide_eq_true c6
       clear c6
       by_cases c7 : (!(((rd_T44 l0 x5_1).f0) == ((rd_T44 l1 x5_1).f0)) || (!(((rd_T44 l0 x5_1).f1) == ((rd_T44 l1 x5_1).f1)) || (!(((rd_T44 l0 x5_1).f2) == ((rd_T44 l1 x5_1).f2)) || (!(((rd_T44 l0 x5_1).f3) == ((rd_T44 l1 x5_1).f3)))))) = true
       ·rw [if_pos c7] at H
        have c7b0 : (!(((rd_T44 l0 x5_1).f0) == ((rd_T44 l1 x5_1).f0)) || (!(((rd_T44 l0 x5_1).f1) == ((rd_T44 l1 x5_1).f1)) || (!(((rd_T44 l0 x5_1).f2) == ((rd_T44 l1 x5_1).f2)) || (!(((rd_T44 l0 x5_1).f3) == ((rd_T44 l1 x5_1).f3)))))) = true := c7
        clear c7
        obtain rfl := Option.some.inj H
        have p248 : 0 ≤ (x5_1 : Int) := of_decide_eq_true (by first | (with_reducible assumption) | assumption)
        have q248 : x5_1 < (l0.length : Int) := of_decide_eq_true (by first | (with_reducible assumption) | assumption)
        obtain ⟨ad248, e248, hx248_0, hx248_1, hx248_2, hx248_3⟩ := at_T44 HR0.out x5_1 p248 q248
        cases e248
        replace p248 := eq_true p248
        replace q248 := eq_true q248
        have p249 : 0 ≤ (x5_1 : Int) := of_decide_eq_true (by first | (with_reducible assumption) | assumption)
        have q249 : x5_1 < (l1.length : Int) := of_decide_eq_true (by first | (with_reducible assumption) | assumption)
        obtain ⟨ad249, e249, hx249_0, hx249_1, hx249_2, hx249_3⟩ := at_T44 HR1.out x5_1 p249 q249
        cases e249
        replace p249 := eq_true p249
        replace q249 := eq_true q249
        go_wp2
        repeat (go_quiet (fail); try go_wp2)
        go_ret
        exact ⟨by first | rfl | (simp; done) | (simp [*]; done), by repeat (first | exact Drawn0.refl _ | apply Drawn0.step)⟩
       ·rw [if_neg c7] at H
        have c7b0 : (!(((rd_T44 l0 x5_1).f0) == ((rd_T44 l1 x5_1).f0)) || (!(((rd_T44 l0 x5_1).f1) == ((rd_T44 l1 x5_1).f1)) || (!(((rd_T44 l0 x5_1).f2) == ((rd_T44 l1 x5_1).f2)) || (!(((rd_T44 l0 x5_1).f3) == ((rd_T44 l1 x5_1).f3)))))) = false := by simpa using c7
        clear c7
        have H' := Aside0.mk H
        clear H
        have p248 : 0 ≤ (x5_1 : Int) := of_decide_eq_true (by first | (with_reducible assumption) | assumption)
        have q248 : x5_1 < (l0.length : Int) := of_decide_eq_true (by first | (with_reducible assumption) | assumption)
        obtain ⟨ad248, e248, hx248_0, hx248_1, hx248_2, hx248_3⟩ := at_T44 HR0.out x5_1 p248 q248
        cases e248
        replace p248 := eq_true p248
        replace q248 := eq_true q248
        have p249 : 0 ≤ (x5_1 : Int) := of_decide_eq_true (by first | (with_reducible assumption) | assumption)
        have q249 : x5_1 < (l1.length : Int) := of_decide_eq_true (by first | (with_reducible assumption) | assumption)
        obtain ⟨ad249, e249, hx249_0, hx249_1, hx249_2, hx249_3⟩ := at_T44 HR1.out x5_1 p249 q249
        cases e249
        replace p249 := eq_true p249
        replace q249 := eq_true q249
        go_wp2
        repeat (go_quiet (fail); try go_wp2)
        go_roundg k1
        case measure => have := HK1.out; omega
        case rel => exact ⟨(wrap64 (x5_1 + 1)), (by first | rfl | (simp; done) | (simp [*]; done)), H', ⟨by have := HK1.out; omega⟩, by repeat (first | exact Drawn0.refl _ | apply Drawn0.step)⟩
      ·rw [if_neg c6] at H
       exact absurd H (by simp)
     ·rw [if_neg c5] at H
      exact absurd H (by simp)
    ·rw [if_neg c4] at H
     have c4b0 : decide (x5_1 < (l0.length : Int)) = false := decide_eq_false c4
     clear c4
     obtain rfl := Option.some.inj H
     go_wp2
     repeat (go_quiet (fail); try go_wp2)
     go_ret
     exact ⟨by first | rfl | (simp; done) | (simp [*]; done), by repeat (first | exact Drawn0.refl _ | apply Drawn0.step)⟩
 ·rw [if_neg c3] at H
  have c3b0 : ((l0.length : Int) == (l1.length : Int)) = false := beq_eq_false_iff_ne.mpr c3
  have c3b1 : ((l0.length : Int) != (l1.length : Int)) = true := bne_iff_ne.mpr c3
  have c3b2 : (l0.length == l1.length) = false := by first | simpa using c3 | (simp at c3 ⊢; omega)
  obtain rfl := Option.some.inj H
  go_enter Tryd.func21, Tryd.ntmps21
  go_wp2
  repeat (go_quiet (fail); try go_wp2)
  go_ret
  exact ⟨by first | rfl | (simp; done) | (simp [*]; done), by repeat (first | exact Drawn0.refl _ | apply Drawn0.step)⟩
end Go.Proofs.YtkdndgclldlddaaDoor.QTr
namespace Go.Proofs.YtkdndgclldlddaaDoor.QTr
open Go.RowKit Go.Proofs.YtkdndgclldlddaaDoorW.PrintWords Go.Proofs.YtkdndgclldlddaaDoorW.PrintLast Go.Proofs.YtkdndgclldlddaaDoorW.PrintMore
set_option linter.unusedVariables false
set_option linter.unusedSimpArgs false
set_option maxHeartbeats 2000000 in
set_option maxRecDepth 100000 in
theorem copyCheck_used (b : Nat) (w : World) (h0 : w.cell? ⟨b, 0, none⟩ = some (.pointer (some ⟨b, 0, none⟩))) :
    Calls Tryd.prog 69 #[.pointer (some ⟨b, 0, none⟩)] w fun e w' => e = .returned (.tuple #[]) ∧ w' = w := by
  obtain ⟨j, hj, hjs⟩ := Option.map_eq_some_iff.1 (show (Tryd.prog.info? 75).map (·.size) = some 2 by kernel_rfl)
  have t72 := Tryd.underlying75; have a72 := Tryd.isAgg75; have z72 := Tryd.sizeOf75; have v72 := Tryd.zeroValue75
  have t70 := Tryd.underlying73; have a70 := Tryd.isAgg73; have z70 := Tryd.sizeOf73; have v70 := Tryd.zeroValue73; have u70 := run_underlying Tryd.underlying73
  go_enter Tryd.func69, Tryd.ntmps69
  go_wp2
  rw [Lib.run_neq_ptr_same w _ Tryd.underlying73 hj]
  go_wp2
  go_end0
  exact ⟨rfl, rfl⟩
set_option maxHeartbeats 2000000 in
set_option maxRecDepth 100000 in
theorem copyCheck_fresh (b : Nat) (w : World) (h0 : w.cell? ⟨b, 0, none⟩ = some (.pointer none)) (hsh : w.shape? b = some (75, 2)) (hfz : w.frozen? ⟨b, 0, none⟩ = false) :
    Calls Tryd.prog 69 #[.pointer (some ⟨b, 0, none⟩)] w fun e w' => e = .returned (.tuple #[]) ∧ w' = w.setCell ⟨b, 0, none⟩ (.pointer (some ⟨b, 0, none⟩)) := by
  obtain ⟨j, hj, hjs⟩ := Option.map_eq_some_iff.1 (show (Tryd.prog.info? 75).map (·.size) = some 2 by kernel_rfl)
  have t72 := Tryd.underlying75; have a72 := Tryd.isAgg75; have z72 := Tryd.sizeOf75; have v72 := Tryd.zeroValue75
  have t70 := Tryd.underlying73; have a70 := Tryd.isAgg73; have z70 := Tryd.sizeOf73; have v70 := Tryd.zeroValue73; have u70 := run_underlying Tryd.underlying73
  go_enter Tryd.func69, Tryd.ntmps69
  go_wp2
  rw [Lib.run_to_unsafe w ⟨b, 0, none⟩ Tryd.underlying73 Tryd.underlying112 hj (by rw [hjs]; decide) hsh (Nat.zero_lt_succ 1)]
  simp only [Result.andThen]
  rw [Oper.upon_value]
  go_wp2
  rw [run_callFunc_extern Tryd.func83 (by kernel_rfl) (by kernel_rfl) (by kernel_rfl) (e := Extern.AbiNoEscape.same) (by kernel_rfl)]
  rw [Lib.run_noEscape]
  simp only [Result.andThen]
  rw [Oper.upon_value]
  go_wp2
  rw [Lib.run_from_unsafe w ⟨b, 0, none⟩ Tryd.underlying112 Tryd.underlying73 hj hsh (by kernel_rfl)]
  simp only [Result.andThen]
  rw [Oper.upon_value]
  go_wp2
  go_end0
  exact ⟨rfl, rfl⟩
theorem copyCheck_any (B b : Nat) (bs : List Value) (w : World) (h : Lib.IsBuilder 75 5 B b bs w) :
    Calls Tryd.prog 69 #[.pointer (some ⟨b, 0, none⟩)] w fun e w' => e = .returned (.tuple #[]) ∧ (Lib.BuilderAt 75 5 B b (.pointer (some ⟨b, 0, none⟩)) bs w' ∧ Below B w w') := by
  rcases h with h | h
  · refine (copyCheck_fresh b w h.cell0 h.shape h.frozen0).mono ?_
    rintro e w' ⟨rfl, rfl⟩
    exact ⟨rfl, h.used _, (Below.refl B w).setCell (p := ⟨b, 0, none⟩) h.1 _⟩
  · refine (copyCheck_used b w h.cell0).mono ?_
    rintro e w' ⟨rfl, rfl⟩
    exact ⟨rfl, h, Below.refl B _⟩
set_option maxHeartbeats 2000000 in
set_option maxRecDepth 100000 in
theorem writeString_any (B b : Nat) (bs : List Value) (s : ByteArray) (w : World) (h : Lib.IsBuilder 75 5 B b bs w) (hlen : bs.length + s.size ≤ 140737488355328) (hBw : B ≤ w.heap.size) :
    Calls Tryd.prog 43 #[.pointer (some ⟨b, 0, none⟩), .string s] w fun e w' => e = .returned (.tuple #[.int .i64 s.size, .nilIface]) ∧ (Lib.IsBuilder 75 5 B b (bs ++ Lib.strCells s) w' ∧ Below B w w') := by
  obtain ⟨i0, hi, hz0, hz1, hz2⟩ := info_parts (show (Tryd.prog.info? 5).map (fun i => (i.zero, i.size, i.bytes)) = some (some (.int .u8 0), 1, 1) by kernel_rfl)
  have t72 := Tryd.underlying75; have a72 := Tryd.isAgg75; have z72 := Tryd.sizeOf75; have v72 := Tryd.zeroValue75
  have t37 := Tryd.underlying68; have a37 := Tryd.isAgg68; have z37 := Tryd.sizeOf68; have v37 := Tryd.zeroValue68
  go_enter Tryd.func43, Tryd.ntmps43
  go_wp2_with (go_at_call 69; refine (copyCheck_any B b bs _ h).mono ?_)
  rintro e w1 ⟨rfl, h1, hb1⟩
  obtain ⟨hB, v, hbk, hown, hne⟩ := h1
  have c0 : w1.cell? ⟨b, 0, none⟩ = some (.pointer (some ⟨b, 0, none⟩)) := by rw [Lib.cell_of_heap hbk]; rfl
  have c1 : w1.cell? ⟨b, 1, none⟩ = some v := by rw [Lib.cell_of_heap hbk]; rfl
  go_wp2_with (at_builtin; refine Lib.wpList_append_own_string _ rfl _ _ 68 9 rfl B 5 i0 Tryd.underlying68 Tryd.underlying9 hi hz0 hz1 hz2 _ _ _ rfl hown s rfl ?c3 ?c4 ?c5 ?_)
  case c3 => unfold maxLen; omega
  case c4 => omega
  case c5 => have := hb1.size; omega
  intro v' w2 hown' hgrow _
  have hlt : b < w1.heap.size := by
    rcases Nat.lt_or_ge b w1.heap.size with h' | h'
    · exact h'
    · simp [Array.getElem?_eq_none h'] at hbk
  have hb2 : w2.heap[b]? = some (.cells #[.pointer (some ⟨b, 0, none⟩), v] 75 (0, 0)) := by
    rw [hgrow.block b hlt (fun e => hne e.symm)]
    exact hbk
  have d0 : w2.cell? ⟨b, 0, none⟩ = some (.pointer (some ⟨b, 0, none⟩)) := by rw [Lib.cell_of_heap hb2]; rfl
  have d1 : w2.cell? ⟨b, 1, none⟩ = some v := by rw [Lib.cell_of_heap hb2]; rfl
  have f1 : w2.frozen? ⟨b, 1, none⟩ = false := Lib.frozen_of_heap hb2 1
  obtain ⟨ao, n', cap, rfl⟩ : ∃ ao n' cap, v' = .slice ao n' cap := by
    rcases hown'.2 with ⟨hv, _⟩ | ⟨g, cap, cur, hv, _⟩
    · exact ⟨_, _, _, hv⟩
    · exact ⟨_, _, _, hv⟩
  go_wp2
  go_ret2
  refine ⟨rfl, Or.inr ?_, ?_⟩
  · exact Lib.BuilderAt.put (T := 75) (e := 5) hB hb2 (bs' := bs ++ Lib.strCells s) (by simpa [Lib.strCells_length] using hown') (by decide)
  · exact (hb1.grown hgrow (by have := hb1.size; omega) (fun k hk => (hown.lt k hk).1)).setCell (p := ⟨b, 1, none⟩) hB _
def trace_Text.g (acc : List UInt8) : List S44 → Option (List UInt8 × Bool)
  | [] => some (acc, true)
  | x :: l => (trace_line.f 5 x.f0 x.f1 x.f2 x.f3).bind fun r => if r.2 = true then if acc.length + r.1.size ≤ 100000 then trace_Text.g (acc ++ r.1.data.toList) l else none else some ([], false)
def trace_Text.f (l0 : List S44) : Option (ByteArray × Bool) := if l0.length ≤ 1000 then (trace_Text.g [] l0).map fun r => (⟨r.1.toArray⟩, r.2) else none
theorem strCells_bytes (s : ByteArray) : Lib.strCells s = Lib.byteCells s.data.toList := by
  simp [Lib.strCells, Lib.byteCells]
theorem byteCells_app (a b : List UInt8) : Lib.byteCells a ++ Lib.byteCells b = Lib.byteCells (a ++ b) := by simp [Lib.byteCells]
theorem rdT_step {l : List S44} {i : Nat} (h : i < l.length) : l.drop i = rd_T44 l (i : Int) :: l.drop (i + 1) := by
  rw [List.drop_eq_getElem_cons h]
  unfold rd_T44
  rw [Int.toNat_natCast, List.getD_eq_getElem?_getD, List.getElem?_eq_getElem h]; rfl
theorem isB_below {B b : Nat} {bs : List Value} {w w' : World} (h : Lib.IsBuilder 75 5 B b bs w) (hb : Below w.heap.size w w') : Lib.IsBuilder 75 5 B b bs w' := by
  have one : ∀ p, Lib.BuilderAt 75 5 B b p bs w → Lib.BuilderAt 75 5 B b p bs w' := fun p h => by
    obtain ⟨hB, v, hbk, hown, hne⟩ := h
    exact ⟨hB, v, (hb.block b (blk_lt hbk)).trans hbk, hown.kept (grown_of_below hb none) (Classical.em (v.ownBlock = none)), hne⟩
  rcases h with h | h
  · exact Or.inl (one _ h)
  · exact Or.inr (one _ h)
theorem isB_lt {B b : Nat} {bs : List Value} {w : World} (h : Lib.IsBuilder 75 5 B b bs w) : b < w.heap.size := by
  rcases h with h | h
  · exact h.lt
  · exact h.lt
theorem isB_set4 {B b g : Nat} {bs : List Value} {w : World} {cs : Array Value} (h : Lib.IsBuilder 75 5 B b bs w) (hg : g ≠ b) (hb : w.heap[g]? = some (.cells cs 44 (0, 0))) (u0 u1 u2 u3 : Value) :
    Lib.IsBuilder 75 5 B b bs ((((w.setCell ⟨g, 0, none⟩ u0).setCell ⟨g, 1, none⟩ u1).setCell ⟨g, 2, none⟩ u2).setCell ⟨g, 3, none⟩ u3) := by
  have one : ∀ p, Lib.BuilderAt 75 5 B b p bs w → Lib.BuilderAt 75 5 B b p bs ((((w.setCell ⟨g, 0, none⟩ u0).setCell ⟨g, 1, none⟩ u1).setCell ⟨g, 2, none⟩ u2).setCell ⟨g, 3, none⟩ u3) := fun p h => by
    obtain ⟨hB, v, hbk, hown, hne⟩ := h
    have hv : v.ownBlock ≠ some g := by
      intro e
      rcases hown.2 with ⟨hv, _⟩ | ⟨g', cap, cur, hv, _, hc, _⟩
      · rw [hv] at e; simp [Value.ownBlock] at e
      · rw [hv] at e
        simp only [Value.ownBlock, Option.some.injEq] at e
        subst e
        rw [hb] at hc
        simp at hc
    have o1 := ownsRow_setCell_other hown (a := ⟨g, 0, none⟩) hv u0
    have o2 := ownsRow_setCell_other o1 (a := ⟨g, 1, none⟩) hv u1
    have o3 := ownsRow_setCell_other o2 (a := ⟨g, 2, none⟩) hv u2
    have o4 := ownsRow_setCell_other o3 (a := ⟨g, 3, none⟩) hv u3
    exact ⟨hB, v, blk_far (blk_far (blk_far (blk_far hbk hg.symm _) hg.symm _) hg.symm _) hg.symm _, o4, hne⟩
  rcases h with h | h
  · exact Or.inl (one _ h)
  · exact Or.inr (one _ h)
set_option maxHeartbeats 8000000 in
set_option maxRecDepth 100000 in
theorem trace_Text.calls (A0 : Option Addr) (c0 : Nat) (l0 : List S44) (r1 : ByteArray) (r2 : Bool) (w : World) (hr0 : Kd.C k44 w A0 l0.length l0) (hc0 : l0.length ≤ c0) (hT : TabW w) (h : trace_Text.f l0 = some (r1, r2)) :
    Calls Tryd.prog 23 #[.slice A0 l0.length c0] w fun e w' => e = .returned (.tuple #[.string r1, .bool r2]) ∧ Below w.heap.size w w' := by
  have hu44 := Tryd.underlying44
  unfold trace_Text.f at h
  by_cases hl : l0.length ≤ 1000
  · rw [if_pos hl] at h
    obtain ⟨⟨L, b⟩, hg, e⟩ := Option.map_eq_some_iff.mp h
    simp only [Prod.mk.injEq] at e
    obtain ⟨rfl, rfl⟩ := e
    have HG := Aside0.mk hg
    have HT := Aside0.mk hT
    have HR := Aside0.mk hr0
    have HLEN := Aside0.mk hl
    clear h hg hT hr0
    go_enter Tryd.func23, Tryd.ntmps23
    go_wp2_with (first | ((with_reducible refine gate_dst (N := 4) rfl ?_); refine box_event ?hg (N := 4) ?hd (cs := #[.pointer none, .slice none 0 0]) (t := 75) ?hr ?_; (case hd => rfl); (case hg => rfl); (case hr => first | (go_simp; done) | (go_simp; rfl)); intro gb hgb w1 hbox hbb; have HS := Aside0.mk (show Lib.IsBuilder 75 5 w.heap.size gb (Lib.byteCells []) w1 from Or.inl ⟨Nat.le_of_eq hgb.symm, .slice none 0 0, hbox, World.ownsRow_nil _ _ _ _, by simp [Value.ownBlock]⟩); have HB := Aside0.mk hbb; clear hbox hbb hgb))
    (try simp only [Act.put, List.setIfInBounds_toArray, List.set_cons_zero, List.set_cons_succ])
    go_loopg [11] l0.length (fun kq v11 w' => ∃ (i : Nat) (acc : List UInt8), v11 = .int .i64 i ∧ Aside0 (i + kq = l0.length) ∧ Aside0 (trace_Text.g acc (l0.drop i) = some (L, b)) ∧ Aside0 (acc.length ≤ 100000) ∧ Aside0 (Lib.IsBuilder 75 5 w.heap.size gb (Lib.byteCells acc) w') ∧ Aside0 (Below w.heap.size w w'))
    case atStart => exact ⟨0, [], rfl, ⟨by omega⟩, HG, ⟨by simp⟩, HS, HB⟩
    case round =>
      clear HG HS HB
      obtain ⟨i, acc, rfl, HI, HG, HA, HS, HB⟩ := hrel
      by_cases hi : i < l0.length
      · have hlt : decide ((i : Int) < (l0.length : Int)) = true := decide_eq_true (by omega)
        obtain ⟨ad, rfl, hx_0, hx_1, hx_2, hx_3⟩ := at_T44 (Kd.C_below HR.out HB.out) (i : Int) (by omega) (by omega)
        rw [Int.toNat_natCast] at hx_0 hx_1 hx_2 hx_3
        have hG := HG.out
        rw [rdT_step hi] at hG
        unfold trace_Text.g at hG
        obtain ⟨⟨s, ok⟩, hL, hG⟩ := Option.bind_eq_some_iff.mp hG
        have HL := Aside0.mk hL
        clear HG hL
        have p1 : 0 ≤ (i : Int) := by omega
        have p1b : decide (0 ≤ (i : Int)) = true := decide_eq_true p1
        replace p1 := eq_true p1
        have p2 : (i : Int) < (l0.length : Int) := by omega
        replace p2 := eq_true p2
        cases ok with
        | true =>
          rw [if_pos rfl] at hG
          by_cases hq : acc.length + s.size ≤ 100000
          · rw [if_pos hq] at hG
            have HG := Aside0.mk hG
            have HQ := Aside0.mk hq
            clear hG hq
            go_wp2_with (first | ((with_reducible refine gate_dst (N := 6) rfl ?_); refine box_event ?hg (N := 6) ?hd (cs := #[.int .i64 0, .int .i64 0, .int .i64 0, .int .i64 0]) (t := 44) ?hr ?_; (case hd => rfl); (case hg => rfl); (case hr => first | (go_simp; done) | (go_simp; rfl)); intro ge hge we hbe hbb; have n0_ := Aside0.mk (isB_below HS.out hbb); have n1_ := Aside0.mk (below_step HB.out hbb); have n2_ := Aside0.mk (show w.heap.size ≤ ge by rw [hge]; exact below_size HB.out); have n3_ := Aside0.mk (show ge ≠ gb by rw [hge]; exact Nat.ne_of_gt (isB_lt HS.out)); clear HS HB; have HS := n0_; have HB := n1_; have GE := n2_; have NE := n3_; clear n0_ n1_ n2_ n3_ hge hbb; have hce_0 : we.cell? ⟨ge, 0, none⟩ = some (.int .i64 0) := (blk_cell hbe 0).trans rfl; have hce_1 : we.cell? ⟨ge, 1, none⟩ = some (.int .i64 0) := (blk_cell hbe 1).trans rfl; have hce_2 : we.cell? ⟨ge, 2, none⟩ = some (.int .i64 0) := (blk_cell hbe 2).trans rfl; have hce_3 : we.cell? ⟨ge, 3, none⟩ = some (.int .i64 0) := (blk_cell hbe 3).trans rfl; have hfe_0 := blk_frozen hbe 0; have hfe_1 := blk_frozen hbe 1; have hfe_2 := blk_frozen hbe 2; have hfe_3 := blk_frozen hbe 3; have HBE := Aside0.mk hbe; clear hbe) | (go_at_call 42; (with_reducible refine (trace_line.calls (hT := ?sT) 5 _ _ _ _ s true _ HL.out).mono ?_); (case sT => exact TabW.below HT.out (below_set (below_set (below_set (below_set HB.out GE.out) GE.out) GE.out) GE.out)); rintro e wl ⟨rfl, hbl⟩; have n0_ := Aside0.mk (isB_below (isB_set4 HS.out NE.out HBE.out _ _ _ _) hbl); have n1_ := Aside0.mk (below_step (below_set (below_set (below_set (below_set HB.out GE.out) GE.out) GE.out) GE.out) hbl); clear HS HB; have HS := n0_; have HB := n1_; clear n0_ n1_ hbl) | (go_at_call 43; (with_reducible refine (writeString_any w.heap.size gb (Lib.byteCells acc) s _ HS.out ?sL (below_size HB.out)).mono ?_); (case sL => rw [Lib.byteCells_length]; have := HA.out; have := HQ.out; omega); rintro e w9 ⟨rfl, hs9, hb9⟩; have n0_ := Aside0.mk (HB.out.trans hb9); rw [strCells_bytes, byteCells_app] at hs9; have n1_ := Aside0.mk hs9; clear HS HB; have HB := n0_; have HS := n1_; clear n0_ n1_ hs9 hb9))
            go_roundg (gk - 1)
            case measure => have := HI.out; omega
            case rel => exact ⟨i + 1, acc ++ s.data.toList, by rw [show (i : Int) + 1 = ((i + 1 : Nat) : Int) by omega], ⟨by have := HI.out; omega⟩, HG, ⟨by have := HQ.out; rw [List.length_append, Array.length_toList]; exact this⟩, HS, HB⟩
          · rw [if_neg hq] at hG; cases hG
        | false =>
          rw [if_neg (by simp)] at hG
          simp only [Option.some.injEq, Prod.mk.injEq] at hG
          obtain ⟨rfl, rfl⟩ := hG
          go_wp2_with (first | ((with_reducible refine gate_dst (N := 6) rfl ?_); refine box_event ?hg (N := 6) ?hd (cs := #[.int .i64 0, .int .i64 0, .int .i64 0, .int .i64 0]) (t := 44) ?hr ?_; (case hd => rfl); (case hg => rfl); (case hr => first | (go_simp; done) | (go_simp; rfl)); intro ge hge we hbe hbb; have n0_ := Aside0.mk (isB_below HS.out hbb); have n1_ := Aside0.mk (below_step HB.out hbb); have n2_ := Aside0.mk (show w.heap.size ≤ ge by rw [hge]; exact below_size HB.out); have n3_ := Aside0.mk (show ge ≠ gb by rw [hge]; exact Nat.ne_of_gt (isB_lt HS.out)); clear HS HB; have HS := n0_; have HB := n1_; have GE := n2_; have NE := n3_; clear n0_ n1_ n2_ n3_ hge hbb; have hce_0 : we.cell? ⟨ge, 0, none⟩ = some (.int .i64 0) := (blk_cell hbe 0).trans rfl; have hce_1 : we.cell? ⟨ge, 1, none⟩ = some (.int .i64 0) := (blk_cell hbe 1).trans rfl; have hce_2 : we.cell? ⟨ge, 2, none⟩ = some (.int .i64 0) := (blk_cell hbe 2).trans rfl; have hce_3 : we.cell? ⟨ge, 3, none⟩ = some (.int .i64 0) := (blk_cell hbe 3).trans rfl; have hfe_0 := blk_frozen hbe 0; have hfe_1 := blk_frozen hbe 1; have hfe_2 := blk_frozen hbe 2; have hfe_3 := blk_frozen hbe 3; have HBE := Aside0.mk hbe; clear hbe) | (go_at_call 42; (with_reducible refine (trace_line.calls (hT := ?sT) 5 _ _ _ _ s false _ HL.out).mono ?_); (case sT => exact TabW.below HT.out (below_set (below_set (below_set (below_set HB.out GE.out) GE.out) GE.out) GE.out)); rintro e wl ⟨rfl, hbl⟩; have n0_ := Aside0.mk (isB_below (isB_set4 HS.out NE.out HBE.out _ _ _ _) hbl); have n1_ := Aside0.mk (below_step (below_set (below_set (below_set (below_set HB.out GE.out) GE.out) GE.out) GE.out) hbl); clear HS HB; have HS := n0_; have HB := n1_; clear n0_ n1_ hbl))
          go_ret2
          exact ⟨rfl, HB.out⟩
      · have hlt : decide ((i : Int) < (l0.length : Int)) = false := decide_eq_false (by omega)
        have hG := HG.out
        rw [List.drop_eq_nil_of_le (by omega)] at hG
        simp only [trace_Text.g, Option.some.injEq, Prod.mk.injEq] at hG
        obtain ⟨rfl, rfl⟩ := hG
        clear HG
        go_wp2_with (go_at_call 44; refine (Tryd.Builder_String_any w.heap.size gb acc _ HS.out (below_size HB.out)).mono ?_; rintro e wz ⟨rfl, hz⟩)
        go_ret2
        exact ⟨rfl, HB.out.trans hz⟩
  · rw [if_neg hl] at h; cases h
end Go.Proofs.YtkdndgclldlddaaDoor.QTr
namespace Go.Proofs.YtkdndgclldlddaaDoor.QTr
open Go.RowKit Go.Proofs.YtkdndgclldlddaaDoorW.PrintWords Go.Proofs.YtkdndgclldlddaaDoorW.PrintLast Go.Proofs.YtkdndgclldlddaaDoorW.PrintMore
attribute [local go_sem] max2_int min2_int max_two min_two max_three min_three max_four min_four
set_option linter.unusedVariables false
set_option linter.unusedSimpArgs false
def taskmasterlaw26_known.f  : Option (Bool) := (trace_Text.f (([(⟨3, 4, 1, 0⟩ : S44)] : List (S44)))).bind fun bt253 => (if bt253.2 = true then (some (bt253.1.toList == ([51, 32, 115, 116, 97, 114, 116, 32, 49, 32, 48, 10] : List UInt8))) else (some false))
set_option maxHeartbeats 8000000 in
set_option maxRecDepth 100000 in
theorem taskmasterlaw26_known.calls  (r : Bool) (w : World) (hT : TabW w) (h : taskmasterlaw26_known.f  = some r) :
  Calls Tryd.prog 22 #[] w fun e w' => e = .returned (.bool r) ∧ Below w.heap.size w w' := by
 have HT := Aside0.mk hT
 clear hT
 have hu44 := Tryd.underlying44
 have HB := Aside0.mk (Below.refl w.heap.size w)
 have H : ((trace_Text.f (([(⟨3, 4, 1, 0⟩ : S44)] : List (S44)))).bind fun bt253 => (if bt253.2 = true then (some (bt253.1.toList == ([51, 32, 115, 116, 97, 114, 116, 32, 49, 32, 48, 10] : List UInt8))) else (some false))) = some r := h
 clear h
 obtain ⟨y250, hy250⟩ : ∃ y_ : List (S44), y_ = (([(⟨3, 4, 1, 0⟩ : S44)] : List (S44))) := ⟨_, rfl⟩
 replace H : ((trace_Text.f y250).bind fun bt253 => (if bt253.2 = true then (some (bt253.1.toList == ([51, 32, 115, 116, 97, 114, 116, 32, 49, 32, 48, 10] : List UInt8))) else (some false))) = some r := by first | (rw [hy250]; with_reducible exact H) | (have H2_ := (Option.bind_some _ _).symm.trans H; rw [hy250]; with_reducible exact H2_) | (have H2_ := (Option.bind_some _ _).symm.trans H; with_reducible exact H2_) | with_reducible exact H | (rw [hy250]; exact H) | exact H
 have Ny250 := Aside0.mk hy250
 clear hy250
 replace H := Option.bind_eq_some_iff.mp H
 obtain ⟨⟨t253, t254⟩, A10, H⟩ := H
 replace H : (if t254 = true then (some (t253.toList == ([51, 32, 115, 116, 97, 114, 116, 32, 49, 32, 48, 10] : List UInt8))) else (some false)) = some r := H
 have A1 := Aside0.mk A10
 clear A10
 by_cases c2 : t254 = true
 ·subst c2
  have H1 : (some (t253.toList == ([51, 32, 115, 116, 97, 114, 116, 32, 49, 32, 48, 10] : List UInt8))) = some r := by rw [if_pos rfl] at H; exact H
  clear H
  have H := H1
  clear H1
  obtain rfl := Option.some.inj H
  go_enter Tryd.func22, Tryd.ntmps22
  go_wp2_with (first | ((with_reducible refine gate_dst (N := 5) rfl ?_); refine Kd.R_lit k44 _ 44 ?hg (N := 5) ?hd (xs := ([(⟨3, 4, 1, 0⟩ : S44)] : List (S44))) (inner := [.int .i64 3, .int .i64 4, .int .i64 1, .int .i64 0]) (ok := fun _ => True) (okp := fun _ => True) ?hr ?hp (fun _ hk => hk) trivial (Below.refl _ _) (Nat.le_refl _) (by simp) ?_; (case hd => rfl); (case hg => rfl); (case hr => first | (go_simp; done) | (go_simp; rfl)); (case hp => exact (Reps.c4 (show Kd.M k44 _ _ _ (⟨3, 4, 1, 0⟩ : S44) [.int .i64 3, .int .i64 4, .int .i64 1, .int .i64 0] from (k44_mkM _ _ _ (⟨3, 4, 1, 0⟩ : S44) )) (Reps.none _ _))); intro v251 w3 ho4 hb hg_ hnew_; clear hg_ hnew_; (first | rw [← Ny250.out] at ho4 | (simp only [Int.reduceToNat] at ho4; rw [← Ny250.out] at ho4)); have n0_ := Aside0.mk (Kd.R_lower ho4 (below_size (by repeat (first | (with_reducible first | exact HB.out | apply below_alloc | apply pw_below_drewN | apply below_drew1) | exact HB.out)))); have n1_ := Aside0.mk (below_step (by repeat (first | (with_reducible first | exact HB.out | apply below_alloc | apply pw_below_drewN | apply below_drew1) | exact HB.out)) hb); clear HB; have HO252 := n0_; have HB := n1_; clear n0_ n1_; clear hb ho4; obtain ⟨Ao5, co5, eo5⟩ := Kd.R_slice HO252.out; subst eo5) | ((with_reducible refine gate_callee (f := 23) rfl ?_); refine goesL_ (some 6) rfl rfl Tryd.func23 (by kernel_rfl) rfl #[.slice Ao5 y250.length co5] rfl (by (try simp only [List.map_toArray, List.map_cons, List.map_nil]); first | done | rfl | (simp only [List.length_drop, List.length_take]; rfl)) ?_; (with_reducible refine (trace_Text.calls (hT := ?sideT) _ _ y250 t253 true _ ?side1 ?side2 A1.out).mono ?_); (case sideT => first | with_reducible exact HT.out | refine TabW.below HT.out ?_; repeat (first | (with_reducible first | exact HB.out | apply below_alloc | apply pw_below_drewN | apply below_drew1) | exact HB.out | exact Below.refl _ _)); (case side1 => repeat (first | exact (Kd.R_reads' HO252.out).2.2 | (with_reducible refine Kd.C_alloc ?_ _) | (with_reducible refine Kd.C_drewN ?_ _) | (with_reducible refine Kd.C_drew ?_))); (case side2 => exact (Kd.R_reads' HO252.out).2.1); rintro e w6 ⟨rfl, hb⟩; refine ⟨_, rfl, ?_⟩; have n0_ := Aside0.mk (Kd.R_below (by (with_reducible repeat (first | apply Kd.R_alloc | apply Kd.R_drewN | apply Kd.R_drew)); exact HO252.out) hb); have n1_ := Aside0.mk (below_step (by repeat (first | (with_reducible first | exact HB.out | apply below_alloc | apply pw_below_drewN | apply below_drew1) | exact HB.out)) hb); clear HO252; clear HB; have HO252 := n0_; have HB := n1_; clear n0_ n1_; (try clear hb); (try clear hb2); (try clear hk); (try clear hi)))
  go_ret
  exact ⟨by first | rfl | (simp [errW_none, errW_some] <;> rfl) | (simp [*, errW_none, errW_some] <;> rfl), by repeat (first | (with_reducible first | exact HB.out | apply below_alloc | apply pw_below_drewN | apply below_drew1) | exact HB.out)⟩
 ·replace c2 := Bool.eq_false_iff.mpr c2
  subst c2
  have H1 : (some false) = some r := by rw [if_neg (show ¬ (false = true) by decide)] at H; exact H
  clear H
  have H := H1
  clear H1
  obtain rfl := Option.some.inj H
  go_enter Tryd.func22, Tryd.ntmps22
  go_wp2_with (first | ((with_reducible refine gate_dst (N := 5) rfl ?_); refine Kd.R_lit k44 _ 44 ?hg (N := 5) ?hd (xs := ([(⟨3, 4, 1, 0⟩ : S44)] : List (S44))) (inner := [.int .i64 3, .int .i64 4, .int .i64 1, .int .i64 0]) (ok := fun _ => True) (okp := fun _ => True) ?hr ?hp (fun _ hk => hk) trivial (Below.refl _ _) (Nat.le_refl _) (by simp) ?_; (case hd => rfl); (case hg => rfl); (case hr => first | (go_simp; done) | (go_simp; rfl)); (case hp => exact (Reps.c4 (show Kd.M k44 _ _ _ (⟨3, 4, 1, 0⟩ : S44) [.int .i64 3, .int .i64 4, .int .i64 1, .int .i64 0] from (k44_mkM _ _ _ (⟨3, 4, 1, 0⟩ : S44) )) (Reps.none _ _))); intro v251 w7 ho8 hb hg_ hnew_; clear hg_ hnew_; (first | rw [← Ny250.out] at ho8 | (simp only [Int.reduceToNat] at ho8; rw [← Ny250.out] at ho8)); have n0_ := Aside0.mk (Kd.R_lower ho8 (below_size (by repeat (first | (with_reducible first | exact HB.out | apply below_alloc | apply pw_below_drewN | apply below_drew1) | exact HB.out)))); have n1_ := Aside0.mk (below_step (by repeat (first | (with_reducible first | exact HB.out | apply below_alloc | apply pw_below_drewN | apply below_drew1) | exact HB.out)) hb); clear HB; have HO252 := n0_; have HB := n1_; clear n0_ n1_; clear hb ho8; obtain ⟨Ao9, co9, eo9⟩ := Kd.R_slice HO252.out; subst eo9) | ((with_reducible refine gate_callee (f := 23) rfl ?_); refine goesL_ (some 6) rfl rfl Tryd.func23 (by kernel_rfl) rfl #[.slice Ao9 y250.length co9] rfl (by (try simp only [List.map_toArray, List.map_cons, List.map_nil]); first | done | rfl | (simp only [List.length_drop, List.length_take]; rfl)) ?_; (with_reducible refine (trace_Text.calls (hT := ?sideT) _ _ y250 t253 false _ ?side1 ?side2 A1.out).mono ?_); (case sideT => first | with_reducible exact HT.out | refine TabW.below HT.out ?_; repeat (first | (with_reducible first | exact HB.out | apply below_alloc | apply pw_below_drewN | apply below_drew1) | exact HB.out | exact Below.refl _ _)); (case side1 => repeat (first | exact (Kd.R_reads' HO252.out).2.2 | (with_reducible refine Kd.C_alloc ?_ _) | (with_reducible refine Kd.C_drewN ?_ _) | (with_reducible refine Kd.C_drew ?_))); (case side2 => exact (Kd.R_reads' HO252.out).2.1); rintro e w10 ⟨rfl, hb⟩; refine ⟨_, rfl, ?_⟩; have n0_ := Aside0.mk (Kd.R_below (by (with_reducible repeat (first | apply Kd.R_alloc | apply Kd.R_drewN | apply Kd.R_drew)); exact HO252.out) hb); have n1_ := Aside0.mk (below_step (by repeat (first | (with_reducible first | exact HB.out | apply below_alloc | apply pw_below_drewN | apply below_drew1) | exact HB.out)) hb); clear HO252; clear HB; have HO252 := n0_; have HB := n1_; clear n0_ n1_; (try clear hb); (try clear hb2); (try clear hk); (try clear hi)))
  go_ret
  exact ⟨by first | rfl | (simp [errW_none, errW_some] <;> rfl) | (simp [*, errW_none, errW_some] <;> rfl), by repeat (first | (with_reducible first | exact HB.out | apply below_alloc | apply pw_below_drewN | apply below_drew1) | exact HB.out)⟩
def taskmasterlaw26_TraceReads.f (k : Nat) (a0 : ByteArray) : Option (Bool) := if (a0.size : Int) > 2000 then (some true) else ((trace_Read.f k a0).bind fun bt255 => ((taskmasterref26_Read.f k a0).bind fun bt259 => ((taskmasterref25_Same.f k bt255.1 bt259.1).bind fun t263 => (if t263 = true then (if (bt255.2 == bt259.2) = true then ((taskmasterlaw26_known.f).bind fun t264 => (some t264)) else (some false)) else (some false)))))
set_option maxHeartbeats 8000000 in
set_option maxRecDepth 100000 in
theorem taskmasterlaw26_TraceReads.calls (k : Nat) (a0 : ByteArray) (r : Bool) (w : World) (hT : TabW w) (h : taskmasterlaw26_TraceReads.f k a0 = some r) :
  Calls Tryd.prog 7 #[.string a0] w fun e w' => e = .returned (.bool r) ∧ Below w.heap.size w w' := by
 have HT := Aside0.mk hT
 clear hT
 have HB := Aside0.mk (Below.refl w.heap.size w)
 have H : (if (a0.size : Int) > 2000 then (some true) else ((trace_Read.f k a0).bind fun bt255 => ((taskmasterref26_Read.f k a0).bind fun bt259 => ((taskmasterref25_Same.f k bt255.1 bt259.1).bind fun t263 => (if t263 = true then (if (bt255.2 == bt259.2) = true then ((taskmasterlaw26_known.f).bind fun t264 => (some t264)) else (some false)) else (some false)))))) = some r := h
 clear h
 by_cases c2 : (a0.size : Int) > 2000
 ·rw [if_pos c2] at H
  have c2b0 : decide (2000 < (a0.size : Int)) = true := decide_eq_true c2
  have c2b1 : decide (2000 < a0.size) = true := decide_eq_true (by omega)
  clear c2
  obtain rfl := Option.some.inj H
  go_enter Tryd.func7, Tryd.ntmps7
  go_wp2
  go_ret
  exact ⟨by first | rfl | (simp [errW_none, errW_some] <;> rfl) | (simp [*, errW_none, errW_some] <;> rfl), by repeat (first | (with_reducible first | exact HB.out | apply below_alloc | apply pw_below_drewN | apply below_drew1) | exact HB.out)⟩
 ·rw [if_neg c2] at H
  have c2b0 : decide (2000 < (a0.size : Int)) = false := decide_eq_false c2
  have c2b1 : decide (2000 < a0.size) = false := decide_eq_false (by omega)
  clear c2
  replace H := Option.bind_eq_some_iff.mp H
  obtain ⟨⟨t255, t256⟩, A30, H⟩ := H
  replace H : ((taskmasterref26_Read.f k a0).bind fun bt259 => ((taskmasterref25_Same.f k t255 bt259.1).bind fun t263 => (if t263 = true then (if (t256 == bt259.2) = true then ((taskmasterlaw26_known.f).bind fun t264 => (some t264)) else (some false)) else (some false)))) = some r := H
  have A3 := Aside0.mk A30
  clear A30
  replace H := Option.bind_eq_some_iff.mp H
  obtain ⟨⟨t259, t260⟩, A40, H⟩ := H
  replace H : ((taskmasterref25_Same.f k t255 t259).bind fun t263 => (if t263 = true then (if (t256 == t260) = true then ((taskmasterlaw26_known.f).bind fun t264 => (some t264)) else (some false)) else (some false))) = some r := H
  have A4 := Aside0.mk A40
  clear A40
  replace H := Option.bind_eq_some_iff.mp H
  obtain ⟨t263, A50, H⟩ := H
  replace H : (if t263 = true then (if (t256 == t260) = true then ((taskmasterlaw26_known.f).bind fun t264 => (some t264)) else (some false)) else (some false)) = some r := H
  have A5 := Aside0.mk A50
  clear A50
  by_cases c6 : t263 = true
  ·subst c6
   have H1 : (if (t256 == t260) = true then ((taskmasterlaw26_known.f).bind fun t264 => (some t264)) else (some false)) = some r := by rw [if_pos rfl] at H; exact H
   clear H
   have H := H1
   clear H1
   by_cases c7 : (t256 == t260) = true
   ·rw [if_pos c7] at H
    have c7b0 : (t256 == t260) = true := c7
    (try (have c7b1 : decide (t256 = t260) = true := by simpa using c7))
    (try (have c7b2 : (t256 == t260) = true := by simpa using c7))
    clear c7
    replace H := Option.bind_eq_some_iff.mp H
    obtain ⟨t264, A80, H⟩ := H
    replace H : (some t264) = some r := H
    have A8 := Aside0.mk A80
    clear A80
    obtain rfl := Option.some.inj H
    go_enter Tryd.func7, Tryd.ntmps7
    go_wp2_with (first | ((with_reducible refine gate_callee (f := 19) rfl ?_); refine goesL_ (some 12) rfl rfl Tryd.func19 (by kernel_rfl) rfl #[.string a0] rfl (by (try simp only [List.map_toArray, List.map_cons, List.map_nil]); first | done | rfl | (simp only [List.length_drop, List.length_take]; rfl)) ?_; (with_reducible refine (trace_Read.calls (hT := ?sideT) k a0 t255 t256 _ A3.out).mono ?_); (case sideT => first | with_reducible exact HT.out | refine TabW.below HT.out ?_; repeat (first | (with_reducible first | exact HB.out | apply below_alloc | apply pw_below_drewN | apply below_drew1) | exact HB.out | exact Below.refl _ _)); rintro e w9 ⟨v257, rfl, ho0, hb⟩; refine ⟨_, rfl, ?_⟩; have n0_ := Aside0.mk (Kd.R_lower ho0 (below_size (by repeat (first | (with_reducible first | exact HB.out | apply below_alloc | apply pw_below_drewN | apply below_drew1) | exact HB.out)))); have n1_ := Aside0.mk (below_step (by repeat (first | (with_reducible first | exact HB.out | apply below_alloc | apply pw_below_drewN | apply below_drew1) | exact HB.out)) hb); clear HB; have HO258 := n0_; have HB := n1_; clear n0_ n1_; (try clear hb); (try clear hb2); (try clear hk); (try clear hi); (try clear ho0)) | ((with_reducible refine gate_callee (f := 20) rfl ?_); refine goesL_ (some 17) rfl rfl Tryd.func20 (by kernel_rfl) rfl #[.string a0] rfl (by (try simp only [List.map_toArray, List.map_cons, List.map_nil]); first | done | rfl | (simp only [List.length_drop, List.length_take]; rfl)) ?_; (with_reducible refine (taskmasterref26_Read.calls k a0 t259 t260 _ A4.out).mono ?_); rintro e w10 ⟨v261, rfl, ho0, hb⟩; refine ⟨_, rfl, ?_⟩; have n0_ := Aside0.mk (Kd.R_elder' (by (with_reducible repeat (first | apply Kd.R_alloc | apply Kd.R_drewN | apply Kd.R_drew)); exact HO258.out) (Kd.R_base ho0) hb); have n1_ := Aside0.mk (Kd.R_lower (Kd.R_new' ho0 (Kd.R_lt (by (with_reducible repeat (first | apply Kd.R_alloc | apply Kd.R_drewN | apply Kd.R_drew)); exact HO258.out))) (below_size (by repeat (first | (with_reducible first | exact HB.out | apply below_alloc | apply pw_below_drewN | apply below_drew1) | exact HB.out)))); have n2_ := Aside0.mk (below_step (by repeat (first | (with_reducible first | exact HB.out | apply below_alloc | apply pw_below_drewN | apply below_drew1) | exact HB.out)) hb); clear HO258; clear HB; have HO258 := n0_; have HO262 := n1_; have HB := n2_; clear n0_ n1_ n2_; (try clear hb); (try clear hb2); (try clear hk); (try clear hi); (try clear ho0); obtain ⟨Ao11, co11, eo11⟩ := Kd.R_slice HO258.out; subst eo11; obtain ⟨Ao12, co12, eo12⟩ := Kd.R_slice HO262.out; subst eo12) | ((with_reducible refine gate_callee (f := 21) rfl ?_); refine goesL_ (some 22) rfl rfl Tryd.func21 (by kernel_rfl) rfl #[.slice Ao11 t255.length co11, .slice Ao12 t259.length co12] rfl (by (try simp only [List.map_toArray, List.map_cons, List.map_nil]); first | done | rfl | (simp only [List.length_drop, List.length_take]; rfl)) ?_; (with_reducible refine (taskmasterref25_Same.calls k _ _ t255 _ _ t259 true _ ?side1 ?side2 ?side3 ?side4 A5.out).mono ?_); (case side1 => repeat (first | exact (Kd.R_reads' HO258.out).2.2 | (with_reducible refine Kd.C_alloc ?_ _) | (with_reducible refine Kd.C_drewN ?_ _) | (with_reducible refine Kd.C_drew ?_))); (case side2 => exact (Kd.R_reads' HO258.out).2.1); (case side3 => repeat (first | exact (Kd.R_reads' HO262.out).2.2 | (with_reducible refine Kd.C_alloc ?_ _) | (with_reducible refine Kd.C_drewN ?_ _) | (with_reducible refine Kd.C_drew ?_))); (case side4 => exact (Kd.R_reads' HO262.out).2.1); rintro e w' ⟨rfl, ⟨nd, rfl⟩⟩; refine ⟨_, rfl, ?_⟩) | (go_at_call 22; (with_reducible refine (taskmasterlaw26_known.calls (hT := ?sideT)  t264 _ A8.out).mono ?_); (case sideT => first | with_reducible exact HT.out | refine TabW.below HT.out ?_; repeat (first | (with_reducible first | exact HB.out | apply below_alloc | apply pw_below_drewN | apply below_drew1) | exact HB.out | exact Below.refl _ _)); rintro e w13 ⟨rfl, hb⟩; have n0_ := Aside0.mk (Kd.R_below (by (with_reducible repeat (first | apply Kd.R_alloc | apply Kd.R_drewN | apply Kd.R_drew)); exact HO258.out) hb); have n1_ := Aside0.mk (Kd.R_below (by (with_reducible repeat (first | apply Kd.R_alloc | apply Kd.R_drewN | apply Kd.R_drew)); exact HO262.out) hb); have n2_ := Aside0.mk (below_step (by repeat (first | (with_reducible first | exact HB.out | apply below_alloc | apply pw_below_drewN | apply below_drew1) | exact HB.out)) hb); clear HO258; clear HO262; clear HB; have HO258 := n0_; have HO262 := n1_; have HB := n2_; clear n0_ n1_ n2_; (try clear hb); (try clear hb2); (try clear hk); (try clear hi)))
    go_ret
    exact ⟨by first | rfl | (simp [errW_none, errW_some] <;> rfl) | (simp [*, errW_none, errW_some] <;> rfl), by repeat (first | (with_reducible first | exact HB.out | apply below_alloc | apply pw_below_drewN | apply below_drew1) | exact HB.out)⟩
   ·rw [if_neg c7] at H
    have c7b0 : (t256 == t260) = false := by simpa using c7
    (try (have c7b1 : decide (t256 = t260) = false := by simpa using c7))
    (try (have c7b2 : (t256 == t260) = false := by simpa using c7))
    (try (have c7b3 : ¬ (t256 = t260) := by simpa using c7))
    clear c7
    obtain rfl := Option.some.inj H
    go_enter Tryd.func7, Tryd.ntmps7
    go_wp2_with (first | ((with_reducible refine gate_callee (f := 19) rfl ?_); refine goesL_ (some 12) rfl rfl Tryd.func19 (by kernel_rfl) rfl #[.string a0] rfl (by (try simp only [List.map_toArray, List.map_cons, List.map_nil]); first | done | rfl | (simp only [List.length_drop, List.length_take]; rfl)) ?_; (with_reducible refine (trace_Read.calls (hT := ?sideT) k a0 t255 t256 _ A3.out).mono ?_); (case sideT => first | with_reducible exact HT.out | refine TabW.below HT.out ?_; repeat (first | (with_reducible first | exact HB.out | apply below_alloc | apply pw_below_drewN | apply below_drew1) | exact HB.out | exact Below.refl _ _)); rintro e w14 ⟨v257, rfl, ho0, hb⟩; refine ⟨_, rfl, ?_⟩; have n0_ := Aside0.mk (Kd.R_lower ho0 (below_size (by repeat (first | (with_reducible first | exact HB.out | apply below_alloc | apply pw_below_drewN | apply below_drew1) | exact HB.out)))); have n1_ := Aside0.mk (below_step (by repeat (first | (with_reducible first | exact HB.out | apply below_alloc | apply pw_below_drewN | apply below_drew1) | exact HB.out)) hb); clear HB; have HO258 := n0_; have HB := n1_; clear n0_ n1_; (try clear hb); (try clear hb2); (try clear hk); (try clear hi); (try clear ho0)) | ((with_reducible refine gate_callee (f := 20) rfl ?_); refine goesL_ (some 17) rfl rfl Tryd.func20 (by kernel_rfl) rfl #[.string a0] rfl (by (try simp only [List.map_toArray, List.map_cons, List.map_nil]); first | done | rfl | (simp only [List.length_drop, List.length_take]; rfl)) ?_; (with_reducible refine (taskmasterref26_Read.calls k a0 t259 t260 _ A4.out).mono ?_); rintro e w15 ⟨v261, rfl, ho0, hb⟩; refine ⟨_, rfl, ?_⟩; have n0_ := Aside0.mk (Kd.R_elder' (by (with_reducible repeat (first | apply Kd.R_alloc | apply Kd.R_drewN | apply Kd.R_drew)); exact HO258.out) (Kd.R_base ho0) hb); have n1_ := Aside0.mk (Kd.R_lower (Kd.R_new' ho0 (Kd.R_lt (by (with_reducible repeat (first | apply Kd.R_alloc | apply Kd.R_drewN | apply Kd.R_drew)); exact HO258.out))) (below_size (by repeat (first | (with_reducible first | exact HB.out | apply below_alloc | apply pw_below_drewN | apply below_drew1) | exact HB.out)))); have n2_ := Aside0.mk (below_step (by repeat (first | (with_reducible first | exact HB.out | apply below_alloc | apply pw_below_drewN | apply below_drew1) | exact HB.out)) hb); clear HO258; clear HB; have HO258 := n0_; have HO262 := n1_; have HB := n2_; clear n0_ n1_ n2_; (try clear hb); (try clear hb2); (try clear hk); (try clear hi); (try clear ho0); obtain ⟨Ao16, co16, eo16⟩ := Kd.R_slice HO258.out; subst eo16; obtain ⟨Ao17, co17, eo17⟩ := Kd.R_slice HO262.out; subst eo17) | ((with_reducible refine gate_callee (f := 21) rfl ?_); refine goesL_ (some 22) rfl rfl Tryd.func21 (by kernel_rfl) rfl #[.slice Ao16 t255.length co16, .slice Ao17 t259.length co17] rfl (by (try simp only [List.map_toArray, List.map_cons, List.map_nil]); first | done | rfl | (simp only [List.length_drop, List.length_take]; rfl)) ?_; (with_reducible refine (taskmasterref25_Same.calls k _ _ t255 _ _ t259 true _ ?side1 ?side2 ?side3 ?side4 A5.out).mono ?_); (case side1 => repeat (first | exact (Kd.R_reads' HO258.out).2.2 | (with_reducible refine Kd.C_alloc ?_ _) | (with_reducible refine Kd.C_drewN ?_ _) | (with_reducible refine Kd.C_drew ?_))); (case side2 => exact (Kd.R_reads' HO258.out).2.1); (case side3 => repeat (first | exact (Kd.R_reads' HO262.out).2.2 | (with_reducible refine Kd.C_alloc ?_ _) | (with_reducible refine Kd.C_drewN ?_ _) | (with_reducible refine Kd.C_drew ?_))); (case side4 => exact (Kd.R_reads' HO262.out).2.1); rintro e w' ⟨rfl, ⟨nd, rfl⟩⟩; refine ⟨_, rfl, ?_⟩))
    go_ret
    exact ⟨by first | rfl | (simp [errW_none, errW_some] <;> rfl) | (simp [*, errW_none, errW_some] <;> rfl), by repeat (first | (with_reducible first | exact HB.out | apply below_alloc | apply pw_below_drewN | apply below_drew1) | exact HB.out)⟩
  ·replace c6 := Bool.eq_false_iff.mpr c6
   subst c6
   have H1 : (some false) = some r := by rw [if_neg (show ¬ (false = true) by decide)] at H; exact H
   clear H
   have H := H1
   clear H1
   obtain rfl := Option.some.inj H
   go_enter Tryd.func7, Tryd.ntmps7
   go_wp2_with (first | ((with_reducible refine gate_callee (f := 19) rfl ?_); refine goesL_ (some 12) rfl rfl Tryd.func19 (by kernel_rfl) rfl #[.string a0] rfl (by (try simp only [List.map_toArray, List.map_cons, List.map_nil]); first | done | rfl | (simp only [List.length_drop, List.length_take]; rfl)) ?_; (with_reducible refine (trace_Read.calls (hT := ?sideT) k a0 t255 t256 _ A3.out).mono ?_); (case sideT => first | with_reducible exact HT.out | refine TabW.below HT.out ?_; repeat (first | (with_reducible first | exact HB.out | apply below_alloc | apply pw_below_drewN | apply below_drew1) | exact HB.out | exact Below.refl _ _)); rintro e w18 ⟨v257, rfl, ho0, hb⟩; refine ⟨_, rfl, ?_⟩; have n0_ := Aside0.mk (Kd.R_lower ho0 (below_size (by repeat (first | (with_reducible first | exact HB.out | apply below_alloc | apply pw_below_drewN | apply below_drew1) | exact HB.out)))); have n1_ := Aside0.mk (below_step (by repeat (first | (with_reducible first | exact HB.out | apply below_alloc | apply pw_below_drewN | apply below_drew1) | exact HB.out)) hb); clear HB; have HO258 := n0_; have HB := n1_; clear n0_ n1_; (try clear hb); (try clear hb2); (try clear hk); (try clear hi); (try clear ho0)) | ((with_reducible refine gate_callee (f := 20) rfl ?_); refine goesL_ (some 17) rfl rfl Tryd.func20 (by kernel_rfl) rfl #[.string a0] rfl (by (try simp only [List.map_toArray, List.map_cons, List.map_nil]); first | done | rfl | (simp only [List.length_drop, List.length_take]; rfl)) ?_; (with_reducible refine (taskmasterref26_Read.calls k a0 t259 t260 _ A4.out).mono ?_); rintro e w19 ⟨v261, rfl, ho0, hb⟩; refine ⟨_, rfl, ?_⟩; have n0_ := Aside0.mk (Kd.R_elder' (by (with_reducible repeat (first | apply Kd.R_alloc | apply Kd.R_drewN | apply Kd.R_drew)); exact HO258.out) (Kd.R_base ho0) hb); have n1_ := Aside0.mk (Kd.R_lower (Kd.R_new' ho0 (Kd.R_lt (by (with_reducible repeat (first | apply Kd.R_alloc | apply Kd.R_drewN | apply Kd.R_drew)); exact HO258.out))) (below_size (by repeat (first | (with_reducible first | exact HB.out | apply below_alloc | apply pw_below_drewN | apply below_drew1) | exact HB.out)))); have n2_ := Aside0.mk (below_step (by repeat (first | (with_reducible first | exact HB.out | apply below_alloc | apply pw_below_drewN | apply below_drew1) | exact HB.out)) hb); clear HO258; clear HB; have HO258 := n0_; have HO262 := n1_; have HB := n2_; clear n0_ n1_ n2_; (try clear hb); (try clear hb2); (try clear hk); (try clear hi); (try clear ho0); obtain ⟨Ao20, co20, eo20⟩ := Kd.R_slice HO258.out; subst eo20; obtain ⟨Ao21, co21, eo21⟩ := Kd.R_slice HO262.out; subst eo21) | ((with_reducible refine gate_callee (f := 21) rfl ?_); refine goesL_ (some 22) rfl rfl Tryd.func21 (by kernel_rfl) rfl #[.slice Ao20 t255.length co20, .slice Ao21 t259.length co21] rfl (by (try simp only [List.map_toArray, List.map_cons, List.map_nil]); first | done | rfl | (simp only [List.length_drop, List.length_take]; rfl)) ?_; (with_reducible refine (taskmasterref25_Same.calls k _ _ t255 _ _ t259 false _ ?side1 ?side2 ?side3 ?side4 A5.out).mono ?_); (case side1 => repeat (first | exact (Kd.R_reads' HO258.out).2.2 | (with_reducible refine Kd.C_alloc ?_ _) | (with_reducible refine Kd.C_drewN ?_ _) | (with_reducible refine Kd.C_drew ?_))); (case side2 => exact (Kd.R_reads' HO258.out).2.1); (case side3 => repeat (first | exact (Kd.R_reads' HO262.out).2.2 | (with_reducible refine Kd.C_alloc ?_ _) | (with_reducible refine Kd.C_drewN ?_ _) | (with_reducible refine Kd.C_drew ?_))); (case side4 => exact (Kd.R_reads' HO262.out).2.1); rintro e w' ⟨rfl, ⟨nd, rfl⟩⟩; refine ⟨_, rfl, ?_⟩))
   go_ret
   exact ⟨by first | rfl | (simp [errW_none, errW_some] <;> rfl) | (simp [*, errW_none, errW_some] <;> rfl), by repeat (first | (with_reducible first | exact HB.out | apply below_alloc | apply pw_below_drewN | apply below_drew1) | exact HB.out)⟩
end Go.Proofs.YtkdndgclldlddaaDoor.QTr
namespace Go.Proofs.YtkdndgclldlddaaDoor.Pure
open Go.RowKit Go.Proofs.YtkdndgclldlddaaDoor.QTr Go.Proofs.YtkdndgclldlddaaDoorW.PrintWords Go.Proofs.YtkdndgclldlddaaDoorW.PrintLast Go.Proofs.YtkdndgclldlddaaDoorW.PrintMore
set_option linter.unusedVariables false
set_option linter.unusedSimpArgs false
theorem evp {α : Type} {c : Prop} [Decidable c] {f g : Nat → Option α} {r : α} (h : c) (k : Ev f r) : Ev (fun n => if c then f n else g n) r := Ev.congr (fun _ => if_pos h) k
theorem evn {α : Type} {c : Prop} [Decidable c] {f g : Nat → Option α} {r : α} (h : ¬ c) (k : Ev g r) : Ev (fun n => if c then f n else g n) r := Ev.congr (fun _ => if_neg h) k
theorem evb {α β : Type} {o : Option α} {f : Nat → α → Option β} {a : α} {r : β} (h : o = some a) (k : Ev (fun n => f n a) r) : Ev (fun n => o.bind (f n)) r := Ev.congr (fun n => by rw [h]; rfl) k
theorem w64 {n : Int} (h0 : -9223372036854775808 ≤ n) (h1 : n ≤ 9223372036854775807) : wrap64 n = n := by unfold wrap64; omega
theorem wi {i : Nat} (h : i ≤ 1000000) : wrap64 ((i : Int) + 1) = ((i + 1 : Nat) : Int) := w64 (by omega) (by omega)
theorem ev_uniq {α : Type} {g : Nat → Option α} {a b : α} (h : Ev g a) (k : Ev g b) : a = b := by
  obtain ⟨K, h⟩ := h
  obtain ⟨M, k⟩ := k
  exact Option.some.inj ((h (max K M) (Nat.le_max_left _ _)).symm.trans (k (max K M) (Nat.le_max_right _ _)))
def B (l : List UInt8) : ByteArray := ⟨l.toArray⟩
theorem B_app (a b : List UInt8) : B a ++ B b = B (a ++ b) := by
  apply ByteArray.ext
  simp [B]
theorem B_size (a : List UInt8) : (B a).size = a.length := by simp [B, ByteArray.size]
theorem B_of (s : ByteArray) : s = B s.data.toList := rfl
theorem B_data (a : List UInt8) : (B a).data.toList = a := rfl
theorem B_list (a : List UInt8) : (B a).toList = a := by rw [Lib.toList_data]; rfl
theorem B_inj {a b : List UInt8} (h : B a = B b) : a = b := congrArg (fun x : ByteArray => x.data.toList) h
theorem size_of (s : ByteArray) : s.data.toList.length = s.size := Array.length_toList
theorem bt_B (l : List UInt8) (i : Nat) (h : i < l.length) : bt (B l) (i : Int) = ((l[i]).toNat : Int) := by
  unfold bt
  rw [dif_pos (show (i : Int).toNat < (B l).size by rw [Int.toNat_natCast, B_size]; exact h)]
  rfl
theorem ext_B (l : List UInt8) (p q : Nat) : (B l).extract p q = B ((l.drop p).take (q - p)) := by
  apply ByteArray.ext
  simp [B]
def isD (c : UInt8) : Prop := 48 ≤ c.toNat ∧ c.toNat ≤ 57
def valL (l : List UInt8) : Nat := l.foldl (fun v c => 10 * v + (c.toNat - 48)) 0
theorem dig_toNat {n : Nat} (h : n < 10) : (UInt8.ofNat (48 + n)).toNat = 48 + n := by
  rw [UInt8.toNat_ofNat']; omega
theorem dd_isD (n : Nat) : ∀ c ∈ Lib.decDigits n, isD c := by
  induction n using Nat.strongRecOn with
  | _ n ih =>
    intro c hc
    rw [Lib.decDigits] at hc
    split at hc
    · next h =>
      simp only [List.mem_singleton] at hc
      subst hc
      unfold isD; rw [dig_toNat h]; omega
    · next h =>
      rcases List.mem_append.mp hc with hc | hc
      · exact ih (n / 10) (by omega) c hc
      · simp only [List.mem_singleton] at hc
        subst hc
        unfold isD; rw [dig_toNat (Nat.mod_lt _ (by decide))]; omega
theorem dd_ne (n : Nat) : Lib.decDigits n ≠ [] := by
  rw [Lib.decDigits]
  split
  · simp
  · simp
theorem val_snoc (l : List UInt8) (c : UInt8) : valL (l ++ [c]) = 10 * valL l + (c.toNat - 48) := by
  unfold valL
  rw [List.foldl_append]; rfl
theorem val_dd (n : Nat) : valL (Lib.decDigits n) = n := by
  induction n using Nat.strongRecOn with
  | _ n ih =>
    rw [Lib.decDigits]
    split
    · next h =>
      show 10 * 0 + ((UInt8.ofNat (48 + n)).toNat - 48) = n
      rw [dig_toNat h]; omega
    · next h =>
      rw [val_snoc, ih (n / 10) (by omega), dig_toNat (Nat.mod_lt _ (by decide))]; omega
theorem itoa_nat (n : Nat) : Lib.itoa (n : Int) = Lib.decDigits n := by unfold Lib.itoa; rw [if_neg (by omega)]; simp
theorem nd_le : ∀ (k n : Nat), 1 ≤ k → n < 10 ^ k → Lib.nDigits n ≤ k
  | 0, n, h, _ => absurd h (by omega)
  | k + 1, n, h, hn => by
    by_cases h10 : n < 10
    · rw [Lib.nDigits_small h10]; omega
    · rw [Lib.nDigits_big h10]
      rw [Nat.pow_succ] at hn
      by_cases hk : k = 0
      · subst hk; simp at hn; omega
      · have := nd_le k (n / 10) (by omega) (by omega)
        omega
theorem dd_len13 {n : Nat} (h : n ≤ 1099511627776) : (Lib.decDigits n).length ≤ 13 := by
  rw [Lib.decDigits_length]; exact nd_le 13 n (by decide) (by omega)
theorem dd_len20 (u : Nat) (h : u < 18446744073709551616) : (Lib.decDigits u).length ≤ 20 := by rw [Lib.decDigits_length]; exact Lib.nDigits_le20 u h
theorem fold_ge : ∀ (l : List UInt8) (v : Nat), v ≤ l.foldl (fun v c => 10 * v + (c.toNat - 48)) v
  | [], v => Nat.le_refl _
  | c :: l, v => Nat.le_trans (by omega) (fold_ge l (10 * v + (c.toNat - 48)))
theorem parse10 : ∀ (l : List UInt8) (acc : Nat), (∀ c ∈ l, isD c) → l.foldl (fun v c => 10 * v + (c.toNat - 48)) acc ≤ 1000000000000000000 → Lib.parseUint10 acc l = .ok (l.foldl (fun v c => 10 * v + (c.toNat - 48)) acc)
  | [], acc, _, _ => rfl
  | c :: l, acc, h, hv => by
    have hc := h c List.mem_cons_self
    unfold isD at hc
    have hge := fold_ge l (10 * acc + (c.toNat - 48))
    rw [List.foldl_cons] at hv ⊢
    rw [Lib.parseUint10, if_pos hc, if_neg (by omega), if_neg (by omega), show acc * 10 + (c.toNat - 48) = 10 * acc + (c.toNat - 48) by omega]
    exact parse10 l _ (fun x hx => h x (List.mem_cons_of_mem _ hx)) hv
theorem parseM : ∀ (l : List UInt8) (acc : Nat), (∀ c ∈ l, isD c) → l.foldl (fun v c => 10 * v + (c.toNat - 48)) acc ≤ 1000000000000000000 → Lib.parseUintM (2 ^ 64 - 1) acc l = .ok (l.foldl (fun v c => 10 * v + (c.toNat - 48)) acc)
  | [], acc, _, _ => rfl
  | c :: l, acc, h, hv => by
    have hc := h c List.mem_cons_self
    unfold isD at hc
    have hge := fold_ge l (10 * acc + (c.toNat - 48))
    rw [List.foldl_cons] at hv ⊢
    rw [Lib.parseUintM, if_pos hc, if_neg (by omega), if_neg (by omega), show acc * 10 + (c.toNat - 48) = 10 * acc + (c.toNat - 48) by omega]
    exact parseM l _ (fun x hx => h x (List.mem_cons_of_mem _ hx)) hv
theorem atoi_dd {n : Nat} (h : n ≤ 1000000000000000000) : Lib.atoiAll (Lib.decDigits n) = .ok (n : Int) := by
  have hd := dd_isD n
  have hv := val_dd n
  have hne := dd_ne n
  cases hl : Lib.decDigits n with
  | nil => exact absurd hl hne
  | cons c r =>
    rw [hl] at hd hv
    have hc := hd c List.mem_cons_self
    unfold isD at hc
    have hp := parse10 (c :: r) 0 hd (by show valL (c :: r) ≤ _; omega)
    unfold Lib.atoiAll
    simp only [Lib.parseMag]
    rw [if_neg (show ¬ (c.toNat = 43 ∨ c.toNat = 45) by omega), if_neg (by simp), hp]
    show (if _ then _ else if _ then _ else _) = _
    have hv2 : (c :: r).foldl (fun v c => 10 * v + (c.toNat - 48)) 0 = n := hv
    rw [hv2, if_neg (by omega), if_neg (by omega), if_neg (by omega)]
theorem parse_dd {n : Nat} (h : n ≤ 1000000000000000000) : Lib.parseIntB 64 (Lib.decDigits n) = .ok (n : Int) := by
  have hd := dd_isD n
  have hv := val_dd n
  have hne := dd_ne n
  cases hl : Lib.decDigits n with
  | nil => exact absurd hl hne
  | cons c r =>
    rw [hl] at hd hv
    have hc := hd c List.mem_cons_self
    unfold isD at hc
    have hp := parseM (c :: r) 0 hd (by show valL (c :: r) ≤ _; omega)
    unfold Lib.parseIntB
    simp only [Lib.parseUintB]
    rw [if_neg (show ¬ (c.toNat = 43 ∨ c.toNat = 45) by omega), if_neg (by simp), hp]
    show (if _ then _ else if _ then _ else _) = _
    have hv2 : (c :: r).foldl (fun v c => 10 * v + (c.toNat - 48)) 0 = n := hv
    rw [hv2, if_neg (by omega), if_neg (by omega), if_neg (by omega)]
theorem index_at : ∀ (a r : List UInt8) (c : UInt8), c ∉ a → Lib.index (a ++ c :: r) [c] = (a.length : Int)
  | [], r, c, _ => by rw [Lib.index_one]; simp [Lib.indexByte]
  | b :: a, r, c, h => by
    have ih := index_at a r c (fun z => h (List.mem_cons_of_mem _ z))
    rw [Lib.index_one] at ih ⊢
    have hb : (b == c) = false := beq_eq_false_iff_ne.2 (fun e => h (by rw [e]; exact List.mem_cons_self))
    rw [List.cons_append, Lib.indexByte, hb, ih]
    rw [if_neg (by simp), if_neg (by rw [beq_iff_eq]; omega)]
    simp
theorem index_no : ∀ (a : List UInt8) (c : UInt8), c ∉ a → Lib.index a [c] = -1
  | [], c, _ => by rw [Lib.index_one]; rfl
  | b :: a, c, h => by
    have ih := index_no a c (fun z => h (List.mem_cons_of_mem _ z))
    rw [Lib.index_one] at ih ⊢
    have hb : (b == c) = false := beq_eq_false_iff_ne.2 (fun e => h (by rw [e]; exact List.mem_cons_self))
    rw [Lib.indexByte, hb, ih]
    simp
theorem cut_at {a r : List UInt8} {c : UInt8} (h : c ∉ a) : Lib.cut (a ++ c :: r) [c] = (a, r, true) := by
  unfold Lib.cut
  rw [index_at a r c h, if_pos (by omega), Int.toNat_natCast]
  simp
theorem cut_no {a : List UInt8} {c : UInt8} (h : c ∉ a) : Lib.cut a [c] = (a, [], false) := by
  unfold Lib.cut
  rw [index_no a c h, if_neg (by omega)]
theorem splitK_at {a r : List UInt8} {c : UInt8} (k : Nat) (h : c ∉ a) : Lib.splitK [c] 0 (k + 1) (a ++ c :: r) = a :: Lib.splitK [c] 0 k r := by
  rw [Lib.splitK, index_at a r c h, if_neg (by rw [beq_iff_eq]; omega), Int.toNat_natCast]
  simp
theorem has_cut : ∀ (s : List UInt8) (c : UInt8), c ∈ s → ∃ a r, s = a ++ c :: r ∧ c ∉ a
  | b :: s, c, h => by
    by_cases e : b = c
    · subst e; exact ⟨[], s, rfl, by simp⟩
    · obtain ⟨a, r, rfl, hn⟩ := has_cut s c (by
        rcases List.mem_cons.mp h with h | h
        · exact absurd h.symm e
        · exact h)
      exact ⟨b :: a, r, rfl, by
        intro z
        rcases List.mem_cons.mp z with z | z
        · exact e z.symm
        · exact hn z⟩
theorem cut_uniq {a a' r r' : List UInt8} {c : UInt8} (h : c ∉ a) (h' : c ∉ a') (e : a ++ c :: r = a' ++ c :: r') : a = a' ∧ r = r' := by
  have e1 := cut_at (r := r) h
  rw [e, cut_at (r := r') h'] at e1
  simp only [Prod.mk.injEq] at e1
  exact ⟨e1.1.symm, e1.2.1.symm⟩
theorem split_B (s : List UInt8) (c : UInt8) : Lib.splitB (B [c]) 0 (Lib.countB (B s) (B [c])) (B s) = (Lib.splitK [c] 0 (s.count c) s).map B := by
  have h := Lib.splitB_data (B [c]) 0 (Lib.countB (B s) (B [c])) (B s)
  have hc : Lib.countB (B s) (B [c]) = s.count c := Lib.count_one c s
  rw [B_data, B_data] at h
  rw [hc] at h ⊢
  rw [← h, List.map_map]
  exact (List.map_id' _).symm
theorem number_l0 (l : List UInt8) (hl : ∀ c ∈ l, isD c) (hv : valL l ≤ 1000000000000000000) (hlen : l.length ≤ 15) (d : Nat) : ∀ i, i + d = l.length → Ev (fun k => taskmasterref26_number.l0 k (B l) (valL (l.take i) : Int) (i : Int)) (valL l : Int) := by
  induction d with
  | zero =>
    intro i hi
    refine Ev.step (fun k => by rw [taskmasterref26_number.l0]) (evn (by rw [B_size]; omega) ?_)
    rw [show l.take i = l from List.take_of_length_le (by omega)]
    exact Ev.now _
  | succ d ih =>
    intro i hi
    have hil : i < l.length := by omega
    have hD := hl _ (List.getElem_mem hil)
    unfold isD at hD
    have more := ih (i + 1) (by omega)
    have hle : valL (l.take (i + 1)) ≤ valL l := by
      have e : valL l = (l.drop (i + 1)).foldl (fun v c => 10 * v + (c.toNat - 48)) (valL (l.take (i + 1))) := by
        unfold valL; rw [← List.foldl_append, List.take_append_drop]
      rw [e]; exact fold_ge _ _
    rw [List.take_add_one, List.getElem?_eq_getElem hil, Option.toList_some, val_snoc] at more hle
    rw [← wi (by omega)] at more
    have hb := bt_B l i hil
    refine Ev.step (fun k => by rw [taskmasterref26_number.l0]) (evp (by rw [B_size]; omega) (evp (by omega) (evn (by rw [hb]; omega) (evn (by rw [hb]; omega) ?_))))
    rw [hb, w64 (n := 10 * (valL (l.take i) : Int)) (by omega) (by omega), w64 (n := 10 * (valL (l.take i) : Int) + (((l[i]).toNat : Int) - 48) % 256) (by omega) (by omega),
      show 10 * (valL (l.take i) : Int) + (((l[i]).toNat : Int) - 48) % 256 = ((10 * valL (l.take i) + ((l[i]).toNat - 48) : Nat) : Int) by omega]
    exact more
theorem number_ev {n : Nat} (h : n ≤ 1099511627776) : Ev (fun k => taskmasterref26_number.f k (B (Lib.decDigits n))) (n : Int) := by
  have hlen := dd_len13 h
  have hne := dd_ne n
  have hpos : 0 < (Lib.decDigits n).length := List.length_pos_iff.mpr hne
  have hv := val_dd n
  have h0 := number_l0 (Lib.decDigits n) (dd_isD n) (by omega) (by omega) (Lib.decDigits n).length 0 (by omega)
  rw [List.take_zero, hv] at h0
  have h0 : Ev (fun k => taskmasterref26_number.l0 k (B (Lib.decDigits n)) 0 0) (n : Int) := h0
  unfold taskmasterref26_number.f
  refine evn (by rw [B_size]; omega) ?_
  rw [show decide (((B (Lib.decDigits n)).size : Int) > 15) = false from decide_eq_false (by rw [B_size]; omega)]
  exact Ev.step (fun k => by rw [taskmasterref26_number.j0]) (evn (by simp) h0)
theorem number_l0_some (l : List UInt8) (hlen : l.length ≤ 100000) (d : Nat) : ∀ (i : Nat) (v : Int), i + d = l.length → ∃ r, Ev (fun k => taskmasterref26_number.l0 k (B l) v (i : Int)) r := by
  induction d with
  | zero =>
    intro i v hi
    exact ⟨_, Ev.step (fun k => by rw [taskmasterref26_number.l0]) (evn (by rw [B_size]; omega) (Ev.now _))⟩
  | succ d ih =>
    intro i v hi
    have hil : i < l.length := by omega
    by_cases c1 : bt (B l) (i : Int) < 48
    · exact ⟨_, Ev.step (fun k => by rw [taskmasterref26_number.l0]) (evp (by rw [B_size]; omega) (evp (by omega) (evp c1 (Ev.now _))))⟩
    · by_cases c2 : bt (B l) (i : Int) > 57
      · exact ⟨_, Ev.step (fun k => by rw [taskmasterref26_number.l0]) (evp (by rw [B_size]; omega) (evp (by omega) (evn c1 (evp c2 (Ev.now _)))))⟩
      · obtain ⟨r, h⟩ := ih (i + 1) (wrap64 (wrap64 (10 * v) + ((bt (B l) (i : Int)) - 48) % 256)) (by omega)
        rw [← wi (by omega)] at h
        exact ⟨r, Ev.step (fun k => by rw [taskmasterref26_number.l0]) (evp (by rw [B_size]; omega) (evp (by omega) (evn c1 (evn c2 h))))⟩
theorem number_some (l : List UInt8) (hlen : l.length ≤ 100000) : ∃ r, Ev (fun k => taskmasterref26_number.f k (B l)) r := by
  unfold taskmasterref26_number.f
  have hj : ∀ b, ∃ r, Ev (fun k => taskmasterref26_number.j0 k (B l) 0 b) r := fun b => by
    cases b with
    | true => exact ⟨_, Ev.step (fun k => by rw [taskmasterref26_number.j0]) (evp rfl (Ev.now _))⟩
    | false =>
      obtain ⟨r, h⟩ := number_l0_some l hlen l.length 0 0 (by omega)
      have h : Ev (fun k => taskmasterref26_number.l0 k (B l) 0 0) r := h
      exact ⟨r, Ev.step (fun k => by rw [taskmasterref26_number.j0]) (evn (by simp) h)⟩
  by_cases c : ((B l).size : Int) < 1
  · obtain ⟨r, h⟩ := hj true; exact ⟨r, evp c h⟩
  · obtain ⟨r, h⟩ := hj (decide (((B l).size : Int) > 15)); exact ⟨r, evn c h⟩
theorem digits_ev : ∀ (n : Nat), n < 9223372036854775808 → Ev (fun k => taskmasterref7_Digits.f k (n : Int)) (B (Lib.decDigits n)) := by
  intro n
  induction n using Nat.strongRecOn with
  | _ n ih =>
    intro hn
    have hm : Int.tmod (n : Int) 10 = ((n % 10 : Nat) : Int) := rfl
    have hd : Int.tdiv (n : Int) 10 = ((n / 10 : Nat) : Int) := rfl
    have hy : strOfNums [(wrap64 (48 + (Int.tmod (n : Int) 10))) % 256] = B [UInt8.ofNat (48 + n % 10)] := by
      rw [hm, w64 (by omega) (by omega), show (48 + ((n % 10 : Nat) : Int)) % 256 = ((48 + n % 10 : Nat) : Int) by omega]
      unfold strOfNums B
      simp only [List.map_cons, List.map_nil, Int.toNat_natCast]
    refine Ev.step (fun k => by rw [taskmasterref7_Digits.f]) (evb (show some _ = some _ from rfl) ?_)
    rw [hy]
    by_cases c : n < 10
    · refine evn (by omega) ?_
      rw [Lib.decDigits, dif_pos c, Nat.mod_eq_of_lt c]
      exact Ev.now _
    · refine evp (by omega) ?_
      rw [hd, w64 (by omega) (by omega)]
      have hl := dd_len20 (n / 10) (by omega)
      refine Ev.bind (ih (n / 10) (by omega) (by omega)) (evp (by rw [B_size, B_size, List.length_singleton]; omega) ?_)
      have e : Lib.decDigits n = Lib.decDigits (n / 10) ++ [UInt8.ofNat (48 + n % 10)] := by rw [Lib.decDigits, dif_neg c]
      rw [B_app, e]
      exact Ev.now _
abbrev En := S44
def wordsL : List (List UInt8) := [[], [97, 100, 109, 105, 116], [114, 101, 102, 117, 115, 101], [108, 97, 116, 101], [115, 116, 97, 114, 116], [112, 114, 101, 101, 109, 112, 116], [114, 101, 115, 117, 109, 101], [114, 101, 103, 105, 111, 110], [102, 105, 110, 105, 115, 104], [97, 98, 111, 114, 116], [105, 100, 108, 101]]
def wd (i : Int) : List UInt8 := wordsL.getD i.toNat []
theorem words_eq : trace_words.f = some (wordsL.map B) := rfl
theorem rwords_eq : taskmasterref26_Words.f = some (wordsL.map B) := rfl
theorem rd_map (l : List (List UInt8)) (i : Int) : rdOf ByteArray.empty (l.map B) i = B (l.getD i.toNat []) := by
  unfold rdOf
  rw [List.getD_eq_getElem?_getD, List.getD_eq_getElem?_getD, List.getElem?_map]
  cases l[i.toNat]? <;> rfl
def okE (e : En) : Prop := (0 ≤ e.f0 ∧ e.f0 ≤ 1099511627776) ∧ (0 ≤ e.f3 ∧ e.f3 ≤ 1099511627776) ∧ (1 ≤ e.f1 ∧ e.f1 ≤ 10) ∧ (if e.f1 = 10 then e.f2 = -1 else 0 ≤ e.f2 ∧ e.f2 < 8)
instance : DecidablePred okE := fun e => by unfold okE; infer_instance
def tk (e : En) : List UInt8 := if e.f1 = 10 then [45] else Lib.itoa e.f2
def bodyT (e : En) : List UInt8 := Lib.itoa e.f0 ++ 32 :: (wd e.f1 ++ 32 :: (tk e ++ 32 :: Lib.itoa e.f3))
def lineT (e : En) : List UInt8 := bodyT e ++ [10]
def flat (l : List En) : List UInt8 := (l.map lineT).flatten
def allE (l : List En) : Prop := ∀ e ∈ l, okE e
theorem it_len13 {n : Int} (h0 : 0 ≤ n) (h : n ≤ 1099511627776) : (Lib.itoa n).length ≤ 13 := by
  obtain ⟨m, rfl⟩ := Int.eq_ofNat_of_zero_le h0
  rw [itoa_nat]; exact dd_len13 (by omega)
theorem it_isD {n : Int} (h : 0 ≤ n) : ∀ c ∈ Lib.itoa n, isD c := by
  obtain ⟨m, rfl⟩ := Int.eq_ofNat_of_zero_le h
  rw [itoa_nat]; exact dd_isD m
theorem wd_len {i : Int} (h0 : 1 ≤ i) (h1 : i ≤ 10) : (wd i).length ≤ 7 := by
  rcases (by omega : i = 1 ∨ i = 2 ∨ i = 3 ∨ i = 4 ∨ i = 5 ∨ i = 6 ∨ i = 7 ∨ i = 8 ∨ i = 9 ∨ i = 10) with rfl | rfl | rfl | rfl | rfl | rfl | rfl | rfl | rfl | rfl <;> decide
theorem wd_low {i : Int} (h0 : 1 ≤ i) (h1 : i ≤ 10) : ∀ c ∈ wd i, 97 ≤ c.toNat := by
  rcases (by omega : i = 1 ∨ i = 2 ∨ i = 3 ∨ i = 4 ∨ i = 5 ∨ i = 6 ∨ i = 7 ∨ i = 8 ∨ i = 9 ∨ i = 10) with rfl | rfl | rfl | rfl | rfl | rfl | rfl | rfl | rfl | rfl <;> decide
theorem wd_inj {i j : Int} (h0 : 1 ≤ i) (h1 : i ≤ 10) (k0 : 1 ≤ j) (k1 : j ≤ 10) (e : wd i = wd j) : i = j := by
  have all : ∀ a : Fin 11, ∀ b : Fin 11, wordsL.getD a.val [] = wordsL.getD b.val [] → a = b := by decide
  obtain ⟨m, rfl⟩ := Int.eq_ofNat_of_zero_le (show 0 ≤ i by omega)
  obtain ⟨n, rfl⟩ := Int.eq_ofNat_of_zero_le (show 0 ≤ j by omega)
  have := all ⟨m, by omega⟩ ⟨n, by omega⟩ (by simpa [wd] using e)
  have := congrArg Fin.val this
  simp at this
  omega
theorem tk_len {e : En} (h : okE e) : (tk e).length ≤ 13 := by
  unfold tk
  split
  · decide
  · next c =>
    have := h.2.2.2
    rw [if_neg c] at this
    exact it_len13 this.1 (by omega)
theorem tk_chars {e : En} (h : okE e) : ∀ c ∈ tk e, c.toNat = 45 ∨ isD c := by
  unfold tk
  split
  · intro c hc; left; rw [List.mem_singleton.mp hc]; rfl
  · next c =>
    have := h.2.2.2
    rw [if_neg c] at this
    exact fun x hx => Or.inr (it_isD this.1 x hx)
theorem not_d {c : UInt8} {l : List UInt8} (hl : ∀ x ∈ l, isD x) (hc : c.toNat < 48) : c ∉ l := fun h => by
  have := hl c h
  unfold isD at this
  omega
theorem n10 : (10 : UInt8).toNat = 10 := rfl
theorem tk_not {e : En} (h : okE e) {c : UInt8} (hc : c.toNat < 45) : c ∉ tk e := fun z => by
  have := tk_chars h c z
  unfold isD at this
  omega
theorem wd_not {i : Int} (h0 : 1 ≤ i) (h1 : i ≤ 10) {c : UInt8} (hc : c.toNat < 45) : c ∉ wd i := fun z => by
  have := wd_low h0 h1 c z
  omega
theorem body_len {e : En} (h : okE e) : (bodyT e).length ≤ 60 := by
  have h1 := it_len13 h.1.1 h.1.2
  have h2 := it_len13 h.2.1.1 h.2.1.2
  have h3 := wd_len h.2.2.1.1 h.2.2.1.2
  have h4 := tk_len h
  unfold bodyT
  simp only [List.length_append, List.length_cons]
  omega
theorem body_not10 {e : En} (h : okE e) : (10 : UInt8) ∉ bodyT e := by
  have h1 := not_d (it_isD h.1.1) (show (10 : UInt8).toNat < 48 by decide)
  have h2 := not_d (it_isD h.2.1.1) (show (10 : UInt8).toNat < 48 by decide)
  have h3 := wd_not h.2.2.1.1 h.2.2.1.2 (show (10 : UInt8).toNat < 45 by decide)
  have h4 := tk_not h (show (10 : UInt8).toNat < 45 by decide)
  unfold bodyT
  simp only [List.mem_append, List.mem_cons, not_or]
  exact ⟨h1, by decide, h3, by decide, h4, by decide, h2⟩
theorem body_split {e : En} (h : okE e) (k : Nat) : Lib.splitK [32] 0 (k + 3) (bodyT e) = Lib.itoa e.f0 :: wd e.f1 :: tk e :: Lib.splitK [32] 0 k (Lib.itoa e.f3) := by
  have h1 := not_d (it_isD h.1.1) (show (32 : UInt8).toNat < 48 by decide)
  have h3 := wd_not h.2.2.1.1 h.2.2.1.2 (show (32 : UInt8).toNat < 45 by decide)
  have h4 := tk_not h (show (32 : UInt8).toNat < 45 by decide)
  unfold bodyT
  rw [splitK_at (k + 2) h1, splitK_at (k + 1) h3, splitK_at k h4]
theorem body_count {e : En} (h : okE e) : (bodyT e).count 32 = 3 := by
  have h1 := List.count_eq_zero.mpr (not_d (it_isD h.1.1) (show (32 : UInt8).toNat < 48 by decide))
  have h2 := List.count_eq_zero.mpr (not_d (it_isD h.2.1.1) (show (32 : UInt8).toNat < 48 by decide))
  have h3 := List.count_eq_zero.mpr (wd_not h.2.2.1.1 h.2.2.1.2 (show (32 : UInt8).toNat < 45 by decide))
  have h4 := List.count_eq_zero.mpr (tk_not h (show (32 : UInt8).toNat < 45 by decide))
  unfold bodyT
  simp only [List.count_append, List.count_cons_self, h1, h2, h3, h4]
theorem e32 : (⟨#[32]⟩ : ByteArray) = B [32] := rfl
theorem e10 : (⟨#[10]⟩ : ByteArray) = B [10] := rfl
theorem e45 : (⟨#[45]⟩ : ByteArray) = B [45] := rfl
theorem fmt_eq {n : Int} (h0 : 0 ≤ n) (h1 : n ≤ 1099511627776) : strconv_FormatInt_49.f n 10 = some (B (Lib.itoa n)) := by
  unfold strconv_FormatInt_49.f
  rw [if_pos ⟨rfl, by omega, by omega⟩]; rfl
theorem itoa_eq {n : Int} (h0 : 0 ≤ n) (h1 : n ≤ 1099511627776) : strconv_Itoa_68.f n = some (B (Lib.itoa n)) := by
  unfold strconv_Itoa_68.f
  rw [if_pos ⟨by omega, by omega⟩]; rfl
theorem isNum_eq (n : Int) : trace_isNum.f n = some (decide (0 ≤ n ∧ n ≤ 1099511627776)) := by
  unfold trace_isNum.f
  by_cases h : n ≥ 0
  · rw [if_pos h]; congr 1; exact decide_eq_decide.mpr ⟨fun x => ⟨h, x⟩, fun x => x.2⟩
  · rw [if_neg h, decide_eq_false (fun x => h x.1)]
theorem isTask_eq (a b c d : Int) : trace_isTask.f a b c d = some (decide (if b = 10 then c = -1 else 0 ≤ c ∧ c < 8)) := by
  unfold trace_isTask.f
  by_cases h : b = 10
  · rw [if_pos h]; simp only [if_pos h]; congr 1
  · rw [if_neg h]; simp only [if_neg h]
    by_cases h2 : c ≥ 0
    · rw [if_pos h2]; congr 1; exact decide_eq_decide.mpr ⟨fun x => ⟨h2, x⟩, fun x => x.2⟩
    · rw [if_neg h2, decide_eq_false (fun x => h2 x.1)]
theorem line_ok (k : Nat) (e : En) (h : okE e) : trace_line.j0 (k + 1) false e.f0 e.f1 e.f2 e.f3 = some (B (lineT e), true) := by
  have h1 := it_len13 h.1.1 h.1.2
  have h2 := it_len13 h.2.1.1 h.2.1.2
  have h3 := wd_len h.2.2.1.1 h.2.2.1.2
  have h4 := h.2.2.1
  rw [trace_line.j0, if_neg (by simp), words_eq, fmt_eq h.1.1 h.1.2, fmt_eq h.2.1.1 h.2.1.2]
  have hw : rdOf ByteArray.empty (wordsL.map B) e.f1 = B (wd e.f1) := rd_map _ _
  by_cases c : e.f1 = 10
  · rw [if_pos c]
    simp only [Option.bind_some, hw, e32, e10, e45, B_app, B_size]
    rw [if_pos (by omega), if_pos (by omega), if_pos (show e.f1 < (((wordsL.map B).length : Nat) : Int) by rw [c]; decide)]
    repeat rw [if_pos (by simp only [List.length_append, List.length_cons, List.length_nil]; omega)]
    simp [lineT, bodyT, tk, c]
  · rw [if_neg c]
    have h5 := h.2.2.2
    rw [if_neg c] at h5
    have h6 := it_len13 h5.1 (by omega)
    rw [itoa_eq h5.1 (by omega)]
    simp only [Option.bind_some, hw, e32, e10, e45, B_app, B_size]
    rw [if_pos (by omega), if_pos (by omega), if_pos (show e.f1 < (((wordsL.map B).length : Nat) : Int) by show e.f1 < 11; omega)]
    repeat rw [if_pos (by simp only [List.length_append, List.length_cons, List.length_nil]; omega)]
    simp [lineT, bodyT, tk, c]
theorem line_no (k : Nat) (a b c d : Int) : trace_line.j0 (k + 1) true a b c d = some (B [], false) := by
  rw [trace_line.j0, if_pos rfl]; rfl
theorem line_eq (k : Nat) (e : En) : trace_line.f (k + 1) e.f0 e.f1 e.f2 e.f3 = some (if okE e then (B (lineT e), true) else (B [], false)) := by
  unfold trace_line.f
  rw [isNum_eq, isNum_eq, isTask_eq]
  simp only [Option.bind_some, line_no]
  by_cases h0 : 0 ≤ e.f0 ∧ e.f0 ≤ 1099511627776
  · rw [if_pos (decide_eq_true h0)]
    by_cases h3 : 0 ≤ e.f3 ∧ e.f3 ≤ 1099511627776
    · rw [if_pos (decide_eq_true h3)]
      by_cases h1 : e.f1 < 1
      · rw [if_pos h1, if_neg (fun x => by have := x.2.2.1.1; omega)]
      · rw [if_neg h1]
        by_cases h2 : e.f1 > 10
        · rw [if_pos h2, if_neg (fun x => by have := x.2.2.1.2; omega)]
        · rw [if_neg h2]
          by_cases h4 : (if e.f1 = 10 then e.f2 = -1 else 0 ≤ e.f2 ∧ e.f2 < 8)
          · have hok : okE e := ⟨h0, h3, ⟨by omega, by omega⟩, h4⟩
            rw [decide_eq_true h4, Bool.not_true, line_ok k e hok, if_pos hok]
          · rw [decide_eq_false h4, Bool.not_false, line_no, if_neg (fun x => h4 x.2.2.2)]
    · rw [if_neg (by simpa using h3), if_neg (fun x => h3 x.2.1)]
  · rw [if_neg (by simpa using h0), if_neg (fun x => h0 x.1)]
theorem line_ev (e : En) : Ev (fun k => trace_line.f k e.f0 e.f1 e.f2 e.f3) (if okE e then (B (lineT e), true) else (B [], false)) := Ev.step (fun k => line_eq k e) (Ev.now _)
theorem flat_cons (e : En) (l : List En) : flat (e :: l) = lineT e ++ flat l := rfl
theorem line_len {e : En} (h : okE e) : (lineT e).length ≤ 61 := by
  have := body_len h
  unfold lineT
  rw [List.length_append]; simp; omega
theorem g_eq : ∀ (l : List En) (acc : List UInt8), acc.length + 61 * l.length ≤ 100000 → (allE l → trace_Text.g acc l = some (acc ++ flat l, true)) ∧ (¬ allE l → trace_Text.g acc l = some ([], false))
  | [], acc, _ => ⟨fun _ => by simp [trace_Text.g, flat], fun h => absurd (fun e he => by cases he) h⟩
  | e :: l, acc, hl => by
    rw [List.length_cons] at hl
    by_cases h : okE e
    · have hle := line_len h
      have ih := g_eq l (acc ++ lineT e) (by rw [List.length_append]; omega)
      have hs : trace_Text.g acc (e :: l) = trace_Text.g (acc ++ lineT e) l := by
        rw [trace_Text.g, line_eq 4 e, if_pos h]
        show (if _ then _ else _) = _
        rw [if_pos (show acc.length + (B (lineT e)).size ≤ 100000 by rw [B_size]; omega)]; rfl
      refine ⟨fun ha => ?_, fun ha => ?_⟩
      · rw [hs, ih.1 (fun x hx => ha x (List.mem_cons_of_mem _ hx)), flat_cons, List.append_assoc]
      · rw [hs, ih.2 (fun z => ha (fun x hx => by
          rcases List.mem_cons.mp hx with rfl | hx
          · exact h
          · exact z x hx))]
    · refine ⟨fun ha => absurd (ha e List.mem_cons_self) h, fun _ => ?_⟩
      rw [trace_Text.g, line_eq 4 e, if_neg h]
      rfl
theorem text_eq (l : List En) (h : l.length ≤ 1000) : (allE l → trace_Text.f l = some (B (flat l), true)) ∧ (¬ allE l → trace_Text.f l = some (B [], false)) := by
  have hg := g_eq l [] (by simp; omega)
  unfold trace_Text.f
  rw [if_pos h]
  exact ⟨fun ha => by rw [hg.1 ha]; rfl, fun ha => by rw [hg.2 ha]; rfl⟩
theorem piece_len (c : UInt8) : ∀ (k : Nat) (s : List UInt8), ∀ x ∈ Lib.splitK [c] 0 k s, x.length ≤ s.length
  | 0, s, x, hx => by
    rw [Lib.splitK] at hx
    rw [List.mem_singleton.mp hx]; exact Nat.le_refl _
  | k + 1, s, x, hx => by
    rw [Lib.splitK] at hx
    split at hx
    · rw [List.mem_singleton.mp hx]; exact Nat.le_refl _
    · rcases List.mem_cons.mp hx with rfl | hx
      · rw [List.length_take]; omega
      · have := piece_len c k _ x hx
        rw [List.length_drop] at this; omega
theorem split_eq (s : List UInt8) (h : s.length ≤ 20000) : strings_Split.f (B s) (⟨#[32]⟩ : ByteArray) = some ((Lib.splitK [32] 0 (s.count 32) s).map B) := by
  unfold strings_Split.f
  rw [if_pos ⟨by rw [B_size]; omega, by decide⟩]
  exact congrArg some (split_B s 32)
theorem index_eq (x : ByteArray) : slices_Index_string_string.f (wordsL.map B) x = some (Lib.idxOfS (wordsL.map B) x) := by
  unfold slices_Index_string_string.f
  rw [if_pos (by decide)]
theorem pint_eq (l : List UInt8) (h : l.length ≤ 20000) : strconv_ParseInt_62.f (B l) 10 64 = some (numV (Lib.parseIntB 64 l) (Lib.intSat 64 l)) := by
  unfold strconv_ParseInt_62.f
  rw [if_pos ⟨by rw [B_size]; omega, rfl, rfl⟩]; rfl
theorem patoi_eq (l : List UInt8) (h : l.length ≤ 20000) : strconv_Atoi_63.f (B l) = some (numV (Lib.atoiAll l) (Lib.atoiSat l)) := by
  unfold strconv_Atoi_63.f
  rw [if_pos (by rw [B_size]; omega)]; rfl
theorem idx_wd {i : Int} (h0 : 1 ≤ i) (h1 : i ≤ 10) : Lib.idxOfS (wordsL.map B) (B (wd i)) = i := by
  have key : ∀ k : Nat, 1 ≤ k → k ≤ 10 → Lib.idxOfS (wordsL.map B) (B (wd (k : Int))) = (k : Int) := fun k hk0 hk1 => by
    have hg : ∀ j, (wordsL.map B).getD j ByteArray.empty = B (wordsL.getD j []) := fun j => rd_map wordsL (j : Int)
    have := Lib.idxOfS_hit (wordsL.map B) 11 k (B (wd (k : Int))) (by omega) (by decide) (hg k) (fun j hj e => by
      rw [hg j] at e
      have e := B_inj e
      by_cases hj0 : j = 0
      · subst hj0
        have : ∀ m : Fin 11, 1 ≤ m.val → wordsL.getD 0 [] ≠ wordsL.getD m.val [] := by decide
        exact this ⟨k, by omega⟩ hk0 e
      · have := wd_inj (i := (j : Int)) (j := (k : Int)) (by omega) (by omega) (by omega) (by omega) e
        omega)
    rwa [List.take_of_length_le (by decide)] at this
  obtain ⟨m, rfl⟩ := Int.eq_ofNat_of_zero_le (show 0 ≤ i by omega)
  exact key m (by omega) (by omega)
theorem again_ev (s : List UInt8) (hs : s.length ≤ 20000) (a b c d : Int) : Ev (fun k => (trace_line.f k a b c d).bind fun q => (if q.2 = true then (if (B s).size + 1 ≤ 9223372036854775807 then (some (a, b, c, d, (q.1.toList == ((B s) ++ (⟨#[10]⟩ : ByteArray)).toList))) else none) else (some (a, b, c, d, false)))) (a, b, c, d, decide (okE ⟨a, b, c, d⟩ ∧ s = bodyT ⟨a, b, c, d⟩)) := by
  have h := line_ev ⟨a, b, c, d⟩
  refine Ev.bind h ?_
  by_cases hok : okE ⟨a, b, c, d⟩
  · rw [if_pos hok]
    refine evp rfl (evp (by rw [B_size]; omega) ?_)
    rw [e10, B_app, B_list, B_list]
    by_cases e : s = bodyT ⟨a, b, c, d⟩
    · rw [decide_eq_true ⟨hok, e⟩, beq_iff_eq.mpr (show lineT ⟨a, b, c, d⟩ = s ++ [10] by rw [e]; rfl)]
      exact Ev.now _
    · have hne : (lineT ⟨a, b, c, d⟩ == s ++ [10]) = false := beq_eq_false_iff_ne.mpr (fun x => e (List.append_cancel_right (show bodyT ⟨a, b, c, d⟩ ++ [10] = s ++ [10] from x)).symm)
      rw [decide_eq_false (fun x => e x.2), hne]
      exact Ev.now _
  · rw [if_neg hok, decide_eq_false (fun x => hok x.1)]
    exact evn (by simp) (Ev.now _)
theorem rd4 {l : List (List UInt8)} (i : Nat) : rdOf ByteArray.empty (l.map B) (i : Int) = B (l.getD i []) := by rw [rd_map, Int.toNat_natCast]
theorem getD_len {l : List (List UInt8)} {n : Nat} (h : ∀ x ∈ l, x.length ≤ n) (i : Nat) : (l.getD i []).length ≤ n := by
  rw [List.getD_eq_getElem?_getD]
  cases hi : l[i]? with
  | none => simp
  | some x => exact h x (List.mem_of_getElem? hi)
theorem event_sound (s : List UInt8) (hs : s.length ≤ 20000) : ∃ a b c d q, Ev (fun k => trace_event.f k (B s)) (a, b, c, d, q) ∧ (q = true → okE ⟨a, b, c, d⟩ ∧ s = bodyT ⟨a, b, c, d⟩) := by
  unfold trace_event.f
  rw [split_eq s hs, words_eq]
  generalize hp : Lib.splitK [32] 0 (s.count 32) s = ps
  have hpl : ∀ x ∈ ps, x.length ≤ 20000 := fun x hx => Nat.le_trans (piece_len 32 _ s x (by rw [hp]; exact hx)) hs
  by_cases h4 : (((ps.map B).length : Nat) : Int) = 4
  · have hno : ∀ x4 x6 x8 a b c d, Ev (fun k => trace_event.j0 k (B s) x4 x6 x8 true a b c d) (0, 0, 0, 0, false) := fun x4 x6 x8 a b c d => Ev.step (fun k => by rw [trace_event.j0]) (evp rfl (Ev.now _))
    have hd : ∀ (x6 x8 x1 : Int), ∃ a b c d q, Ev (fun k => trace_event.j0 k (B s) (ps.map B) x6 x8 false 0 x1 (-1) 0) (a, b, c, d, q) ∧ (q = true → okE ⟨a, b, c, d⟩ ∧ s = bodyT ⟨a, b, c, d⟩) := fun x6 x8 x1 => by
      have e2 : rdOf ByteArray.empty (ps.map B) 2 = B (ps.getD 2 []) := rd4 2
      by_cases h2 : (rdOf ByteArray.empty (ps.map B) 2).toList = ([45] : List UInt8)
      · exact ⟨_, _, _, _, _, Ev.step (fun k => by rw [trace_event.j0]) (evn (by simp) (evp (by omega) (evp h2 (again_ev s hs x6 x1 (-1) x8)))), fun q => of_decide_eq_true q⟩
      · by_cases hb : (numV (Lib.atoiAll (ps.getD 2 [])) (Lib.atoiSat (ps.getD 2 []))).2 = true
        · refine ⟨_, _, _, _, _, Ev.step (fun k => by rw [trace_event.j0]) (evn (by simp) (evp (by omega) (evn h2 (evb (a := numV (Lib.atoiAll (ps.getD 2 [])) (Lib.atoiSat (ps.getD 2 []))) (by rw [e2]; exact patoi_eq _ (getD_len hpl 2)) (evp hb (Ev.now _)))))), fun q => by cases q⟩
        · exact ⟨_, _, _, _, _, Ev.step (fun k => by rw [trace_event.j0]) (evn (by simp) (evp (by omega) (evn h2 (evb (a := numV (Lib.atoiAll (ps.getD 2 [])) (Lib.atoiSat (ps.getD 2 []))) (by rw [e2]; exact patoi_eq _ (getD_len hpl 2)) (evn hb (again_ev s hs x6 x1 _ x8)))))), fun q => of_decide_eq_true q⟩
    have e0' : rdOf ByteArray.empty (ps.map B) 0 = B (ps.getD 0 []) := rd4 0
    have e3' : rdOf ByteArray.empty (ps.map B) 3 = B (ps.getD 3 []) := rd4 3
    have start : ∀ a b c d q, (Ev (fun k => (if (numV (Lib.parseIntB 64 (ps.getD 0 [])) (Lib.intSat 64 (ps.getD 0 []))).2 = true then (trace_event.j0 k (B s) (ps.map B) (numV (Lib.parseIntB 64 (ps.getD 0 [])) (Lib.intSat 64 (ps.getD 0 []))).1 (numV (Lib.parseIntB 64 (ps.getD 3 [])) (Lib.intSat 64 (ps.getD 3 []))).1 true 0 (Lib.idxOfS (wordsL.map B) (rdOf ByteArray.empty (ps.map B) 1)) (-1) 0) else (trace_event.j0 k (B s) (ps.map B) (numV (Lib.parseIntB 64 (ps.getD 0 [])) (Lib.intSat 64 (ps.getD 0 []))).1 (numV (Lib.parseIntB 64 (ps.getD 3 [])) (Lib.intSat 64 (ps.getD 3 []))).1 (numV (Lib.parseIntB 64 (ps.getD 3 [])) (Lib.intSat 64 (ps.getD 3 []))).2 0 (Lib.idxOfS (wordsL.map B) (rdOf ByteArray.empty (ps.map B) 1)) (-1) 0))) (a, b, c, d, q)) → Ev (fun k => (some (ps.map B)).bind fun t159 => (if (t159.length : Int) = 4 then ((some (wordsL.map B)).bind fun t162 => (if 1 < (t159.length : Int) then ((slices_Index_string_string.f t162 (rdOf ByteArray.empty t159 1)).bind fun t166 => (if 0 < (t159.length : Int) then ((strconv_ParseInt_62.f (rdOf ByteArray.empty t159 0) 10 64).bind fun bt169 => (if 3 < (t159.length : Int) then ((strconv_ParseInt_62.f (rdOf ByteArray.empty t159 3) 10 64).bind fun bt172 => (if bt169.2 = true then (trace_event.j0 k (B s) t159 bt169.1 bt172.1 true 0 t166 (-1) 0) else (trace_event.j0 k (B s) t159 bt169.1 bt172.1 bt172.2 0 t166 (-1) 0))) else (none))) else (none))) else (none))) else (some (0, 0, 0, 0, false)))) (a, b, c, d, q) := fun a b c d q h =>
      evb rfl (evp h4 (evb rfl (evp (by omega) (evb (index_eq _) (evp (by omega) (evb (by rw [e0']; exact pint_eq _ (getD_len hpl 0)) (evp (by omega) (evb (by rw [e3']; exact pint_eq _ (getD_len hpl 3)) h))))))))
    by_cases hb0 : (numV (Lib.parseIntB 64 (ps.getD 0 [])) (Lib.intSat 64 (ps.getD 0 []))).2 = true
    · exact ⟨_, _, _, _, _, start _ _ _ _ _ (evp hb0 (hno _ _ _ _ _ _ _)), fun q => by cases q⟩
    · cases hb3 : (numV (Lib.parseIntB 64 (ps.getD 3 [])) (Lib.intSat 64 (ps.getD 3 []))).2 with
      | true =>
        rw [hb3] at start
        exact ⟨_, _, _, _, _, start _ _ _ _ _ (evn hb0 (hno _ _ _ _ _ _ _)), fun q => by cases q⟩
      | false =>
        rw [hb3] at start
        obtain ⟨a, b, c, d, q, h1, h2⟩ := hd (numV (Lib.parseIntB 64 (ps.getD 0 [])) (Lib.intSat 64 (ps.getD 0 []))).1 (numV (Lib.parseIntB 64 (ps.getD 3 [])) (Lib.intSat 64 (ps.getD 3 []))).1 (Lib.idxOfS (wordsL.map B) (rdOf ByteArray.empty (ps.map B) 1))
        exact ⟨a, b, c, d, q, start _ _ _ _ _ (evn hb0 h1), h2⟩
  · exact ⟨_, _, _, _, _, evb rfl (evn h4 (Ev.now _)), fun q => by cases q⟩
theorem event_whole {e : En} (h : okE e) : Ev (fun k => trace_event.f k (B (bodyT e))) (e.f0, e.f1, e.f2, e.f3, true) := by
  have hs : (bodyT e).length ≤ 20000 := by have := body_len h; omega
  have hm : okE ⟨e.f0, e.f1, e.f2, e.f3⟩ ∧ bodyT e = bodyT ⟨e.f0, e.f1, e.f2, e.f3⟩ := ⟨h, rfl⟩
  unfold trace_event.f
  rw [split_eq _ hs, words_eq, body_count h, body_split h 0]
  have e0' : rdOf ByteArray.empty ((Lib.itoa e.f0 :: wd e.f1 :: tk e :: Lib.splitK [32] 0 0 (Lib.itoa e.f3)).map B) 0 = B (Lib.itoa e.f0) := rfl
  have e1' : rdOf ByteArray.empty ((Lib.itoa e.f0 :: wd e.f1 :: tk e :: Lib.splitK [32] 0 0 (Lib.itoa e.f3)).map B) 1 = B (wd e.f1) := rfl
  have e2' : rdOf ByteArray.empty ((Lib.itoa e.f0 :: wd e.f1 :: tk e :: Lib.splitK [32] 0 0 (Lib.itoa e.f3)).map B) 2 = B (tk e) := rfl
  have e3' : rdOf ByteArray.empty ((Lib.itoa e.f0 :: wd e.f1 :: tk e :: Lib.splitK [32] 0 0 (Lib.itoa e.f3)).map B) 3 = B (Lib.itoa e.f3) := rfl
  have p : ∀ n : Int, 0 ≤ n → n ≤ 1099511627776 → strconv_ParseInt_62.f (B (Lib.itoa n)) 10 64 = some (n, false) := fun n h0 h1 => by
    obtain ⟨m, rfl⟩ := Int.eq_ofNat_of_zero_le h0
    rw [itoa_nat]
    have hl := dd_len13 (n := m) (by omega)
    rw [pint_eq _ (by omega), parse_dd (by omega)]; rfl
  have l4 : (((Lib.itoa e.f0 :: wd e.f1 :: tk e :: Lib.splitK [32] 0 0 (Lib.itoa e.f3)).map B).length : Int) = 4 := rfl
  generalize hps : (Lib.itoa e.f0 :: wd e.f1 :: tk e :: Lib.splitK [32] 0 0 (Lib.itoa e.f3)).map B = ps at e0' e1' e2' e3' l4
  have hag := again_ev (bodyT e) hs e.f0 e.f1 e.f2 e.f3
  rw [decide_eq_true hm] at hag
  have hj : Ev (fun k => trace_event.j0 k (B (bodyT e)) ps e.f0 e.f3 false 0 e.f1 (-1) 0) (e.f0, e.f1, e.f2, e.f3, true) := by
    refine Ev.step (fun k => by rw [trace_event.j0]) (evn (by simp) (evp (by omega) ?_))
    rw [e2', B_list]
    by_cases c : e.f1 = 10
    · have h5 := h.2.2.2
      rw [if_pos c] at h5
      rw [h5] at hag
      rw [h5]
      exact evp (by unfold tk; rw [if_pos c]) hag
    · have h5 := h.2.2.2
      rw [if_neg c] at h5
      have htk : tk e = Lib.itoa e.f2 := by unfold tk; rw [if_neg c]
      rw [htk]
      refine evn (fun z => ?_) (evb (a := (e.f2, false)) ?_ (evn (by simp) hag))
      · have := it_isD h5.1 45 (by rw [z]; exact List.mem_singleton.mpr rfl)
        exact absurd this (by unfold isD; decide)
      · obtain ⟨m, hm2⟩ := Int.eq_ofNat_of_zero_le h5.1
        rw [hm2, itoa_nat, patoi_eq _ (by have := dd_len13 (n := m) (by omega); omega), atoi_dd (by omega)]; rfl
  refine evb rfl (evp l4 (evb rfl (evp (by omega) (evb (by rw [e1', index_eq, idx_wd h.2.2.1.1 h.2.2.1.2]) (evp (by omega) (evb (by rw [e0', p _ h.1.1 h.1.2]) (evp (by omega) (evb (by rw [e3', p _ h.2.1.1 h.2.1.2]) (evn (by simp) hj)))))))))
theorem is_no (a b c d : Int) : Ev (fun k => taskmasterref26_Is.j0 k true a b c d) false := Ev.step (fun k => by rw [taskmasterref26_Is.j0]) (evp rfl (Ev.now _))
theorem is_ev (e : En) : Ev (fun k => taskmasterref26_Is.f k e.f0 e.f1 e.f2 e.f3) (decide (okE e)) := by
  unfold taskmasterref26_Is.f
  by_cases h0 : e.f0 < 0
  · rw [decide_eq_false (fun x : okE e => by have := x.1.1; omega)]; exact evp h0 (is_no _ _ _ _)
  refine evn h0 ?_
  by_cases h1 : e.f0 > 1099511627776
  · rw [decide_eq_false (fun x : okE e => by have := x.1.2; omega)]; exact evp h1 (is_no _ _ _ _)
  refine evn h1 ?_
  by_cases h2 : e.f3 < 0
  · rw [decide_eq_false (fun x : okE e => by have := x.2.1.1; omega)]; exact evp h2 (is_no _ _ _ _)
  refine evn h2 ?_
  by_cases h3 : e.f3 > 1099511627776
  · rw [decide_eq_false (fun x : okE e => by have := x.2.1.2; omega)]; exact evp h3 (is_no _ _ _ _)
  refine evn h3 ?_
  by_cases h4 : e.f1 < 1
  · rw [decide_eq_false (fun x : okE e => by have := x.2.2.1.1; omega)]; exact evp h4 (is_no _ _ _ _)
  refine evn h4 ?_
  by_cases h5 : e.f1 > 10
  · rw [decide_eq_true h5, decide_eq_false (fun x : okE e => by have := x.2.2.1.2; omega)]; exact is_no _ _ _ _
  rw [decide_eq_false h5]
  refine Ev.step (fun k => by rw [taskmasterref26_Is.j0]) (evn (by simp) ?_)
  have hi : okE e ↔ (if e.f1 = 10 then e.f2 = -1 else 0 ≤ e.f2 ∧ e.f2 < 8) := ⟨fun x => x.2.2.2, fun x => ⟨⟨by omega, by omega⟩, ⟨by omega, by omega⟩, ⟨by omega, by omega⟩, x⟩⟩
  by_cases h6 : e.f1 = 10
  · refine evp h6 ?_
    rw [if_pos h6] at hi
    rw [decide_eq_decide.mpr hi]
    exact Ev.now _
  · refine evn h6 ?_
    rw [if_neg h6] at hi
    by_cases h7 : e.f2 ≥ 0
    · refine evp h7 ?_
      rw [decide_eq_decide.mpr (hi.trans (show (0 ≤ e.f2 ∧ e.f2 < 8) ↔ e.f2 < 8 from ⟨fun x => x.2, fun x => ⟨h7, x⟩⟩))]
      exact Ev.now _
    · rw [decide_eq_false (fun x => h7 (hi.mp x).1)]
      exact evn h7 (Ev.now _)
theorem dig_ev {n : Int} (h0 : 0 ≤ n) (h1 : n ≤ 1099511627776) : Ev (fun k => taskmasterref7_Digits.f k n) (B (Lib.itoa n)) := by
  obtain ⟨m, rfl⟩ := Int.eq_ofNat_of_zero_le h0
  rw [itoa_nat]; exact digits_ev m (by omega)
theorem rdE {l : List En} {i : Nat} (h : i < l.length) : l.drop i = rd_T44 l (i : Int) :: l.drop (i + 1) := by
  rw [List.drop_eq_getElem_cons h]
  unfold rd_T44
  rw [Int.toNat_natCast, List.getD_eq_getElem?_getD, List.getElem?_eq_getElem h]; rfl
theorem rtext_l0 (l : List En) (hl : l.length ≤ 100000) (d : Nat) : ∀ (i : Nat) (acc : List UInt8), i + d = l.length → acc.length ≤ 61 * i →
    (allE (l.drop i) → Ev (fun k => taskmasterref26_Text.l0 k l (B acc) (wordsL.map B) (i : Int)) (B (acc ++ flat (l.drop i)), true)) ∧ (¬ allE (l.drop i) → Ev (fun k => taskmasterref26_Text.l0 k l (B acc) (wordsL.map B) (i : Int)) (B [], false)) := by
  induction d with
  | zero =>
    intro i acc hi ha
    have hz : l.drop i = [] := List.drop_of_length_le (by omega)
    rw [hz]
    refine ⟨fun _ => Ev.step (fun k => by rw [taskmasterref26_Text.l0]) (evn (by omega) ?_), fun h => absurd (fun e he => by cases he) h⟩
    rw [show acc ++ flat [] = acc from List.append_nil acc]
    exact Ev.now _
  | succ d ih =>
    intro i acc hi ha
    have hil : i < l.length := by omega
    rw [rdE hil]
    generalize hx : rd_T44 l (i : Int) = x
    by_cases h : okE x
    · have hle := line_len h
      have ih := ih (i + 1) (acc ++ lineT x) (by omega) (by rw [List.length_append]; omega)
      have next : ∀ r, Ev (fun k => taskmasterref26_Text.l0 k l (B (acc ++ lineT x)) (wordsL.map B) ((i + 1 : Nat) : Int)) r → Ev (fun k => taskmasterref26_Text.l0 k l (B acc) (wordsL.map B) (i : Int)) r := fun r hr => by
        rw [← wi (by omega)] at hr
        have h1 := it_len13 h.1.1 h.1.2
        have h2 := it_len13 h.2.1.1 h.2.1.2
        have h3 := wd_len h.2.2.1.1 h.2.2.1.2
        have h4 := h.2.2.1
        have hw : rdOf ByteArray.empty (wordsL.map B) x.f1 = B (wd x.f1) := rd_map _ _
        have hlt : x.f1 < (((wordsL.map B).length : Nat) : Int) := by show x.f1 < 11; omega
        have hge : 0 ≤ x.f1 := by omega
        refine Ev.step (fun k => by rw [taskmasterref26_Text.l0]) (evp (by omega) (evp (by omega) ?_))
        rw [hx]
        have hi_ := is_ev x
        rw [decide_eq_true h] at hi_
        refine Ev.bind hi_ (evp rfl ?_)
        by_cases c : x.f1 = 10
        · refine evp c (Ev.bind (dig_ev h.1.1 h.1.2) ?_)
          simp only [hw, e32, e10, e45, B_app, B_size]
          refine evp (by (try simp only [List.length_append, List.length_cons, List.length_nil]); omega) (evp (by (try simp only [List.length_append, List.length_cons, List.length_nil]); omega) (evp hge (evp hlt (evp (by (try simp only [List.length_append, List.length_cons, List.length_nil]); omega) (evp (by (try simp only [List.length_append, List.length_cons, List.length_nil]); omega) (evp (by (try simp only [List.length_append, List.length_cons, List.length_nil]); omega) (evp (by (try simp only [List.length_append, List.length_cons, List.length_nil]); omega) (Ev.bind (dig_ev h.2.1.1 h.2.1.2) ?_))))))))
          simp only [B_app, B_size]
          refine evp (by (try simp only [List.length_append, List.length_cons, List.length_nil]); omega) (evp (by (try simp only [List.length_append, List.length_cons, List.length_nil]); omega) ?_)
          have e_ : ((((((((acc ++ Lib.itoa x.f0) ++ [32]) ++ wd x.f1) ++ [32]) ++ [45]) ++ [32]) ++ Lib.itoa x.f3) ++ [10]) = acc ++ lineT x := by simp [lineT, bodyT, tk, c]
          rw [e_]; exact hr
        · have h5 := h.2.2.2
          rw [if_neg c] at h5
          have h6 := it_len13 h5.1 (by omega)
          refine evn c (Ev.bind (dig_ev h5.1 (by omega)) (Ev.bind (dig_ev h.1.1 h.1.2) ?_))
          simp only [hw, e32, e10, e45, B_app, B_size]
          refine evp (by (try simp only [List.length_append, List.length_cons, List.length_nil]); omega) (evp (by (try simp only [List.length_append, List.length_cons, List.length_nil]); omega) (evp hge (evp hlt (evp (by (try simp only [List.length_append, List.length_cons, List.length_nil]); omega) (evp (by (try simp only [List.length_append, List.length_cons, List.length_nil]); omega) (evp (by (try simp only [List.length_append, List.length_cons, List.length_nil]); omega) (evp (by (try simp only [List.length_append, List.length_cons, List.length_nil]); omega) (Ev.bind (dig_ev h.2.1.1 h.2.1.2) ?_))))))))
          simp only [B_app, B_size]
          refine evp (by (try simp only [List.length_append, List.length_cons, List.length_nil]); omega) (evp (by (try simp only [List.length_append, List.length_cons, List.length_nil]); omega) ?_)
          have e_ : ((((((((acc ++ Lib.itoa x.f0) ++ [32]) ++ wd x.f1) ++ [32]) ++ Lib.itoa x.f2) ++ [32]) ++ Lib.itoa x.f3) ++ [10]) = acc ++ lineT x := by simp [lineT, bodyT, tk, c]
          rw [e_]; exact hr
      refine ⟨fun ha => ?_, fun ha => ?_⟩
      · have := next _ (ih.1 (fun y hy => ha y (List.mem_cons_of_mem _ hy)))
        rw [flat_cons, ← List.append_assoc]; exact this
      · exact next _ (ih.2 (fun z => ha (fun y hy => by
          rcases List.mem_cons.mp hy with rfl | hy
          · exact h
          · exact z y hy)))
    · refine ⟨fun ha => absurd (ha x List.mem_cons_self) h, fun _ => ?_⟩
      refine Ev.step (fun k => by rw [taskmasterref26_Text.l0]) (evp (by omega) (evp (by omega) ?_))
      rw [hx]
      have hi_ := is_ev x
      rw [decide_eq_false h] at hi_
      exact Ev.bind hi_ (evn (by simp) (Ev.now _))
theorem rtext_ev (l : List En) (hl : l.length ≤ 100000) : (allE l → Ev (fun k => taskmasterref26_Text.f k l) (B (flat l), true)) ∧ (¬ allE l → Ev (fun k => taskmasterref26_Text.f k l) (B [], false)) := by
  have h := rtext_l0 l hl l.length 0 [] (by omega) (by simp)
  rw [List.drop_zero] at h
  unfold taskmasterref26_Text.f
  exact ⟨fun ha => evb rwords_eq (h.1 ha), fun ha => evb rwords_eq (h.2 ha)⟩
theorem parts_word : ∀ (a r : List UInt8) (o : List ByteArray) (k : Nat), (32 : UInt8) ∉ a → k < o.length → partsL (a ++ r) o k = partsL r (o.set k (o.getD k ByteArray.empty ++ B a)) k
  | [], r, o, k, _, hk => by
    have e : o.getD k ByteArray.empty ++ B [] = o.getD k ByteArray.empty := by
      have : ∀ x : ByteArray, x ++ B [] = x := fun x => by rw [B_of x, B_app, List.append_nil]
      exact this _
    rw [e, List.nil_append]
    congr 1
    rw [List.getD_eq_getElem?_getD, List.getElem?_eq_getElem hk]
    exact (List.set_getElem_self hk).symm
  | c :: a, r, o, k, h, hk => by
    have hc : c ≠ 32 := fun e => h (by rw [e]; exact List.mem_cons_self)
    rw [List.cons_append, partsL, if_neg hc, parts_word a r _ k (fun z => h (List.mem_cons_of_mem _ z)) (by rw [List.length_set]; exact hk)]
    congr 1
    rw [List.set_set]
    congr 1
    have e1 : (o.set k (o.getD k ByteArray.empty ++ ⟨#[c]⟩)).getD k ByteArray.empty = o.getD k ByteArray.empty ++ ⟨#[c]⟩ := by
      rw [List.getD_eq_getElem?_getD, List.getElem?_set_self hk]; rfl
    rw [e1]
    have e2 : (⟨#[c]⟩ : ByteArray) = B [c] := rfl
    rw [e2, B_of (o.getD k ByteArray.empty), B_app, B_app, B_app]
    simp
theorem parts_next (r : List UInt8) (o : List ByteArray) (k : Nat) (h : k < 3) : partsL (32 :: r) o k = partsL r o (k + 1) := by
  rw [partsL, if_pos rfl, if_neg (by omega)]
theorem parts_body {e : En} (h : okE e) : taskmasterref26_parts.f (B (bodyT e)) = some (B (Lib.itoa e.f0), B (wd e.f1), B (tk e), B (Lib.itoa e.f3), true) := by
  have h1 := not_d (it_isD h.1.1) (show (32 : UInt8).toNat < 48 by decide)
  have h2 := not_d (it_isD h.2.1.1) (show (32 : UInt8).toNat < 48 by decide)
  have h3 := wd_not h.2.2.1.1 h.2.2.1.2 (show (32 : UInt8).toNat < 45 by decide)
  have h4 := tk_not h (show (32 : UInt8).toNat < 45 by decide)
  have hl := body_len h
  have em : ∀ x : List UInt8, ByteArray.empty ++ B x = B x := fun x => by rw [show ByteArray.empty = B [] from rfl, B_app, List.nil_append]
  have hp : partsL (bodyT e) (List.replicate 4 ByteArray.empty) 0 = ([B (Lib.itoa e.f0), B (wd e.f1), B (tk e), B (Lib.itoa e.f3)], true) := by
    unfold bodyT
    rw [parts_word _ _ _ 0 h1 (by decide), parts_next _ _ 0 (by decide), parts_word _ _ _ 1 h3 (by simp), parts_next _ _ 1 (by decide), parts_word _ _ _ 2 h4 (by simp), parts_next _ _ 2 (by decide)]
    have hz := parts_word (Lib.itoa e.f3) [] ((((List.replicate 4 ByteArray.empty).set 0 ((List.replicate 4 ByteArray.empty).getD 0 ByteArray.empty ++ B (Lib.itoa e.f0))).set (0 + 1) (((List.replicate 4 ByteArray.empty).set 0 ((List.replicate 4 ByteArray.empty).getD 0 ByteArray.empty ++ B (Lib.itoa e.f0))).getD (0 + 1) ByteArray.empty ++ B (wd e.f1))).set (1 + 1) ((((List.replicate 4 ByteArray.empty).set 0 ((List.replicate 4 ByteArray.empty).getD 0 ByteArray.empty ++ B (Lib.itoa e.f0))).set (0 + 1) (((List.replicate 4 ByteArray.empty).set 0 ((List.replicate 4 ByteArray.empty).getD 0 ByteArray.empty ++ B (Lib.itoa e.f0))).getD (0 + 1) ByteArray.empty ++ B (wd e.f1))).getD (1 + 1) ByteArray.empty ++ B (tk e))) (2 + 1) h2 (by simp)
    rw [List.append_nil] at hz
    refine hz.trans ?_
    rw [partsL]
    show ([ByteArray.empty ++ B (Lib.itoa e.f0), ByteArray.empty ++ B (wd e.f1), ByteArray.empty ++ B (tk e), ByteArray.empty ++ B (Lib.itoa e.f3)], true) = _
    rw [em, em, em, em]
  unfold taskmasterref26_parts.f
  rw [if_pos (by rw [B_size]; omega), B_data, hp]
theorem loop_ev {e : En} (h : okE e) (q : Bool) (x0 x2 x3 : ByteArray) (a c d : Int) (m : Nat) : ∀ (i : Nat) (v : Int), i + m = 11 → 1 ≤ i → (e.f1 < i → v = e.f1) → Ev (fun k => taskmasterref26_line.l0 k q (wordsL.map B) (i : Int) x0 (B (wd e.f1)) x2 x3 a v c d) (a, e.f1, c, d, q) := by
  induction m with
  | zero =>
    intro i v hi h1 hv
    have h4 := h.2.2.1
    rw [hv (by omega)]
    exact Ev.step (fun k => by rw [taskmasterref26_line.l0]) (evn (show ¬ (i : Int) < (((wordsL.map B).length : Nat) : Int) by show ¬ (i : Int) < 11; omega) (Ev.now _))
  | succ m ih =>
    intro i v hi h1 hv
    have h4 := h.2.2.1
    have hlt : (i : Int) < (((wordsL.map B).length : Nat) : Int) := by show (i : Int) < 11; omega
    have hw : rdOf ByteArray.empty (wordsL.map B) (i : Int) = B (wd (i : Int)) := rd_map _ _
    by_cases c1 : (i : Int) = e.f1
    · have next := ih (i + 1) (i : Int) (by omega) (by omega) (fun _ => c1)
      rw [← wi (by omega)] at next
      exact Ev.step (fun k => by rw [taskmasterref26_line.l0]) (evp hlt (evp (by omega) (evp (by rw [hw, c1]) next)))
    · have next := ih (i + 1) v (by omega) (by omega) (fun z => hv (by omega))
      rw [← wi (by omega)] at next
      exact Ev.step (fun k => by rw [taskmasterref26_line.l0]) (evp hlt (evp (by omega) (evn (by rw [hw, B_list, B_list]; exact fun z => c1 (wd_inj (by omega) (by omega) h4.1 h4.2 z)) next)))
theorem rline_whole {e : En} (h : okE e) : Ev (fun k => taskmasterref26_line.f k (B (bodyT e))) (e.f0, e.f1, e.f2, e.f3, true) := by
  have h4 := h.2.2.1
  have num : ∀ n : Int, 0 ≤ n → n ≤ 1099511627776 → Ev (fun k => taskmasterref26_number.f k (B (Lib.itoa n))) n := fun n h0 h1 => by
    obtain ⟨m, rfl⟩ := Int.eq_ofNat_of_zero_le h0
    rw [itoa_nat]; exact number_ev (by omega)
  have hj : ∀ c, Ev (fun k => taskmasterref26_line.j0 k true (B (Lib.itoa e.f0)) (B (wd e.f1)) (B (tk e)) (B (Lib.itoa e.f3)) e.f0 0 c e.f3) (e.f0, e.f1, c, e.f3, true) := fun c =>
    Ev.step (fun k => by rw [taskmasterref26_line.j0]) (evb rwords_eq (loop_ev h true _ _ _ _ _ _ 10 1 0 (by omega) (by omega) (fun z => absurd z (by omega))))
  unfold taskmasterref26_line.f
  refine evb (parts_body h) (Ev.bind (num _ h.1.1 h.1.2) (Ev.bind (num _ h.2.1.1 h.2.1.2) ?_))
  by_cases c : e.f1 = 10
  · have h5 := h.2.2.2
    rw [if_pos c] at h5
    rw [h5]
    exact evp (by show (B (tk e)).toList = _; rw [B_list]; unfold tk; rw [if_pos c]) (hj (-1))
  · have h5 := h.2.2.2
    rw [if_neg c] at h5
    have htk : tk e = Lib.itoa e.f2 := by unfold tk; rw [if_neg c]
    refine evn (by
      show ¬ (B (tk e)).toList = _
      rw [B_list, htk]
      intro z
      have := it_isD h5.1 45 (by rw [z]; exact List.mem_singleton.mpr rfl)
      exact absurd this (by unfold isD; decide)) (Ev.bind (a := e.f2) ?_ (hj e.f2))
    show Ev (fun k => taskmasterref26_number.f k (B (tk e))) e.f2
    rw [htk]
    exact num _ h5.1 (by omega)
theorem loop_some (q : Bool) (x0 x1 x2 x3 : ByteArray) (a c d : Int) (m : Nat) : ∀ (i : Nat) (v : Int), i + m = 11 → ∃ r, Ev (fun k => taskmasterref26_line.l0 k q (wordsL.map B) (i : Int) x0 x1 x2 x3 a v c d) r := by
  induction m with
  | zero =>
    intro i v hi
    exact ⟨_, Ev.step (fun k => by rw [taskmasterref26_line.l0]) (evn (show ¬ (i : Int) < (((wordsL.map B).length : Nat) : Int) by show ¬ (i : Int) < 11; omega) (Ev.now _))⟩
  | succ m ih =>
    intro i v hi
    have hlt : (i : Int) < (((wordsL.map B).length : Nat) : Int) := by show (i : Int) < 11; omega
    by_cases c1 : (rdOf ByteArray.empty (wordsL.map B) (i : Int)).toList = x1.toList
    · obtain ⟨r, next⟩ := ih (i + 1) (i : Int) (by omega)
      rw [← wi (by omega)] at next
      exact ⟨r, Ev.step (fun k => by rw [taskmasterref26_line.l0]) (evp hlt (evp (by omega) (evp c1 next)))⟩
    · obtain ⟨r, next⟩ := ih (i + 1) v (by omega)
      rw [← wi (by omega)] at next
      exact ⟨r, Ev.step (fun k => by rw [taskmasterref26_line.l0]) (evp hlt (evp (by omega) (evn c1 next)))⟩
theorem parts_size : ∀ (s : List UInt8) (o : List ByteArray) (k n : Nat), (∀ x ∈ o, x.size ≤ n) → ∀ x ∈ (partsL s o k).1, x.size ≤ n + s.length
  | [], o, k, n, h, x, hx => by rw [partsL] at hx; exact h x hx
  | b :: s, o, k, n, h, x, hx => by
    rw [List.length_cons]
    rw [partsL] at hx
    split at hx
    · split at hx
      · have := h x hx; omega
      · have := parts_size s o (k + 1) n h x hx; omega
    · have := parts_size s _ k (n + 1) (fun y hy => by
        rcases List.mem_or_eq_of_mem_set hy with hy | rfl
        · have := h y hy; omega
        · rw [ByteArray.size_append]
          have e1 : (⟨#[b]⟩ : ByteArray).size = 1 := rfl
          rw [e1]
          have : (o.getD k ByteArray.empty).size ≤ n := by
            rw [List.getD_eq_getElem?_getD]
            cases hk : o[k]? with
            | none => exact Nat.zero_le _
            | some z => exact h z (List.mem_of_getElem? hk)
          omega) x hx
      omega
theorem rline_some (s : List UInt8) (hs : s.length ≤ 20000) : ∃ r, Ev (fun k => taskmasterref26_line.f k (B s)) r := by
  have hlen := partsL_len s (List.replicate 4 ByteArray.empty) 0
  have hsz := parts_size s (List.replicate 4 ByteArray.empty) 0 0 (fun x hx => by rw [List.eq_of_mem_replicate hx]; exact Nat.zero_le _)
  obtain ⟨o, b⟩ : List ByteArray × Bool := partsL s (List.replicate 4 ByteArray.empty) 0
  have hp : ∃ y0 y1 y2 y3 b, partsL s (List.replicate 4 ByteArray.empty) 0 = ([y0, y1, y2, y3], b) := by
    generalize hq : partsL s (List.replicate 4 ByteArray.empty) 0 = z at hlen
    obtain ⟨o, b⟩ := z
    match o, hlen with
    | [y0, y1, y2, y3], _ => exact ⟨y0, y1, y2, y3, b, rfl⟩
  obtain ⟨y0, y1, y2, y3, b, hp⟩ := hp
  rw [hp] at hsz
  have hf : taskmasterref26_parts.f (B s) = some (y0, y1, y2, y3, b) := by
    unfold taskmasterref26_parts.f
    rw [if_pos (by rw [B_size]; omega), B_data, hp]
  have num : ∀ y ∈ [y0, y1, y2, y3], ∃ r, Ev (fun k => taskmasterref26_number.f k y) r := fun y hy => by
    have := hsz y hy
    rw [B_of y]
    exact number_some _ (by rw [size_of]; omega)
  obtain ⟨n0, h0⟩ := num y0 (by simp)
  obtain ⟨n2, h2⟩ := num y2 (by simp)
  obtain ⟨n3, h3⟩ := num y3 (by simp)
  have hj : ∀ c, ∃ r, Ev (fun k => taskmasterref26_line.j0 k b y0 y1 y2 y3 n0 0 c n3) r := fun c => by
    obtain ⟨r, hr⟩ := loop_some b y0 y1 y2 y3 n0 c n3 10 1 0 (by omega)
    exact ⟨r, Ev.step (fun k => by rw [taskmasterref26_line.j0]) (evb rwords_eq hr)⟩
  unfold taskmasterref26_line.f
  by_cases c : y2.toList = ([45] : List UInt8)
  · obtain ⟨r, hr⟩ := hj (-1)
    exact ⟨r, evb hf (Ev.bind h0 (Ev.bind h3 (evp c hr)))⟩
  · obtain ⟨r, hr⟩ := hj n2
    exact ⟨r, evb hf (Ev.bind h0 (Ev.bind h3 (evn c (Ev.bind h2 hr))))⟩
def Canon (l : List En) (s : List UInt8) : Prop := allE l ∧ s = flat l
theorem flat_cons' (e : En) (l : List En) : flat (e :: l) = bodyT e ++ 10 :: flat l := by rw [flat_cons, lineT, List.append_assoc]; rfl
theorem canon_nil {s : List UInt8} (h : Canon [] s) : s = [] := h.2
theorem canon_cons {l : List En} {a r : List UInt8} (hn : (10 : UInt8) ∉ a) (h : Canon l (a ++ 10 :: r)) : ∃ e l', l = e :: l' ∧ okE e ∧ a = bodyT e ∧ Canon l' r := by
  cases l with
  | nil => have := canon_nil h; simp at this
  | cons e l' =>
    have he := h.1 e List.mem_cons_self
    have h2 := h.2
    rw [flat_cons'] at h2
    obtain ⟨h3, h4⟩ := cut_uniq hn (body_not10 he) h2
    exact ⟨e, l', rfl, he, h3, fun x hx => h.1 x (List.mem_cons_of_mem _ hx), h4⟩
theorem canon_no {l : List En} {s : List UInt8} (hs : s ≠ []) (hn : (10 : UInt8) ∉ s) : ¬ Canon l s := fun h => by
  cases l with
  | nil => exact hs (canon_nil h)
  | cons e l' =>
    have h2 := h.2
    rw [flat_cons'] at h2
    exact hn (by rw [h2]; simp)
theorem cut_eq (s : List UInt8) (h : s.length ≤ 20000) : strings_Cut.f (B s) (⟨#[10]⟩ : ByteArray) = some (B (Lib.cut s [10]).1, B (Lib.cut s [10]).2.1, (Lib.cut s [10]).2.2) := by
  unfold strings_Cut.f
  rw [if_pos (by rw [B_size]; omega)]; rfl
theorem read_l0 : ∀ (n : Nat) (s : List UInt8) (acc : List En), s.length ≤ n → n ≤ 20000 → acc.length + n ≤ 100000 →
    (∃ l, Canon l s ∧ Ev (fun k => trace_Read.l0 k (B s) acc) (acc ++ l, true)) ∨ ((∀ l, ¬ Canon l s) ∧ Ev (fun k => trace_Read.l0 k (B s) acc) ([], false)) := by
  intro n
  induction n with
  | zero =>
    intro s acc hs _ _
    have hz : s = [] := List.length_eq_zero_iff.mp (by omega)
    subst hz
    exact Or.inl ⟨[], ⟨fun e he => (by cases he), rfl⟩, Ev.step (fun k => by rw [trace_Read.l0]) (evp (B_list []) (by rw [List.append_nil]; exact Ev.now _))⟩
  | succ n ih =>
    intro s acc hs hn ha
    by_cases hz : s = []
    · subst hz
      exact Or.inl ⟨[], ⟨fun e he => (by cases he), rfl⟩, Ev.step (fun k => by rw [trace_Read.l0]) (evp (B_list []) (by rw [List.append_nil]; exact Ev.now _))⟩
    have hz' : ¬ (B s).toList = ([] : List UInt8) := by rw [B_list]; exact hz
    by_cases h10 : (10 : UInt8) ∈ s
    · obtain ⟨a, r, rfl, hna⟩ := has_cut s 10 h10
      rw [List.length_append, List.length_cons] at hs
      have hcut := cut_eq (a ++ 10 :: r) (by rw [List.length_append, List.length_cons]; omega)
      rw [cut_at hna] at hcut
      obtain ⟨x0, x1, x2, x3, q, hev, hq⟩ := event_sound a (by omega)
      cases q with
      | true =>
        obtain ⟨hok, hb⟩ := hq rfl
        have step : ∀ z, Ev (fun k => trace_Read.l0 k (B r) (acc ++ [⟨x0, x1, x2, x3⟩])) z → Ev (fun k => trace_Read.l0 k (B (a ++ 10 :: r)) acc) z := fun z hz =>
          Ev.step (fun k => by rw [trace_Read.l0]) (evn hz' (evb hcut (evp rfl (Ev.bind hev (evp (show (x0, x1, x2, x3, true).2.2.2.2 = true from rfl) (evp (show acc.length < 4398046511104 by omega) hz))))))
        rcases ih r (acc ++ [⟨x0, x1, x2, x3⟩]) (by omega) (by omega) (by rw [List.length_append]; simp; omega) with ⟨l, hl, he⟩ | ⟨hno, he⟩
        · refine Or.inl ⟨⟨x0, x1, x2, x3⟩ :: l, ⟨fun x hx => ?_, ?_⟩, ?_⟩
          · rcases List.mem_cons.mp hx with rfl | hx
            · exact hok
            · exact hl.1 x hx
          · rw [flat_cons', ← hb, ← hl.2]
          · have := step _ he
            rw [List.append_assoc] at this
            exact this
        · refine Or.inr ⟨fun l hl => ?_, step _ he⟩
          obtain ⟨e, l', _, _, _, hr⟩ := canon_cons hna hl
          exact hno l' hr
      | false =>
        have hfin : Ev (fun k => trace_Read.l0 k (B (a ++ 10 :: r)) acc) ([], false) := by
          refine Ev.step (fun k => by rw [trace_Read.l0]) (evn hz' (evb hcut (evp rfl ?_)))
          refine Ev.bind hev ?_
          refine evn Bool.false_ne_true ?_
          exact Ev.now _
        refine Or.inr ⟨fun l hl => ?_, hfin⟩
        obtain ⟨e, l', _, hok, hb, _⟩ := canon_cons hna hl
        subst hb
        have := ev_uniq hev (event_whole hok)
        simp at this
    · have hcut := cut_eq s (by omega)
      rw [cut_no h10] at hcut
      exact Or.inr ⟨fun l => canon_no hz h10, Ev.step (fun k => by rw [trace_Read.l0]) (evn hz' (evb hcut (evn Bool.false_ne_true (Ev.now _))))⟩
theorem read_ev (s : List UInt8) (hs : s.length ≤ 20000) : (∃ l, Canon l s ∧ Ev (fun k => trace_Read.f k (B s)) (l, true)) ∨ ((∀ l, ¬ Canon l s) ∧ Ev (fun k => trace_Read.f k (B s)) ([], false)) := by
  have h := read_l0 s.length s [] (Nat.le_refl _) hs (by simp; omega)
  simp only [List.nil_append] at h
  exact h
theorem rread_end (s : List UInt8) (acc : List En) (p i : Nat) (hi : s.length ≤ i) (ha : acc.length ≤ 100000) : (Canon acc s → Ev (fun k => taskmasterref26_Read.l0 k (B s) acc (p : Int) (i : Int)) (acc, true)) ∧ (¬ Canon acc s → Ev (fun k => taskmasterref26_Read.l0 k (B s) acc (p : Int) (i : Int)) ([], false)) := by
  have ht := rtext_ev acc ha
  refine ⟨fun h => ?_, fun h => ?_⟩
  · refine Ev.step (fun k => by rw [taskmasterref26_Read.l0]) (evn (by rw [B_size]; omega) (Ev.bind (ht.1 h.1) (evp rfl (evp ?_ (Ev.now _)))))
    show (B (flat acc)).toList = (B s).toList
    rw [← h.2]
  · by_cases hok : allE acc
    · refine Ev.step (fun k => by rw [taskmasterref26_Read.l0]) (evn (by rw [B_size]; omega) (Ev.bind (ht.1 hok) (evp rfl (evn ?_ (Ev.now _)))))
      show ¬ (B (flat acc)).toList = (B s).toList
      rw [B_list, B_list]
      exact fun z => h ⟨hok, z.symm⟩
    · exact Ev.step (fun k => by rw [taskmasterref26_Read.l0]) (evn (by rw [B_size]; omega) (Ev.bind (ht.2 hok) (evn Bool.false_ne_true (Ev.now _))))
theorem rread_sound (s : List UInt8) (hs : s.length ≤ 20000) (d : Nat) : ∀ (i p : Nat) (acc : List En), i + d = s.length → p ≤ i → acc.length ≤ i → ∃ r, Ev (fun k => taskmasterref26_Read.l0 k (B s) acc (p : Int) (i : Int)) r ∧ (r.2 = true → Canon r.1 s) ∧ (r.2 = false → r.1 = []) := by
  induction d with
  | zero =>
    intro i p acc hi hp ha
    have he := rread_end s acc p i (by omega) (by omega)
    by_cases h : Canon acc s
    · exact ⟨_, he.1 h, fun _ => h, fun z => by cases z⟩
    · exact ⟨_, he.2 h, fun z => (by cases z), fun _ => rfl⟩
  | succ d ih =>
    intro i p acc hi hp ha
    by_cases c : bt (B s) (i : Int) = 10
    · have e : (B s).extract (p : Int).toNat (i : Int).toNat = B ((s.drop p).take (i - p)) := by rw [Int.toNat_natCast, Int.toNat_natCast, ext_B]
      obtain ⟨⟨x0, x1, x2, x3, q⟩, hr⟩ := rline_some ((s.drop p).take (i - p)) (by rw [List.length_take]; omega)
      rw [← e] at hr
      cases q with
      | true =>
        obtain ⟨r, h1, h2⟩ := ih (i + 1) (i + 1) (acc ++ [⟨x0, x1, x2, x3⟩]) (by omega) (Nat.le_refl _) (by rw [List.length_append]; simp; omega)
        rw [← wi (by omega)] at h1
        exact ⟨r, Ev.step (fun k => by rw [taskmasterref26_Read.l0]) (evp (by rw [B_size]; omega) (evp (by omega) (evp c (evp (by omega) (evp (by omega) (evp (by rw [B_size]; omega) (Ev.bind hr (evp (show (x0, x1, x2, x3, true).2.2.2.2 = true from rfl) (evp (show acc.length < 4398046511104 by omega) h1))))))))), h2⟩
      | false =>
        exact ⟨([], false), Ev.step (fun k => by rw [taskmasterref26_Read.l0]) (evp (by rw [B_size]; omega) (evp (by omega) (evp c (evp (by omega) (evp (by omega) (evp (by rw [B_size]; omega) (Ev.bind hr (evn Bool.false_ne_true (Ev.now _))))))))), fun z => (by cases z), fun _ => rfl⟩
    · obtain ⟨r, h1, h2⟩ := ih (i + 1) p acc (by omega) (by omega) (by omega)
      rw [← wi (by omega)] at h1
      exact ⟨r, Ev.step (fun k => by rw [taskmasterref26_Read.l0]) (evp (by rw [B_size]; omega) (evp (by omega) (evn c h1))), h2⟩
theorem scan (s : List UInt8) (hs : s.length ≤ 20000) (acc : List En) (p n : Nat) (hn : p + n ≤ s.length) (h10 : ∀ j (hj : j < s.length), p ≤ j → j < p + n → s[j] ≠ 10) {r : List En × Bool} (h : Ev (fun k => taskmasterref26_Read.l0 k (B s) acc (p : Int) ((p + n : Nat) : Int)) r) (d : Nat) : ∀ i, i + d = p + n → p ≤ i → Ev (fun k => taskmasterref26_Read.l0 k (B s) acc (p : Int) (i : Int)) r := by
  induction d with
  | zero => intro i hi _; rw [show i = p + n by omega]; exact h
  | succ d ih =>
    intro i hi hp
    have next := ih (i + 1) (by omega) (by omega)
    rw [← wi (by omega)] at next
    have hil : i < s.length := by omega
    refine Ev.step (fun k => by rw [taskmasterref26_Read.l0]) (evp (by rw [B_size]; omega) (evp (by omega) (evn ?_ next)))
    rw [bt_B s i hil]
    intro z
    exact h10 i hil hp (by omega) (UInt8.toNat_inj.1 (by rw [n10]; omega))
theorem rread_whole (s : List UInt8) (hs : s.length ≤ 20000) {r : List En × Bool} : ∀ (l : List En) (p : Nat) (acc : List En), allE l → s.drop p = flat l → p ≤ s.length → acc.length ≤ p → (∀ a : List En, a = acc ++ l → Ev (fun k => taskmasterref26_Read.l0 k (B s) a (s.length : Int) (s.length : Int)) r) → Ev (fun k => taskmasterref26_Read.l0 k (B s) acc (p : Int) (p : Int)) r
  | [], p, acc, _, hd, hp, _, h => by
    have hz : p = s.length := by
      have := congrArg List.length hd
      rw [List.length_drop] at this
      simp [flat] at this
      omega
    rw [hz]
    exact h acc (List.append_nil acc).symm
  | e :: l, p, acc, hl, hd, hp, ha, h => by
    have he := hl e List.mem_cons_self
    rw [flat_cons'] at hd
    have hlen := congrArg List.length hd
    rw [List.length_drop, List.length_append, List.length_cons] at hlen
    have hget : ∀ j (hj : p + j < s.length), s[p + j] = (bodyT e ++ 10 :: flat l)[j]'(by rw [← hd, List.length_drop]; omega) := fun j hj => by
      have := List.getElem_drop (xs := s) (i := p) (j := j) (h := by rw [List.length_drop]; omega)
      rw [← this]
      congr 1
    have hnext : s.drop (p + (bodyT e).length + 1) = flat l := by
      rw [Nat.add_assoc, ← List.drop_drop, hd, List.drop_append]
      simp
    have more := rread_whole s hs l (p + (bodyT e).length + 1) (acc ++ [e]) (fun x hx => hl x (List.mem_cons_of_mem _ hx)) hnext (by omega) (by rw [List.length_append]; simp; omega) (fun a ha' => h a (by rw [ha', List.append_assoc]; rfl))
    rw [← wi (by omega)] at more
    have hx : (B s).extract (p : Int).toNat ((p + (bodyT e).length : Nat) : Int).toNat = B (bodyT e) := by
      rw [Int.toNat_natCast, Int.toNat_natCast, ext_B, hd, show p + (bodyT e).length - p = (bodyT e).length by omega, List.take_left']
      rfl
    have hw := rline_whole he
    rw [← hx] at hw
    have h10 : bt (B s) ((p + (bodyT e).length : Nat) : Int) = 10 := by
      rw [bt_B s _ (by omega), hget (bodyT e).length (by omega)]
      simp
    refine scan s hs acc p (bodyT e).length (by omega) (fun j hj h1 h2 => ?_) ?_ (bodyT e).length p rfl (Nat.le_refl _)
    · obtain ⟨m, rfl⟩ : ∃ m, j = p + m := ⟨j - p, by omega⟩
      rw [hget m hj, List.getElem_append_left (by omega)]
      exact fun z => body_not10 he (by rw [← z]; exact List.getElem_mem _)
    · exact Ev.step (fun k => by rw [taskmasterref26_Read.l0]) (evp (by rw [B_size]; omega) (evp (by omega) (evp h10 (evp (by omega) (evp (by omega) (evp (by rw [B_size]; omega) (Ev.bind hw (evp (show (e.f0, e.f1, e.f2, e.f3, true).2.2.2.2 = true from rfl) (evp (show acc.length < 4398046511104 by omega) more)))))))))
theorem rread_ev (s : List UInt8) (hs : s.length ≤ 20000) : ∃ r, Ev (fun k => taskmasterref26_Read.f k (B s)) r ∧ (r.2 = true → Canon r.1 s) ∧ (r.2 = false → r.1 = []) := rread_sound s hs s.length 0 0 [] (by omega) (Nat.le_refl _) (Nat.zero_le _)
theorem flat_ge : ∀ {l : List En}, allE l → l.length ≤ (flat l).length
  | [], _ => Nat.zero_le _
  | e :: l, h => by
    have := flat_ge (l := l) (fun x hx => h x (List.mem_cons_of_mem _ hx))
    rw [flat_cons', List.length_append, List.length_cons, List.length_cons]; omega
theorem rread_canon {l : List En} {s : List UInt8} (hs : s.length ≤ 20000) (h : Canon l s) : Ev (fun k => taskmasterref26_Read.f k (B s)) (l, true) := by
  have hl := flat_ge h.1
  rw [← h.2] at hl
  exact rread_whole s hs l 0 [] h.1 h.2 (Nat.zero_le _) (Nat.zero_le _) (fun a ha => by
    rw [ha, List.nil_append]
    exact (rread_end s l s.length s.length (Nat.le_refl _) (by omega)).1 h)
theorem same_l0 (l : List En) (hl : l.length ≤ 100000) (d : Nat) : ∀ i, i + d = l.length → Ev (fun k => taskmasterref25_Same.l0 k l l (i : Int)) true := by
  induction d with
  | zero => intro i hi; exact Ev.step (fun k => by rw [taskmasterref25_Same.l0]) (evn (by omega) (Ev.now _))
  | succ d ih =>
    intro i hi
    have next := ih (i + 1) (by omega)
    rw [← wi (by omega)] at next
    exact Ev.step (fun k => by rw [taskmasterref25_Same.l0]) (evp (by omega) (evp (by omega) (evp (by omega) (evn (by simp) next))))
theorem same_ev (l : List En) (hl : l.length ≤ 100000) : Ev (fun k => taskmasterref25_Same.f k l l) true := by
  unfold taskmasterref25_Same.f
  exact evp rfl (same_l0 l hl l.length 0 (by omega))
theorem it_small {n : Nat} (h : n < 10) : Lib.itoa (n : Int) = [UInt8.ofNat (48 + n)] := by rw [itoa_nat, Lib.decDigits_one h]
theorem known_eq : taskmasterlaw26_known.f = some true := by
  have h : allE [⟨3, 4, 1, 0⟩] := fun e he => by
    rw [List.mem_singleton.mp he]
    exact ⟨⟨by decide, by decide⟩, ⟨by decide, by decide⟩, ⟨by decide, by decide⟩, by decide⟩
  have e3 : Lib.itoa 3 = [51] := it_small (n := 3) (by decide)
  have e1 : Lib.itoa 1 = [49] := it_small (n := 1) (by decide)
  have e0_ : Lib.itoa 0 = [48] := it_small (n := 0) (by decide)
  have hf : flat [⟨3, 4, 1, 0⟩] = [51, 32, 115, 116, 97, 114, 116, 32, 49, 32, 48, 10] := by
    rw [flat_cons']
    unfold bodyT tk
    rw [if_neg (by decide)]
    simp only [e3, e1, e0_]
    rfl
  unfold taskmasterlaw26_known.f
  rw [(text_eq [⟨3, 4, 1, 0⟩] (by decide)).1 h]
  simp only [Option.bind_some]
  rw [if_pos trivial, B_list, hf]
  rfl
end Go.Proofs.YtkdndgclldlddaaDoor.Pure
namespace Go.Proofs.YtkdndgclldlddaaDoor.QTr
open Go.RowKit Go.Proofs.YtkdndgclldlddaaDoorW.PrintWords Go.Proofs.YtkdndgclldlddaaDoorW.PrintLast Go.Proofs.YtkdndgclldlddaaDoorW.PrintMore
attribute [local go_sem] max2_int min2_int max_two min_two max_three min_three max_four min_four
set_option linter.unusedVariables false
set_option linter.unusedSimpArgs false

end Go.Proofs.YtkdndgclldlddaaDoor.QTr
namespace Go.Proofs.YtkdndgclldlddaaDoor.Open
open Go.RowKit Go.Proofs.YtkdndgclldlddaaDoorW.PrintWords Go.Proofs.YtkdndgclldlddaaDoorW.PrintLast Go.WideShapes
set_option linter.unusedVariables false
structure Opens (P : Program) {α : Type} (k : Kd α) (t : TypeId) (W : α → Prop) : Prop where
  out : ∀ {H : Type} {enc : TypeId × Value → H} {w : World} {base : Nat} {spare : Nat → Bool} {held : Bool} {fuel : Nat} {cs : List Value} {x : DataW H × List MemPlace},
    DataW.trod enc P w base spare held fuel t cs = some x → ∃ a : α, k.K w a cs ∧ W a
structure OpensFrom (P : Program) (fs : Array Field) (i : Nat) (off : Nat) {α : Type} (k : Kd α) (W : α → Prop) : Prop where
  out : ∀ {H : Type} {enc : TypeId × Value → H} {w : World} {base : Nat} {spare : Nat → Bool} {held : Bool} {n : Nat} {cs : List Value} {xs : List (DataW H × List MemPlace)},
    xs.length = fs.size → cs.length = off + k.sz →
    (∀ (j : Nat) (f : Field), fs[j]? = some f → DataW.trod enc P w base spare held n f.type ((cs.drop f.offset).take (P.cellsOf f.type)) = xs[j]?) → ∃ a : α, k.K w a (cs.drop off) ∧ W a
end Go.Proofs.YtkdndgclldlddaaDoor.Open
namespace Go.Proofs.YtkdndgclldlddaaDoor.QTr
open Go.RowKit Go.Proofs.YtkdndgclldlddaaDoorW.PrintWords Go.Proofs.YtkdndgclldlddaaDoorW.PrintLast Go.Proofs.YtkdndgclldlddaaDoor.Open
set_option linter.unusedVariables false
instance : Inhabited S44 := ⟨z44⟩
end Go.Proofs.YtkdndgclldlddaaDoor.QTr
namespace Go.Proofs.YtkdndgclldlddaaDoor.Pure
open Go.RowKit Go.Proofs.YtkdndgclldlddaaDoor.QTr Go.Proofs.YtkdndgclldlddaaDoorW.PrintWords Go.Proofs.YtkdndgclldlddaaDoorW.PrintLast Go.Proofs.YtkdndgclldlddaaDoorW.PrintMore
set_option linter.unusedVariables false
set_option linter.unusedSimpArgs false
theorem TraceReads (a0 : ByteArray) (w0 : a0.size ≤ 140737488351232) : ∃ k : Nat, taskmasterlaw26_TraceReads.f k a0 = some true := by
  refine Ev.rounds ?_
  unfold taskmasterlaw26_TraceReads.f
  by_cases c : (a0.size : Int) > 2000
  · exact evp c (Ev.now _)
  refine evn c ?_
  have hs : a0.data.toList.length ≤ 2000 := by rw [size_of]; omega
  rw [B_of a0]
  generalize a0.data.toList = s at hs
  rcases read_ev s (by omega) with ⟨l, hl, he⟩ | ⟨hno, he⟩
  · have hle := flat_ge hl.1
    rw [← hl.2] at hle
    refine Ev.bind he (Ev.bind (rread_canon (by omega) hl) (Ev.bind (same_ev l (by omega)) (evp rfl (evp ?_ (evb known_eq (Ev.now _))))))
    rfl
  · obtain ⟨⟨r1, r2⟩, hr, h1, h2⟩ := rread_ev s (by omega)
    cases r2 with
    | true => exact absurd (h1 rfl) (hno r1)
    | false =>
      have hz : r1 = [] := h2 rfl
      subst hz
      refine Ev.bind he (Ev.bind hr (Ev.bind (same_ev [] (by simp)) (evp rfl (evp ?_ (evb known_eq (Ev.now _))))))
      rfl
end Go.Proofs.YtkdndgclldlddaaDoor.Pure
namespace Go.Proofs.YtkdndgclldlddaaDoor.QTr
open Go.RowKit
set_option linter.unusedVariables false
theorem returnsInHanded_and_shaped {H : Type} {enc : TypeId × Value → H} {a : Assume} {C : Checked} {os : Os} {f : FuncId} {fn : Func} {s : ChangeSpec} {conds : List PathCond} {apart fresh handsOn again : Bool} {X : World → Array Value → Prop}
    (hX : ∀ (w w' : World) (args : Array Value), w.heap = w'.heap → X w args → X w' args)
    (own : ownKnob C.prog.godebug = none) (started : os.Started) (noInit : C.prog.inits.idxOf? f = none) (hfn : C.prog.funcs[f]? = some fn)
    (witness : ∃ (w : World) (tape : Tape) (i : Input), w.os = os ∧ (w.forCall tape i).Shaped C.prog ∧ i.vars = [] ∧ Input.okWide C.prog (w.forCall tape i) .any w.heap.size f i ∧
      ((s.pre enc C.prog fn conds apart (w.forCall tape i).memory i.args ∧ X (w.forCall tape i).memory i.args) ∧ sizedMet enc C.prog fn (OpenSpec.ofChange s) apart (w.forCall tape i).memory i.args) ∧ a.holds C.prog (lone (Frame.enter C.prog f i.args .normal) [] (w.forCall tape i)))
    (contract : ∀ (W : World) (base : Nat) (args : Array Value) (ds gs : List (DataW H)) (before : List MemPlace),
      (∀ (j : Nat) t v, fn.params[j]? = some t → args[j]? = some v → Value.okWide C.prog W .any base t v) →
      DataW.Whole enc C.prog fn.params.toList s.vars apart W args.toList ds gs before →
      conds.all (PathCond.test C.prog ⟨fn.params.toList, ds, s.plain.varTypes C.prog, gs⟩) = true →
      (DataW.weightsEach C.prog (fn.params.toList ++ s.plain.varTypes C.prog) (ds ++ gs)).all (· ≤ reachBytes) = true → X W args → W.ShapedOpen C.prog →
      a.holds C.prog (lone (Frame.enter C.prog f args .normal) [] W) →
      Calls C.prog f args W fun e W' => ∃ v, e = .returned v ∧ s.post enc C.prog fn apart fresh handsOn again W args v W') :
    ReturnsInHanded a C os f .any (fun w args => (s.pre enc C.prog fn conds apart w args ∧ X w args) ∧ sizedMet enc C.prog fn (OpenSpec.ofChange s) apart w args) (s.post enc C.prog fn apart fresh handsOn again) := by
  refine returnsInHanded_of_calls own started noInit witness ?_
  intro w tape i _ hsh _ hok hpre hholds
  obtain ⟨_, _, _, fn', hfn', _, _, _, _, hval⟩ := hok
  have e : fn' = fn := Option.some.inj (hfn'.symm.trans hfn)
  subst e
  obtain ⟨⟨⟨ds, gs, before, hw, hc⟩, hx⟩, hz⟩ := hpre
  have hw' := DataW.Whole.of_heap (w' := w.forCall tape i) (by rfl) hw
  refine (contract (w.forCall tape i) w.heap.size i.args ds gs before hval hw' hc (hz.weights hw) (hX _ _ _ (by rfl) hx) hsh hholds).mono fun e W' ⟨v, he, hp⟩ => ?_
  subst he
  exact ChangeSpec.post_blind hp
abbrev laidL : List (String × DataW Unit) := [("math/bits.deBruijn32tab", Rows.laid_math_bits_deBruijn32tab), ("math/bits.deBruijn64tab", Rows.laid_math_bits_deBruijn64tab), ("internal/strconv.uint64pow10", Rows.laid_internal_strconv_uint64pow10), ("unicode/utf8.acceptRanges", Rows.laid_unicode_utf8_acceptRanges), ("strconv.ErrRange", Rows.laid_strconv_ErrRange), ("strconv.ErrSyntax", Rows.laid_strconv_ErrSyntax), ("unicode/utf8.first", Rows.laid_unicode_utf8_first)]
theorem vars_tail {W : World} {x : String × DataW Unit} {r : List (String × DataW Unit)} {ps : List MemPlace} (h : DataW.LaidVars Tryd.prog W (x :: r) ps) : ∃ q, DataW.LaidVars Tryd.prog W r q := by
  obtain ⟨_, _, _, _, _, q, _, _, _, _, h2, _⟩ := h
  exact ⟨q, h2⟩
theorem tab_of_vars {W : World} {name : String} {k : IntKind} {zs : List Int} {rest : List (String × DataW Unit)} {ps : List MemPlace} {g : Nat} {t e : TypeId} {n : Nat}
    (hg : Tryd.prog.globalNamed name = some g) (hty : (Tryd.prog.globals[g]?).map (·.type) = some t) (ht : Tryd.prog.underlying t = some (.array n e)) (he : Tryd.prog.underlying e = some (.int k)) (hce : Tryd.prog.cellsOf e = 1) (hct : Tryd.prog.cellsOf t = n)
    (h : DataW.LaidVars Tryd.prog W ((name, Lib.tabData k zs) :: rest) ps) : Lib.TabIs Tryd.prog W name k zs := by
  obtain ⟨g', t', cs, fuel, p, q, hg', ht', hvar, hd, _, _⟩ := h
  obtain rfl := Option.some.inj (hg.symm.trans hg')
  obtain rfl := Option.some.inj (hty.symm.trans ht')
  unfold Lib.TabIs
  rw [hvar, ← Lib.cells_of_tab ht he hce hct hd]
theorem iface_of_vars {W : World} {name nm : String} {d : DataW Unit} {rest : List (String × DataW Unit)} {ps : List MemPlace} {g : Nat} {t : TypeId} {ms : Array (String × TypeId)}
    (hg : Tryd.prog.globalNamed name = some g) (hty : (Tryd.prog.globals[g]?).map (·.type) = some t) (ht : Tryd.prog.underlying t = some (.interface ms))
    (h : DataW.LaidVars Tryd.prog W ((name, .iface nm d) :: rest) ps) : ∃ te pe, W.cell? ⟨g, 0, none⟩ = some (.iface te pe) := by
  obtain ⟨g', t', cs, fuel, p, q, hg', ht', hvar, hd, _, _⟩ := h
  obtain rfl := Option.some.inj (hg.symm.trans hg')
  obtain rfl := Option.some.inj (hty.symm.trans ht')
  have hc := World.var?_cell hg hvar 0
  obtain ⟨l⟩ := cs
  have hl : ∃ te pe, l = [.iface te pe] := by
    cases fuel with
    | zero => simp [DataW.trod] at hd
    | succ fuel =>
      rcases l with _ | ⟨x, _ | ⟨y, r⟩⟩
      · simp [DataW.trod, ht] at hd
      · cases x <;> first | exact ⟨_, _, rfl⟩ | (simp [DataW.trod, ht] at hd)
      · simp [DataW.trod, ht] at hd
  obtain ⟨te, pe, rfl⟩ := hl
  exact ⟨te, pe, by rw [hc]; rfl⟩
theorem gSyn : Tryd.prog.globalNamed "strconv.ErrSyntax" = some 3 := by kernel_rfl
theorem gRan : Tryd.prog.globalNamed "strconv.ErrRange" = some 4 := by kernel_rfl
theorem tSyn : (Tryd.prog.globals[3]?).map (·.type) = some 78 := by kernel_rfl
theorem tRan : (Tryd.prog.globals[4]?).map (·.type) = some 78 := by kernel_rfl
theorem pow_eq : (Rows.laid_internal_strconv_uint64pow10 : DataW Unit) = Lib.tabData .u64 Lib.pow10Tab := by rfl
theorem tPow : (Tryd.prog.globals[2]?).map (·.type) = some 130 := by kernel_rfl
theorem tab_of_laid {W : World} (h : laidMetH Tryd.prog laidL W) (hsh : W.ShapedOpen Tryd.prog) : TabW W := by
  rw [MakeChecks.laidMetH_plain _ _ _ (by kernel_rfl)] at h
  obtain ⟨ps, hv, _⟩ := h
  obtain ⟨q1, h1⟩ := vars_tail hv
  obtain ⟨q2, h2⟩ := vars_tail h1
  obtain ⟨q3, h3⟩ := vars_tail h2
  obtain ⟨q4, h4⟩ := vars_tail h3
  obtain ⟨q5, h5⟩ := vars_tail h4
  rw [pow_eq] at h2
  exact ⟨tab_of_vars (e := 28) (n := 20) gPow tPow (by kernel_rfl) (by kernel_rfl) (by kernel_rfl) (by kernel_rfl) h2,
    cell_of_shapedOpen_int (P := Tryd.prog) (g := 1) (t := 3) (zero := #[.int .i64 0]) hsh (of_decide_eq_true (by kernel_rfl)) (by kernel_rfl) rfl (by kernel_rfl) (by kernel_rfl) Tryd.underlying3,
    iface_of_vars gSyn tSyn Tryd.underlying78 h5, iface_of_vars gRan tRan Tryd.underlying78 h4⟩
theorem door_met (os : Os) (args : Array Value) : laidMetH Tryd.prog laidL ((World.laidAll Tryd.prog os laidL).forCall (fun _ _ => 0) ⟨#[], args, []⟩).memory := by
  rw [MakeChecks.laidMetH_plain _ _ _ (by kernel_rfl)]
  exact laidMet_laidAll _ (by kernel_rfl) (by kernel_rfl)
end Go.Proofs.YtkdndgclldlddaaDoor.QTr
namespace Go.Proofs.YtkdndgclldlddaaDoor.traceReads
open Go.ChangeShapes Go.WideShapes Go.ChangeAt Go.RowKit
open Go.ChangeMaps (open_string shut_string)
open Go.Proofs.YtkdndgclldlddaaDoorW.PrintWords Go.Proofs.YtkdndgclldlddaaDoorW.PrintLast Go.Proofs.YtkdndgclldlddaaDoor.QTr Go.Proofs.YtkdndgclldlddaaDoor.Open
set_option linter.unusedVariables false
theorem own : ownKnob Tryd.prog.godebug = none := by kernel_rfl
set_option maxRecDepth 100000 in
theorem lifted (os : Os) (started : os.Started) (H : Type) (enc : TypeId × Value → H) :
    ReturnsInHanded {} Tryd.checked os 7 .any (fun w args => (Rows.traceReadsSpec.pre enc Tryd.prog Tryd.f7 [] false w args ∧ laidMetH Tryd.prog laidL w) ∧ sizedMet enc Tryd.prog Tryd.f7 (OpenSpec.ofChange Rows.traceReadsSpec) false w args) (Rows.traceReadsSpec.post enc Tryd.prog Tryd.f7 false true false false) := by
  refine returnsInHanded_and_shaped (C := Tryd.checked) (X := fun w _ => laidMetH Tryd.prog laidL w) (fun _ _ _ hh h => h.of_heap hh) own started (by kernel_rfl) Tryd.func7
    (ChangeSpec.witness_shaped (enc := enc) (C := Tryd.checked) (os := os) (X := fun w _ => laidMetH Tryd.prog laidL w) false (World.laidAll Tryd.prog os laidL) #[.string ByteArray.empty] 8 (World.laidAll_os _ _ _) (World.shaped_of_ZipB (by kernel_rfl) (by kernel_rfl)) (by kernel_rfl) (by kernel_rfl) (by kernel_rfl) (door_met os _)) ?_
  intro W base args ds gs before hval0 hW hcnd hsz0 hL hShp _
  have hTab := tab_of_laid hL hShp
  clear hL hShp
  have hsz : (DataW.weightsEach Tryd.prog (Tryd.f7.params.toList ++ Rows.traceReadsSpec.plain.varTypes Tryd.prog) (ds ++ gs)).all (· ≤ reachBytes) = true := hsz0
  have hval : ∀ (j : Nat) t v, Tryd.f7.params[j]? = some t → args[j]? = some v → Value.okWide Tryd.prog W .any base t v := hval0
  have hW' := hW
  obtain ⟨p, q, hA0, hV, rfl, hfz, hnd⟩ := hW
  have hA : DataW.TrodAll enc Tryd.prog W 0 (fun _ => true) true Tryd.f7.params.toList args.toList ds p := hA0
  rw [Tryd.params7] at hA hval hsz
  obtain ⟨v0, vs0, d0, ds0, p0, q0, hargs, rfl, rfl, h0, r0⟩ := trodAll_cons hA
  obtain ⟨rfl, rfl, rfl⟩ := trodAll_nil r0
  obtain rfl : args = #[v0] := by cases args; simp_all
  obtain ⟨rfl, rfl⟩ := trodVars_none hV
  obtain ⟨a0, rfl, rfl, rfl, y0⟩ := open_string Tryd.underlying9 (hval 0 9 v0 rfl rfl) h0
  have w0 : a0.size ≤ 140737488351232 := by
    have z := sized_string hsz (j := 0) (t := 9) rfl rfl
    rw [Array.length_toList] at z
    exact z
  clear hA0 hval0 hsz0 hsz
  obtain ⟨k, hk⟩ := Pure.TraceReads a0 w0
  refine (taskmasterlaw26_TraceReads.calls (w := W) (h := hk) (hT := hTab) ).mono fun e W' ⟨he, bel0⟩ => ?_
  have bel : Below W.heap.size W W' := bel0
  subst he
  exact ⟨_, rfl, _, _, _, [], _, [], hW', trodAll_mk1 (shut_bool Tryd.underlying4 _), (trodAll_cons_mk (shut_string Tryd.underlying9 y0) trodAll_mk0), rfl, bel.frame _, fun h => by cases h⟩
theorem over : Rows.traceReadsRow.holds Tryd.pinned (OpenSpec.ofChange Rows.traceReadsSpec) :=
  OpenClaim.holds_of_wide 7 Tryd.f7 rfl rfl rfl rfl rfl rfl rfl ⟨rfl, rfl, rfl, rfl, rfl⟩ rfl rfl rfl rfl rfl (by kernel_rfl) Tryd.func7 (by kernel_rfl)
    (of_decide_eq_true (by kernel_rfl)) (by unfold Func.isWrapper; first | (rw [if_pos (by decide +kernel)]; kernel_rfl) | (rw [if_neg (by decide +kernel)]; exact ⟨rfl, rfl⟩))
    (fun os started H enc _ => lifted os started H enc)
theorem proved : Rows.TraceReadsSaid := over
end Go.Proofs.YtkdndgclldlddaaDoor.traceReads
namespace Go.Proofs.YtkdndgclldlddaaDoor
theorem traceReads_holds : Rows.TraceReadsCardSaid :=
  Claim7.holds_tied_plain_at .later [] [.data, .data, .data, .data, .sentinel, .sentinel, .pinned] true Rows.traceReadsCard.stood.harness Rows.traceReadsCard.stood.looks
    traceReads.proved (fun _ h => by cases h) (by kernel_rfl) (fun _ h => by cases h) traceReads_row_tie rfl ⟨rfl, rfl⟩ (by kernel_rfl) rfl
    (fun f fn hf hfn => by
      obtain rfl : f = 7 := Option.some.inj ((show Tryd.prog.funcNamed "taskmaster/taskmasterlaw26.TraceReads" = some 7 by kernel_rfl).symm.trans hf) |>.symm
      obtain rfl : fn = Tryd.f7 := (Option.some.inj (Tryd.func7.symm.trans hfn)).symm
      exact ⟨by kernel_rfl, fun j t ht => by
        rw [Tryd.params7] at ht
        have hm : t ∈ [9] := by simpa using Array.mem_of_getElem? ht
        have hall : ([9].all fun u => !Tryd.prog.wantsStandIn u) = true := by kernel_rfl
        exact (show Tryd.prog.wantsStandIn t = false by simpa using List.all_eq_true.1 hall t hm)⟩)
    (by kernel_rfl)
end Go.Proofs.YtkdndgclldlddaaDoor

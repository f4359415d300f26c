/- What is proved: contracts and plain facts on the way to the row RowRespLess,RowRespWork,RowRespBusy, and, in the last text, the row itself; conditions as each theorem names them. -/
import Derived.Test.YtllnlmcofaomlaaRows
import Derived.WalkKit
import Derived.ProofKit
import Derived.OpenShut
import Derived.ShutString
import Derived.ChangeOld
import Derived.Below
import Derived.SizedLaws
import Derived.Test.YtllnlmcofaomlaaSkRespB1
import Derived.Test.YtllnlmcofaomlaaSkRespB2
import Derived.Test.YtllnlmcofaomlaaSkRespB3
import Derived.Test.YtllnlmcofaomlaaSkRespB4
import Derived.Test.YtllnlmcofaomlaaSkRespB5
namespace Go.Proofs.Ytllnlmcofaomlaa.QAc
open Go.RowKit Go.Proofs.YtllnlmcofaomlaaW.PrintWords Go.Proofs.YtllnlmcofaomlaaW.PrintLast Go.Proofs.YtllnlmcofaomlaaW.PrintMore
attribute [local go_sem] max2_int min2_int max_two min_two max_three min_three max_four min_four   -- for this text's walks alone
set_option linter.unusedVariables false
set_option linter.unusedSimpArgs false
def taskmasterref8_Work.f (k : Nat) (a0_0 : Int) (l0_1 : List (S38)) (a1 : Int) : Option (Int) := if 0 ≤ a1 then (if a1 < (l0_1.length : Int) then ((taskmasterref5_Work.f k ((rd_T38 l0_1 a1).f0) ((rd_T38 l0_1 a1).f1) ((rd_T38 l0_1 a1).f2) ((rd_T38 l0_1 a1).f3) ((rd_T38 l0_1 a1).f4) ((rd_T38 l0_1 a1).f5) ((rd_T38 l0_1 a1).f6) ((rd_T38 l0_1 a1).f7) ((rd_T38 l0_1 a1).f8)).bind fun t211 => (some t211)) else (none)) else (none)
set_option maxHeartbeats 8000000 in
set_option maxRecDepth 100000 in
theorem taskmasterref8_Work.calls (k : Nat) (a0_0 : Int) (A0_1 : Option Addr) (c0_1 : Nat) (l0_1 : List (S38)) (a1 : Int) (r : Int) (w : World) (hr0_1 : Kd.C k38 w A0_1 l0_1.length l0_1) (hc0_1 : l0_1.length ≤ c0_1) (h : taskmasterref8_Work.f k a0_0 l0_1 a1 = some r) :
    Calls Try.prog 19 #[.agg #[.int .i64 a0_0, .slice A0_1 l0_1.length c0_1], .int .i64 a1] w fun e w' => e = .returned (.int .i64 r) ∧ Below w.heap.size w w' := by
  have hu24 := Try.underlying24
  have hu38 := Try.underlying38
  have HR0_1 := Aside0.mk hr0_1
  have HC0_1 := Aside0.mk hc0_1
  clear hr0_1 hc0_1
  have HB := Aside0.mk (Below.refl w.heap.size w)
  have H : (if 0 ≤ a1 then (if a1 < (l0_1.length : Int) then ((taskmasterref5_Work.f k ((rd_T38 l0_1 a1).f0) ((rd_T38 l0_1 a1).f1) ((rd_T38 l0_1 a1).f2) ((rd_T38 l0_1 a1).f3) ((rd_T38 l0_1 a1).f4) ((rd_T38 l0_1 a1).f5) ((rd_T38 l0_1 a1).f6) ((rd_T38 l0_1 a1).f7) ((rd_T38 l0_1 a1).f8)).bind fun t211 => (some t211)) else (none)) else (none)) = some r := h
  clear h
  by_cases c3 : 0 ≤ a1
  · rw [if_pos c3] at H
    have c3b0 : decide (0 ≤ a1) = true := decide_eq_true c3
    clear c3
    by_cases c4 : a1 < (l0_1.length : Int)
    · rw [if_pos c4] at H
      have c4b0 : decide (a1 < (l0_1.length : Int)) = true := decide_eq_true c4
      clear c4
      replace H := Option.bind_eq_some_iff.mp H
      obtain ⟨t211, A50, H⟩ := H
      replace H : (some t211) = some r := H
      have A5 := Aside0.mk A50
      clear A50
      obtain rfl := Option.some.inj H
      go_enter Try.func19, Try.ntmps19
      go_wp2_with (first | ((with_reducible refine gate_dst (N := 2) rfl ?_); refine box_event ?hg (N := 2) ?hd (cs := #[.int .i64 a0_0, .slice A0_1 l0_1.length c0_1]) (t := 24) ?hr ?_; (case hd => rfl); (case hg => rfl); (case hr => first | (go_simp; done) | (go_simp; rfl)); intro gb209 hg w6 hbox hb; have n0_ := Aside0.mk (below_step (by repeat (first | (with_reducible first | exact HB.out | apply below_alloc | apply pw_below_drewN | apply below_drew1) | exact HB.out)) hb); have n1_ := Aside0.mk (hbox); have n2_ := Aside0.mk ((by rw [hg]; exact (below_size (by repeat (first | (with_reducible first | exact HB.out | apply below_alloc | apply pw_below_drewN | apply below_drew1) | exact HB.out))) : w.heap.size ≤ gb209)); have n3_ := Aside0.mk ((by rw [hg]; exact (below_size (by repeat (first | (with_reducible first | exact HB.out | apply below_alloc | apply pw_below_drewN | apply below_drew1) | exact HB.out))) : w.heap.size ≤ gb209)); clear HB; have HB := n0_; have BK209 := n1_; have GW209 := n2_; have GE209 := n3_; clear n0_ n1_ n2_ n3_; clear hb hbox hg; have hcz7_0 : w6.cell? ⟨gb209, 0, none⟩ = some (.int .i64 a0_0) := (blk_cell BK209.out 0).trans rfl; have hcz7_1 : w6.cell? ⟨gb209, 1, none⟩ = some (.slice A0_1 l0_1.length c0_1) := (blk_cell BK209.out 1).trans rfl; have hfz7_0 := blk_frozen BK209.out 0; have hfz7_1 := blk_frozen BK209.out 1; have p210 : 0 ≤ (a1 : Int) := of_decide_eq_true (by first | (with_reducible assumption) | assumption); have q210 : a1 < (l0_1.length : Int) := of_decide_eq_true (by first | (with_reducible assumption) | assumption); obtain ⟨ad210, A210_6, c210_6, e210, hx210_0, hx210_1, hx210_2, hx210_3, hx210_4, hx210_5, hx210_6, hx210_7, hx210_8, hl210_6, hi210_6⟩ := at_T38 HR0_1.out a1 p210 q210; cases e210; replace hx210_0 := (HB.out.cell (World.block_lt_of_cell? w _ hx210_0)).trans hx210_0; replace hx210_1 := (HB.out.cell (World.block_lt_of_cell? w _ hx210_1)).trans hx210_1; replace hx210_2 := (HB.out.cell (World.block_lt_of_cell? w _ hx210_2)).trans hx210_2; replace hx210_3 := (HB.out.cell (World.block_lt_of_cell? w _ hx210_3)).trans hx210_3; replace hx210_4 := (HB.out.cell (World.block_lt_of_cell? w _ hx210_4)).trans hx210_4; replace hx210_5 := (HB.out.cell (World.block_lt_of_cell? w _ hx210_5)).trans hx210_5; replace hx210_6 := (HB.out.cell (World.block_lt_of_cell? w _ hx210_6)).trans hx210_6; replace hx210_7 := (HB.out.cell (World.block_lt_of_cell? w _ hx210_7)).trans hx210_7; replace hx210_8 := (HB.out.cell (World.block_lt_of_cell? w _ hx210_8)).trans hx210_8; have HR210_6 := Aside0.mk hi210_6; have HC210_6 := Aside0.mk hl210_6; clear hi210_6 hl210_6; replace p210 := eq_true p210; replace q210 := eq_true q210) | ((with_reducible refine gate_callee (f := 35) rfl ?_); refine goesL_ (some 10) rfl rfl Try.func35 (by kernel_rfl) rfl #[.agg #[.string ((rd_T38 l0_1 a1).f0), .int .i64 ((rd_T38 l0_1 a1).f1), .int .i64 ((rd_T38 l0_1 a1).f2), .int .i64 ((rd_T38 l0_1 a1).f3), .int .i64 ((rd_T38 l0_1 a1).f4), .int .i64 ((rd_T38 l0_1 a1).f5), .slice A210_6 ((rd_T38 l0_1 a1).f6).length c210_6, .int .u64 ((rd_T38 l0_1 a1).f7), .int .u64 ((rd_T38 l0_1 a1).f8)]] rfl (by (try simp only [List.map_toArray, List.map_cons, List.map_nil]); first | done | rfl | (simp only [List.length_drop, List.length_take]; rfl)) ?_; (with_reducible refine (taskmasterref5_Work.calls k ((rd_T38 l0_1 a1).f0) ((rd_T38 l0_1 a1).f1) ((rd_T38 l0_1 a1).f2) ((rd_T38 l0_1 a1).f3) ((rd_T38 l0_1 a1).f4) ((rd_T38 l0_1 a1).f5) _ _ ((rd_T38 l0_1 a1).f6) ((rd_T38 l0_1 a1).f7) ((rd_T38 l0_1 a1).f8) t211 _ ?side1 ?side2 A5.out).mono ?_); (case side1 => repeat (first | exact (Kd.C_below HR210_6.out HB.out) | (with_reducible refine Kd.C_alloc ?_ _) | (with_reducible refine Kd.C_drewN ?_ _) | (with_reducible refine Kd.C_drew ?_))); (case side2 => exact HC210_6.out); rintro e w8 ⟨rfl, hb⟩; refine ⟨_, rfl, ?_⟩; have n0_ := Aside0.mk (blk_below (g := gb209) (o := .cells #[.int .i64 a0_0, .slice (some ad210) l0_1.length c0_1] 24 (0, 0)) (by (with_reducible repeat (first | refine blk_drewN ?_ _ | refine blk_drew ?_ | refine blk_alloc ?_ _)); exact BK209.out) hb); have n1_ := Aside0.mk (below_step (by repeat (first | (with_reducible first | exact HB.out | apply below_alloc | apply pw_below_drewN | apply below_drew1 | refine below_set ?_ GE209.out) | exact HB.out)) hb); clear BK209; clear HB; have BK209 := n0_; have HB := n1_; clear n0_ n1_; (try clear hb); (try clear hb2); (try clear hk); (try clear hi)))
      go_ret
      exact ⟨by first | rfl | (simp [errW_none, errW_some] <;> rfl) | (simp [*, errW_none, errW_some] <;> rfl), by repeat (first | (with_reducible first | exact HB.out | apply below_alloc | apply pw_below_drewN | apply below_drew1 | refine below_set ?_ GE209.out) | exact HB.out)⟩
    · rw [if_neg c4] at H
      exact absurd H (by simp)
  · rw [if_neg c3] at H
    exact absurd H (by simp)
end Go.Proofs.Ytllnlmcofaomlaa.QAc
namespace Go.Proofs.Ytllnlmcofaomlaa.QAc
open Go.RowKit Go.Proofs.YtllnlmcofaomlaaW.PrintWords Go.Proofs.YtllnlmcofaomlaaW.PrintLast Go.Proofs.YtllnlmcofaomlaaW.PrintMore
attribute [local go_sem] max2_int min2_int max_two min_two max_three min_three max_four min_four   -- for this text's walks alone
set_option linter.unusedVariables false
set_option linter.unusedSimpArgs false
end Go.Proofs.Ytllnlmcofaomlaa.QAc
namespace Go.Proofs.Ytllnlmcofaomlaa.QAc
open Go.RowKit Go.Proofs.YtllnlmcofaomlaaW.PrintWords Go.Proofs.YtllnlmcofaomlaaW.PrintLast Go.Proofs.YtllnlmcofaomlaaW.PrintMore
attribute [local go_sem] max2_int min2_int max_two min_two max_three min_three max_four min_four   -- for this text's walks alone
set_option linter.unusedVariables false
set_option linter.unusedSimpArgs false
end Go.Proofs.Ytllnlmcofaomlaa.QAc
namespace Go.Proofs.Ytllnlmcofaomlaa.QAc
open Go.RowKit Go.Proofs.YtllnlmcofaomlaaW.PrintWords Go.Proofs.YtllnlmcofaomlaaW.PrintLast Go.Proofs.YtllnlmcofaomlaaW.PrintMore
attribute [local go_sem] max2_int min2_int max_two min_two max_three min_three max_four min_four   -- for this text's walks alone
set_option linter.unusedVariables false
set_option linter.unusedSimpArgs false
end Go.Proofs.Ytllnlmcofaomlaa.QAc
namespace Go.Proofs.Ytllnlmcofaomlaa.QAc
open Go.RowKit Go.Proofs.YtllnlmcofaomlaaW.PrintWords Go.Proofs.YtllnlmcofaomlaaW.PrintLast Go.Proofs.YtllnlmcofaomlaaW.PrintMore
attribute [local go_sem] max2_int min2_int max_two min_two max_three min_three max_four min_four   -- for this text's walks alone
set_option linter.unusedVariables false
set_option linter.unusedSimpArgs false
end Go.Proofs.Ytllnlmcofaomlaa.QAc
namespace Go.Proofs.Ytllnlmcofaomlaa.ActivePure
open Go.RowKit Go.Proofs.Ytllnlmcofaomlaa.QAc Go.Proofs.YtllnlmcofaomlaaW.PrintWords Go.Proofs.YtllnlmcofaomlaaW.PrintLast Go.Proofs.YtllnlmcofaomlaaW.PrintMore Go.Proofs.Ytllnlmcofaomlaa.RefSet Go.Proofs.Ytllnlmcofaomlaa.BitsPure Go.Proofs.Ytllnlmcofaomlaa.BitsMath Go.Proofs.Ytllnlmcofaomlaa.AgainPure Go.Proofs.Ytllnlmcofaomlaa.FixMath
open Go.Proofs.Ytllnlmcofaomlaa.FixPure (prs leastV sumV prs_length rleast_eq may_eq rsum_eq)
set_option linter.unusedVariables false
theorem wi {i : Nat} (h : i ≤ 1000000) : wrap64 ((i : Int) + 1) = ((i + 1 : Nat) : Int) := w64 (by omega) (by omega)
theorem rwork_ev {r : Int} {l : List S38} (hok : SetOK r l) {i : Int} (h0 : 0 ≤ i) (h1 : i < (l.length : Int)) : Ev (fun k => taskmasterref8_Work.f k r l i) (sum (rd_T38 l i).f6) := by
  have hx := hok.2.2.2.2 i h0 h1
  unfold taskmasterref8_Work.f
  exact evp h0 (evp h1 (Ev.bind ⟨9, fun k hk => work_eq _ _ _ _ _ _ _ _ _ hx.2.1 hx.2.2.2.1 k (by omega)⟩ (Ev.now _)))
def workV (l : List S38) (j : Int) : Int := sum (rd_T38 l j).f6
theorem workV_in {r : Int} {l : List S38} (hok : SetOK r l) {j : Int} (h0 : 0 ≤ j) (h1 : j < (l.length : Int)) : 1 ≤ workV l j ∧ workV l j ≤ 80000 := by
  have hx := hok.2.2.2.2 j h0 h1
  have := sum_bound hx.2.2.2.1
  have h1 := hx.1
  have h8 := hx.2.1
  unfold workV; omega
theorem time_in {r : Int} {l : List S38} (hok : SetOK r l) {j : Int} (h0 : 0 ≤ j) (h1 : j < (l.length : Int)) : 1 ≤ (rd_T38 l j).f1 ∧ (rd_T38 l j).f1 ≤ 10000 ∧ workV l j ≤ (rd_T38 l j).f2 ∧ (rd_T38 l j).f2 ≤ (rd_T38 l j).f1 := by
  have hx := hok.2.2.2.2 j h0 h1
  have hw := workV_in hok h0 h1
  have h5 : workV l j ≤ (rd_T38 l j).f2 := hx.2.2.2.2.1
  have h6 := hx.2.2.2.2.2.1
  have h7 := hx.2.2.2.2.2.2.1
  omega
def loadV (r : Int) (l : List S38) (j : Nat) : S41 := ⟨(rd_T38 l (j : Int)).f1, workV l (j : Int) + madeV r l (j : Int)⟩
def loadsF (r : Int) (l : List S38) : Nat → Nat → List S41
  | 0, _ => []
  | d + 1, j => loadV r l j :: loadsF r l d (j + 1)
theorem loadsF_length (r : Int) (l : List S38) : ∀ d j, (loadsF r l d j).length = d
  | 0, _ => rfl
  | d + 1, j => by unfold loadsF; rw [List.length_cons, loadsF_length r l d]
theorem twork_at {r : Int} {l : List S38} (hok : SetOK r l) {j : Int} (h0 : 0 ≤ j) (h1 : j < (l.length : Int)) : Ev (fun k => task_Work.f k (rd_T38 l j).f0 (rd_T38 l j).f1 (rd_T38 l j).f2 (rd_T38 l j).f3 (rd_T38 l j).f4 (rd_T38 l j).f5 (rd_T38 l j).f6 (rd_T38 l j).f7 (rd_T38 l j).f8) (workV l j) := by
  have hx := hok.2.2.2.2 j h0 h1
  exact BlockPure.twork_ev _ _ _ _ _ _ _ _ hx.2.1 hx.2.2.2.1
theorem cost_ev {r : Int} {l : List S38} (hok : SetOK r l) (hS : SetsOK l) {j : Int} (h0 : 0 ≤ j) (h1 : j < (l.length : Int)) : Ev (fun k => again_Cost.f k r l j) ((CostBase.fo (workV l j), CostBase.fo (madeV r l j)), true) := by
  have hw := workV_in hok h0 h1
  have hm := madeV_in hok.1 hok.2.1 l j
  unfold again_Cost.f
  refine evb (is_at r l j) ?_
  refine evp (decide_eq_true ⟨h0, h1⟩) ?_
  refine evp h0 (evp h1 (Ev.bind (twork_at hok h0 h1) (Ev.bind (made_ev hS (by have := hok.2.2.2.1; omega) j) ?_)))
  have e : CostBase.ofV (workV l j) (madeV r l j) = ((CostBase.fo (workV l j), CostBase.fo (madeV r l j)), true) := by
    unfold CostBase.ofV; rw [if_pos ⟨CostBase.isT_iff.mpr ⟨by omega, by omega⟩, CostBase.isT_iff.mpr ⟨by omega, by omega⟩⟩]
  have h := CostBase.of_eq (workV l j) (madeV r l j)
  rw [e] at h
  exact evb h (Ev.now _)
theorem total_at {r : Int} {l : List S38} (hok : SetOK r l) {j : Int} (h0 : 0 ≤ j) (h1 : j < (l.length : Int)) : cost_Total.f (CostBase.fo (workV l j), CostBase.fo (madeV r l j)) = some (workV l j + madeV r l j, true) := by
  have hw := workV_in hok h0 h1
  have hm := madeV_in hok.1 hok.2.1 l j
  have hp := CostBase.partsV_T (a := workV l j) (b := madeV r l j) (CostBase.isT_iff.mpr ⟨by omega, by omega⟩) (CostBase.isT_iff.mpr ⟨by omega, by omega⟩)
  rw [CostBase.total_eq]
  unfold CostBase.totalV
  rw [hp]
  show some (if true = true ∧ workV l j + madeV r l j ≤ 1099511627776 then (workV l j + madeV r l j, true) else (0, false)) = _
  rw [if_pos ⟨rfl, by omega⟩]
theorem rd_take {l : List S38} {n j : Nat} (h : j < n) : rd_T38 (l.take n) (j : Int) = rd_T38 l (j : Int) := by
  unfold rd_T38
  rw [Int.toNat_natCast, List.getD_eq_getElem?_getD, List.getD_eq_getElem?_getD, List.getElem?_take]
  rw [if_pos h]
theorem loads_loop {r : Int} {l : List S38} (hok : SetOK r l) (hS : SetsOK l) {n : Nat} (hn : n < l.length) (d : Nat) : ∀ (j : Nat) (acc : List S41), j + d = n → acc.length ≤ j → Ev (fun k => active_Loads.l0 k acc (l.take n) (n : Int) (j : Int) r l) (acc ++ loadsF r l d j) := by
  have l8 := hok.2.2.2.1
  have hlen : (l.take n).length = n := by rw [List.length_take]; omega
  induction d with
  | zero =>
    intro j acc hj ha
    have e : acc ++ loadsF r l 0 j = acc := List.append_nil _
    rw [e]
    exact Ev.step (fun k => by rw [active_Loads.l0]) (evn (by omega) (Ev.now _))
  | succ d ih =>
    intro j acc hj ha
    refine Ev.step (fun k => by rw [active_Loads.l0]) ?_
    refine evp (by omega) ?_
    refine evp (by omega) ?_
    refine evp (by rw [hlen]; omega) ?_
    refine Ev.bind (cost_ev hok hS (j := (j : Int)) (by omega) (by omega)) ?_
    refine evb (total_at hok (j := (j : Int)) (by omega) (by omega)) ?_
    refine evp (by omega) ?_
    rw [rd_take (by omega), wi (by omega)]
    have x := ih (j + 1) (acc ++ [loadV r l j]) (by omega) (by simp; omega)
    rw [List.append_assoc] at x
    exact x
theorem loads_ev {r : Int} {l : List S38} (hok : SetOK r l) (hS : SetsOK l) {i : Int} (h0 : 0 ≤ i) (h1 : i < (l.length : Int)) : Ev (fun k => active_Loads.f k r l i) (loadsF r l i.toNat 0) := by
  obtain ⟨n, rfl⟩ := Int.eq_ofNat_of_zero_le h0
  have l8 := hok.2.2.2.1
  have hlen : (l.take n).length = n := by rw [List.length_take]; omega
  unfold active_Loads.f
  refine evn (by omega) ?_
  rw [decide_eq_false (by omega)]
  refine Ev.step (fun k => by rw [active_Loads.j0, if_neg (by simp)]) ?_
  refine evp h0 ?_
  refine evp (by omega) ?_
  rw [Int.toNat_natCast]
  refine evb (a := l.take n) rfl ?_
  rw [hlen]
  have x := loads_loop hok hS (n := n) (by omega) n 0 [] (by omega) (by simp)
  rw [List.nil_append] at x
  exact x
def allL (r : Int) (l : List S38) (i : Int) : List S41 := loadsF r l i.toNat 0 ++ [(⟨(rd_T38 l i).f1, workV l i⟩ : S41)]
def activeV (r : Int) (l : List S38) (i b : Int) : Int × Bool := if 0 ≤ i ∧ i < (l.length : Int) then leastV b (allL r l i) else (0, false)
theorem of_ev {r : Int} {l : List S38} (hok : SetOK r l) (hS : SetsOK l) (i b : Int) : Ev (fun k => active_Of.f k r l i b) (activeV r l i b) := by
  have no : Ev (fun k => active_Of.j0 k i b true r l) (0, false) := Ev.step (fun k => by rw [active_Of.j0, if_pos rfl]) (Ev.now _)
  have l8 := hok.2.2.2.1
  unfold active_Of.f
  by_cases h : 0 ≤ i ∧ i < (l.length : Int)
  · have e : activeV r l i b = leastV b (allL r l i) := if_pos h
    rw [e]
    refine evn (by omega) ?_
    rw [decide_eq_false (by omega)]
    refine Ev.step (fun k => by rw [active_Of.j0, if_neg (by simp)]) ?_
    refine Ev.bind (loads_ev hok hS h.1 h.2) ?_
    refine evp h.1 (evp h.2 (Ev.bind (twork_at hok h.1 h.2) ?_))
    refine evp (by rw [loadsF_length]; omega) ?_
    refine evb (a := leastV b (allL r l i)) rfl ?_
    exact Ev.now _
  · have e : activeV r l i b = (0, false) := if_neg h
    rw [e]
    by_cases c : i < 0
    · exact evp c no
    · rw [decide_eq_true (show i ≥ (l.length : Int) by omega)]; exact evn c no
theorem good_loads {r : Int} {l : List S38} (hok : SetOK r l) : ∀ (d j : Nat), j + d ≤ l.length → ∀ x ∈ prs (loadsF r l d j), 1 ≤ x.1 ∧ x.1 ≤ 1000000 ∧ 0 ≤ x.2 ∧ x.2 ≤ 1000000
  | 0, j, _, x, hx => by cases hx
  | d + 1, j, h, x, hx => by
    have e : prs (loadsF r l (d + 1) j) = ((rd_T38 l (j : Int)).f1, workV l (j : Int) + madeV r l (j : Int)) :: prs (loadsF r l d (j + 1)) := rfl
    rw [e] at hx
    have hw := workV_in hok (j := (j : Int)) (by omega) (by omega)
    have hm := madeV_in hok.1 hok.2.1 l (j : Int)
    have ht := time_in hok (j := (j : Int)) (by omega) (by omega)
    rcases List.mem_cons.mp hx with rfl | hx
    · exact ⟨ht.1, by simp only; omega, by simp only; omega, by simp only; omega⟩
    · exact good_loads hok d (j + 1) (by omega) x hx
theorem prs_append (a b : List S41) : prs (a ++ b) = prs a ++ prs b := by unfold prs; rw [List.map_append]
theorem prs_all (r : Int) (l : List S38) (i : Int) : prs (allL r l i) = prs (loadsF r l i.toNat 0) ++ [((rd_T38 l i).f1, workV l i)] := by unfold allL; rw [prs_append]; rfl
theorem good_all {r : Int} {l : List S38} (hok : SetOK r l) {i : Int} (h0 : 0 ≤ i) (h1 : i < (l.length : Int)) : good (prs (allL r l i)) := by
  have l8 := hok.2.2.2.1
  have hw := workV_in hok h0 h1
  have ht := time_in hok h0 h1
  refine ⟨?_, fun x hx => ?_⟩
  · rw [prs_length]; unfold allL; rw [List.length_append, loadsF_length]; simp; omega
  · rw [prs_all] at hx
    rcases List.mem_append.mp hx with hx | hx
    · exact good_loads hok i.toNat 0 (by omega) x hx
    · rw [List.mem_singleton] at hx; subst hx
      exact ⟨ht.1, by simp only; omega, by simp only; omega, by simp only; omega⟩
theorem good_init' {r : Int} {l : List S38} (hok : SetOK r l) {i : Int} (h0 : 0 ≤ i) (h1 : i < (l.length : Int)) : good (prs (loadsF r l i.toNat 0)) := by
  have h := good_all hok h0 h1
  rw [prs_all] at h
  exact (good_init h).1
theorem one_all {r : Int} {l : List S38} (hok : SetOK r l) {i b : Int} (h0 : 0 ≤ i) (h1 : i < (l.length : Int)) (hb : 0 ≤ b) : 1 ≤ tot b (prs (allL r l i)) 1 := by
  have hw := workV_in hok h0 h1
  have ht := time_in hok h0 h1
  rw [prs_all, tot_snoc]
  have h2 := tot_ge (good_two (good_init' hok h0 h1)) b (w := 1) (by omega)
  have h3 := up_pos ht.1 (show (1 : Int) ≤ 1 by omega)
  have h4 : 1 * 1 ≤ workV l i * ups 1 (rd_T38 l i).f1 := Int.mul_le_mul hw.1 h3 (by omega) (by omega)
  simp only
  omega
theorem active_tells {r : Int} {l : List S38} (hok : SetOK r l) (i b : Int) : ((activeV r l i b).2 = true ∧ (0 ≤ i ∧ i < (l.length : Int)) ∧ (0 ≤ b ∧ b ≤ 1000000) ∧ Least (tot b (prs (allL r l i))) (activeV r l i b).1 true) ∨ ((activeV r l i b).2 = false ∧ (activeV r l i b).1 = 0) := by
  by_cases h : 0 ≤ i ∧ i < (l.length : Int)
  · have e : activeV r l i b = leastV b (allL r l i) := if_pos h
    have hg := good_all hok h.1 h.2
    rw [e]
    unfold leastV
    by_cases hb : 0 ≤ b ∧ b ≤ 1000000
    · rw [if_pos ⟨hb.1, hb.2, hg⟩]
      have g := leastR_least (a := b) hg
      cases q : (leastR b (prs (allL r l i))).2 with
      | true => rw [q] at g; exact Or.inl ⟨rfl, h, hb, g⟩
      | false =>
        rw [q] at g
        rcases g with ⟨x, _⟩ | ⟨_, x, _⟩
        · cases x
        · exact Or.inr ⟨rfl, x⟩
    · rw [if_neg (fun x => hb ⟨x.1, x.2.1⟩)]; exact Or.inr ⟨rfl, rfl⟩
  · have e : activeV r l i b = (0, false) := if_neg h
    rw [e]; exact Or.inr ⟨rfl, rfl⟩
theorem active_le {r : Int} {l : List S38} (hok : SetOK r l) {i i' b b' : Int} (hi : 0 ≤ i' ∧ i' < (l.length : Int)) (hb : 0 ≤ b') (hb' : b' ≤ 1000000) (hS : ∀ w, 1 ≤ w → tot b' (prs (allL r l i')) w ≤ tot b (prs (allL r l i)) w) (h : (activeV r l i b).2 = true) : (activeV r l i' b').2 = true ∧ (activeV r l i' b').1 ≤ (activeV r l i b).1 := by
  rcases active_tells hok i b with ⟨_, h1, h2, hL⟩ | ⟨x, _⟩
  · obtain ⟨n1, n2, n3, _⟩ := hL.fix
    have hg := good_all hok hi.1 hi.2
    have e : activeV r l i' b' = leastR b' (prs (allL r l i')) := by
      unfold activeV leastV
      rw [if_pos hi, if_pos ⟨hb, hb', hg⟩]
    rw [e]
    have h3 := hS _ n1
    exact (leastR_least (a := b') hg).le n1 n2 (by omega) (one_all hok hi.1 hi.2 hb)
  · rw [x] at h; cases h
end Go.Proofs.Ytllnlmcofaomlaa.ActivePure
namespace Go.Proofs.Ytllnlmcofaomlaa.BlockPure
open Go.RowKit Go.Proofs.Ytllnlmcofaomlaa.QAc Go.Proofs.YtllnlmcofaomlaaW.PrintWords Go.Proofs.YtllnlmcofaomlaaW.PrintLast Go.Proofs.YtllnlmcofaomlaaW.PrintMore Go.Proofs.Ytllnlmcofaomlaa.RefSet Go.Proofs.Ytllnlmcofaomlaa.BitsPure Go.Proofs.Ytllnlmcofaomlaa.BitsMath Go.Proofs.Ytllnlmcofaomlaa.AgainPure
set_option linter.unusedVariables false
theorem maxFrom_ge : ∀ (l : List Int) (m : Int), m ≤ maxFrom m l ∧ ∀ x ∈ l, x ≤ maxFrom m l
  | [], m => ⟨Int.le_refl _, fun x hx => absurd hx List.not_mem_nil⟩
  | y :: l, m => by
    have ih := maxFrom_ge l (if m < y then y else m)
    have e : maxFrom m (y :: l) = maxFrom (if m < y then y else m) l := rfl
    rw [e]
    have h1 : m ≤ (if m < y then y else m) ∧ y ≤ (if m < y then y else m) := by split <;> omega
    refine ⟨by omega, fun x hx => ?_⟩
    rcases List.mem_cons.1 hx with rfl | hx
    · omega
    · exact ih.2 x hx
theorem maxFrom_le {B : Int} : ∀ (l : List Int) (m : Int), m ≤ B → (∀ x ∈ l, x ≤ B) → maxFrom m l ≤ B
  | [], m, h, _ => h
  | y :: l, m, h, hl => by
    have e : maxFrom m (y :: l) = maxFrom (if m < y then y else m) l := rfl
    rw [e]
    refine maxFrom_le l _ ?_ (fun x hx => hl x (List.mem_cons_of_mem _ hx))
    have := hl y List.mem_cons_self
    split <;> omega
def maxR : List Int → Int
  | [] => 0
  | x :: l => maxFrom x l
theorem max_eq {l : List Int} (h : 1 ≤ l.length) : slices_Max_int64_int64.f l = some (maxR l) := by
  cases l with
  | nil => simp at h
  | cons x l => rfl
theorem le_sum {l : List Int} (h : ∀ x ∈ l, 1 ≤ x ∧ x ≤ 10000) : ∀ x ∈ l, x ≤ sum l := by
  induction l with
  | nil => intro x hx; exact absurd hx List.not_mem_nil
  | cons y l ih =>
    intro x hx
    have hb := sum_bound (l := l) (fun z hz => h z (List.mem_cons_of_mem _ hz))
    have hy := h y List.mem_cons_self
    simp only [sum]
    rcases List.mem_cons.1 hx with rfl | hx
    · omega
    · have := ih (fun z hz => h z (List.mem_cons_of_mem _ hz)) x hx; omega
theorem maxR_in {l : List Int} (h1 : 1 ≤ l.length) (h : ∀ x ∈ l, 1 ≤ x ∧ x ≤ 10000) : 1 ≤ maxR l ∧ maxR l ≤ 10000 ∧ maxR l ≤ sum l := by
  cases l with
  | nil => simp at h1
  | cons y l =>
    have hy := h y List.mem_cons_self
    have a := maxFrom_ge l y
    have b := maxFrom_le (B := 10000) l y hy.2 (fun x hx => (h x (List.mem_cons_of_mem _ hx)).2)
    have c := maxFrom_le (B := sum (y :: l)) l y (le_sum h y List.mem_cons_self) (fun x hx => le_sum h x (List.mem_cons_of_mem _ hx))
    exact ⟨by show 1 ≤ maxFrom y l; omega, b, c⟩
def wholeV (r : Int) (l : List S38) (low : Int) : Int := sum (rd_T38 l low).f6 + ownV r l low - 1
def ofV (r : Int) (l : List S38) (low high : Int) : Int :=
  if 0 ≤ high ∧ high < low ∧ low < (l.length : Int) then
    (if (rd_T38 l low).f3 = 0 then maxR (rd_T38 l low).f6 + ownV r l low - 1
     else if (rd_T38 l low).f3 = 1 then mn (rd_T38 l low).f4 (wholeV r l low)
     else if (rd_T38 l low).f5 ≤ high then wholeV r l low else 0)
  else 0
theorem of_ev {r : Int} {l : List S38} (hok : SetOK r l) (hS : SetsOK l) (low high : Int) : Ev (fun k => block_Of.f k r l low high) (ofV r l low high) := by
  obtain ⟨r0, r1, l1, l8, ht⟩ := hok
  unfold block_Of.f
  have no : Ev (fun k => block_Of.j0 k low high true r l) 0 := Ev.step (fun k => by rw [block_Of.j0, if_pos rfl]) (Ev.now 0)
  by_cases c0 : high < 0
  · have e : ofV r l low high = 0 := if_neg (by omega)
    rw [e]; exact evp c0 no
  by_cases c1 : low ≤ high
  · have e : ofV r l low high = 0 := if_neg (by omega)
    rw [e]; exact evn c0 (evp c1 no)
  by_cases c2 : low ≥ (l.length : Int)
  · have e : ofV r l low high = 0 := if_neg (by omega)
    rw [e, decide_eq_true c2]; exact evn c0 (evn c1 no)
  refine evn c0 (evn c1 ?_)
  rw [decide_eq_false c2]
  have hx := ht low (by omega) (by omega)
  have ho := ownV_in r0 r1 l low
  have hsum := sum_bound hx.2.2.2.1
  have hmax := maxR_in hx.1 hx.2.2.2.1
  have hwork := twork_ev (rd_T38 l low).f0 (rd_T38 l low).f1 (rd_T38 l low).f2 (rd_T38 l low).f3 (rd_T38 l low).f4 (rd_T38 l low).f5 (rd_T38 l low).f7 (rd_T38 l low).f8 hx.2.1 hx.2.2.2.1
  have h8 := hx.2.1
  have hin : 0 ≤ high ∧ high < low ∧ low < (l.length : Int) := ⟨by omega, by omega, by omega⟩
  refine Ev.step (fun k => by rw [block_Of.j0, if_neg (by simp), if_pos (by omega), if_pos (by omega)]) (evb (own_eq hS low) (Ev.bind hwork ?_))
  by_cases m0 : (rd_T38 l low).f3 = 0
  · have e : ofV r l low high = maxR (rd_T38 l low).f6 + ownV r l low - 1 := by unfold ofV; rw [if_pos hin, if_pos m0]
    rw [e]
    refine evp m0 (evb (max_eq hx.1) ?_)
    rw [w64 (n := maxR (rd_T38 l low).f6 + ownV r l low) (by omega) (by omega), w64 (by omega) (by omega)]
    exact Ev.now _
  · refine evn m0 ?_
    have ew : wrap64 (wrap64 (sum (rd_T38 l low).f6 + ownV r l low) - 1) = wholeV r l low := by
      unfold wholeV
      rw [w64 (n := sum (rd_T38 l low).f6 + ownV r l low) (by omega) (by omega), w64 (n := sum (rd_T38 l low).f6 + ownV r l low - 1) (by omega) (by omega)]
    rw [ew]
    by_cases m1 : (rd_T38 l low).f3 = 1
    · have e : ofV r l low high = mn (rd_T38 l low).f4 (wholeV r l low) := by unfold ofV; rw [if_pos hin, if_neg m0, if_pos m1]
      rw [e]; exact evp m1 (Ev.now _)
    · refine evn m1 ?_
      by_cases m2 : (rd_T38 l low).f5 ≤ high
      · have e : ofV r l low high = wholeV r l low := by unfold ofV; rw [if_pos hin, if_neg m0, if_neg m1, if_pos m2]
        rw [e]; exact evp m2 (Ev.now _)
      · have e : ofV r l low high = 0 := by unfold ofV; rw [if_pos hin, if_neg m0, if_neg m1, if_neg m2]
        rw [e]; exact evn m2 (Ev.now _)
theorem ofV_in {r : Int} {l : List S38} (hok : SetOK r l) (low high : Int) : 0 ≤ ofV r l low high ∧ ofV r l low high ≤ 800000 := by
  obtain ⟨r0, r1, l1, l8, ht⟩ := hok
  unfold ofV
  split
  · rename_i hc
    have hx := ht low (by omega) (by omega)
    have ho := ownV_in r0 r1 l low
    have hsum := sum_bound hx.2.2.2.1
    have hmax := maxR_in hx.1 hx.2.2.2.1
    have h8 := hx.2.1
    have hm := hx.2.2.2.2.2.2.2
    unfold wholeV mn
    split
    · omega
    · split
      · split <;> omega
      · split <;> omega
  · omega
def mostFrom (r : Int) (l : List S38) (h : Int) : Nat → Nat → Int → Int
  | 0, _, m => m
  | d + 1, i, m => mostFrom r l h d (i + 1) (mx m (ofV r l (i : Int) h))
def mostV (r : Int) (l : List S38) (h : Int) : Int := mostFrom r l h l.length 0 0
theorem most_loop {r : Int} {l : List S38} (hok : SetOK r l) (hS : SetsOK l) (h : Int) (d : Nat) : ∀ (i : Nat) (m : Int), i + d = l.length → Ev (fun k => block_Most.l0 k h m (l.length : Int) (i : Int) r l) (mostFrom r l h d i m) := by
  have l8 := hok.2.2.2.1
  induction d with
  | zero =>
    intro i m hi
    refine Ev.step (fun k => by rw [block_Most.l0]) ?_
    exact evn (by omega) (Ev.now _)
  | succ d ih =>
    intro i m hi
    refine Ev.step (fun k => by rw [block_Most.l0]) (evp (by omega) (Ev.bind (of_ev hok hS _ _) ?_))
    rw [w64 (by omega) (by omega)]
    exact ih (i + 1) _ (by omega)
theorem most_ev {r : Int} {l : List S38} (hok : SetOK r l) (hS : SetsOK l) (h : Int) : Ev (fun k => block_Most.f k r l h) (mostV r l h) := by
  unfold block_Most.f
  exact most_loop hok hS h l.length 0 0 (by omega)
theorem mostFrom_ge (r : Int) (l : List S38) (h : Int) : ∀ (d i : Nat) (m : Int), m ≤ mostFrom r l h d i m ∧ ∀ j : Nat, i ≤ j → j < i + d → ofV r l (j : Int) h ≤ mostFrom r l h d i m
  | 0, i, m => ⟨Int.le_refl _, fun j a b => by omega⟩
  | d + 1, i, m => by
    have ih := mostFrom_ge r l h d (i + 1) (mx m (ofV r l (i : Int) h))
    have e : mostFrom r l h (d + 1) i m = mostFrom r l h d (i + 1) (mx m (ofV r l (i : Int) h)) := rfl
    rw [e]
    have h1 : m ≤ mx m (ofV r l (i : Int) h) ∧ ofV r l (i : Int) h ≤ mx m (ofV r l (i : Int) h) := by unfold mx; split <;> omega
    refine ⟨by omega, fun j a b => ?_⟩
    by_cases q : j = i
    · subst q; omega
    · exact ih.2 j (by omega) (by omega)
theorem mostFrom_le {r : Int} {l : List S38} {h B : Int} : ∀ (d i : Nat) (m : Int), m ≤ B → (∀ j : Nat, i ≤ j → j < i + d → ofV r l (j : Int) h ≤ B) → mostFrom r l h d i m ≤ B
  | 0, i, m, hm, _ => hm
  | d + 1, i, m, hm, hj => by
    have e : mostFrom r l h (d + 1) i m = mostFrom r l h d (i + 1) (mx m (ofV r l (i : Int) h)) := rfl
    rw [e]
    refine mostFrom_le d (i + 1) _ ?_ (fun j a b => hj j (by omega) (by omega))
    have := hj i (by omega) (by omega)
    unfold mx; split <;> omega
theorem mostV_in {r : Int} {l : List S38} (hok : SetOK r l) (h : Int) : 0 ≤ mostV r l h ∧ mostV r l h ≤ 800000 :=
  ⟨(mostFrom_ge r l h l.length 0 0).1, mostFrom_le l.length 0 0 (by omega) (fun j _ _ => (ofV_in hok _ _).2)⟩
end Go.Proofs.Ytllnlmcofaomlaa.BlockPure
namespace Go.Proofs.Ytllnlmcofaomlaa.QAc
open Go.RowKit Go.Proofs.YtllnlmcofaomlaaW.PrintWords Go.Proofs.YtllnlmcofaomlaaW.PrintLast Go.Proofs.YtllnlmcofaomlaaW.PrintMore
attribute [local go_sem] max2_int min2_int max_two min_two max_three min_three max_four min_four   -- for this text's walks alone
set_option linter.unusedVariables false
set_option linter.unusedSimpArgs false
end Go.Proofs.Ytllnlmcofaomlaa.QAc
namespace Go.Proofs.Ytllnlmcofaomlaa.QAc
open Go.RowKit Go.Proofs.YtllnlmcofaomlaaW.PrintWords Go.Proofs.YtllnlmcofaomlaaW.PrintLast Go.Proofs.YtllnlmcofaomlaaW.PrintMore
attribute [local go_sem] max2_int min2_int max_two min_two max_three min_three max_four min_four   -- for this text's walks alone
set_option linter.unusedVariables false
set_option linter.unusedSimpArgs false
end Go.Proofs.Ytllnlmcofaomlaa.QAc
namespace Go.Proofs.Ytllnlmcofaomlaa.QAc
open Go.RowKit Go.Proofs.YtllnlmcofaomlaaW.PrintWords Go.Proofs.YtllnlmcofaomlaaW.PrintLast Go.Proofs.YtllnlmcofaomlaaW.PrintMore
attribute [local go_sem] max2_int min2_int max_two min_two max_three min_three max_four min_four   -- for this text's walks alone
set_option linter.unusedVariables false
set_option linter.unusedSimpArgs false
end Go.Proofs.Ytllnlmcofaomlaa.QAc
namespace Go.Proofs.Ytllnlmcofaomlaa.QAc
open Go.RowKit Go.Proofs.YtllnlmcofaomlaaW.PrintWords Go.Proofs.YtllnlmcofaomlaaW.PrintLast Go.Proofs.YtllnlmcofaomlaaW.PrintMore
attribute [local go_sem] max2_int min2_int max_two min_two max_three min_three max_four min_four   -- for this text's walks alone
set_option linter.unusedVariables false
set_option linter.unusedSimpArgs false
end Go.Proofs.Ytllnlmcofaomlaa.QAc
namespace Go.Proofs.Ytllnlmcofaomlaa.QAc
open Go.RowKit Go.Proofs.YtllnlmcofaomlaaW.PrintWords Go.Proofs.YtllnlmcofaomlaaW.PrintLast Go.Proofs.YtllnlmcofaomlaaW.PrintMore
attribute [local go_sem] max2_int min2_int max_two min_two max_three min_three max_four min_four   -- for this text's walks alone
set_option linter.unusedVariables false
set_option linter.unusedSimpArgs false
end Go.Proofs.Ytllnlmcofaomlaa.QAc
namespace Go.Proofs.Ytllnlmcofaomlaa.QAc
open Go.RowKit Go.Proofs.YtllnlmcofaomlaaW.PrintWords Go.Proofs.YtllnlmcofaomlaaW.PrintLast Go.Proofs.YtllnlmcofaomlaaW.PrintMore
attribute [local go_sem] max2_int min2_int max_two min_two max_three min_three max_four min_four   -- for this text's walks alone
set_option linter.unusedVariables false
set_option linter.unusedSimpArgs false
end Go.Proofs.Ytllnlmcofaomlaa.QAc
namespace Go.Proofs.Ytllnlmcofaomlaa.RespPure
open Go.RowKit Go.Proofs.Ytllnlmcofaomlaa.QAc Go.Proofs.YtllnlmcofaomlaaW.PrintWords Go.Proofs.YtllnlmcofaomlaaW.PrintLast Go.Proofs.YtllnlmcofaomlaaW.PrintMore Go.Proofs.Ytllnlmcofaomlaa.RefSet Go.Proofs.Ytllnlmcofaomlaa.BitsPure Go.Proofs.Ytllnlmcofaomlaa.BitsMath Go.Proofs.Ytllnlmcofaomlaa.AgainPure Go.Proofs.Ytllnlmcofaomlaa.FixMath Go.Proofs.Ytllnlmcofaomlaa.ActivePure
open Go.Proofs.Ytllnlmcofaomlaa.FixPure (prs leastV prs_length)
open Go.Proofs.Ytllnlmcofaomlaa.BlockPure (wholeV mostFrom mostV maxR maxR_in mostV_in)
set_option linter.unusedVariables false
theorem csum_ev (a : Int) (L : List S41) (w : Int) (h : (0 ≤ a ∧ a ≤ 1000000 ∧ good (prs L)) ∧ 0 ≤ w ∧ w ≤ 1000000) : Ev (fun k => fix_Sum.f k a L w) (tot a (prs L) w, true) := ⟨101, fun k hk => by
  have h64 := h.1.2.2.1
  rw [prs_length] at h64
  show (fix_is.f a L).bind _ = _
  rw [FixPure.is_fix, Option.bind_some, decide_eq_true h.1, if_pos rfl, isTop_eq, Option.bind_some, decide_eq_true h.2, if_pos rfl, FixPure.sum_eq h.1.2.2 h.1.1 h.1.2.1 h.2.1 h.2.2 k (by omega), Option.bind_some]⟩
theorem done_loop {a f : Int} {L : List S41} (h : 0 ≤ a ∧ a ≤ 1000000 ∧ good (prs L)) (hL : Least (tot a (prs L)) f true) : ∀ (n : Nat) (w : Int), 1 ≤ w → w ≤ f → f - w < n → Ev (fun k => resp_done.l0 k a L w) f := by
  obtain ⟨f1, f2, f3, f4⟩ := hL.fix
  intro n
  induction n with
  | zero => intro w h1 h2 h3; omega
  | succ n ih =>
    intro w h1 h2 h3
    refine Ev.step (fun k => by rw [resp_done.l0]) (Ev.bind (csum_ev a L w ⟨h, by omega, by omega⟩) ?_)
    by_cases c : tot a (prs L) w ≤ w
    · have e : w = f := by
        by_cases q : w < f
        · have := f4 w h1 q; omega
        · omega
      subst e
      exact evp c (Ev.now _)
    · refine evn c ?_
      have m := tot_mono (good_two h.2.2) a h2
      rw [f3] at m
      exact ih _ (by omega) m (by omega)
theorem done_ev {a f w : Int} {L : List S41} (h : 0 ≤ a ∧ a ≤ 1000000 ∧ good (prs L)) (hL : Least (tot a (prs L)) f true) (h1 : 1 ≤ w) (h2 : w ≤ f) : Ev (fun k => resp_done.f k a L w) f := done_loop h hL (f - w + 1).toNat w h1 h2 (by omega)
def fV (r : Int) (l : List S38) (i b q : Int) : Int := fQ b (prs (loadsF r l i.toNat 0)) (workV l i) q
def longV (r : Int) (l : List S38) (i b : Int) : Int := rGo (fV r l i b) (rd_T38 l i).f1 (activeV r l i b).1 1000001 0 0
def withV (r : Int) (l : List S38) (i b : Int) : Int × Int := if (activeV r l i b).2 = true then (longV r l i b, if longV r l i b ≤ (rd_T38 l i).f2 then 1 else 2) else (0, 3)
theorem job {r : Int} {l : List S38} (hok : SetOK r l) {i b long : Int} (hi : 0 ≤ i ∧ i < (l.length : Int)) (hb : 0 ≤ b) (hL : Least (tot b (prs (allL r l i))) long true) {q : Int} (q0 : 0 ≤ q) (hq : q * (rd_T38 l i).f1 < long) :
    Least (tot (baseQ b (workV l i) q) (prs (loadsF r l i.toNat 0))) (fV r l i b q) true ∧ fV r l i b q ≤ long ∧ 1 ≤ long ∧ long ≤ 1000000 ∧ 1 ≤ baseQ b (workV l i) q ∧ baseQ b (workV l i) q ≤ long ∧ (leastR (baseQ b (workV l i) q) (prs (loadsF r l i.toNat 0))).2 = true := by
  have hw := workV_in hok hi.1 hi.2
  have hg := good_all hok hi.1 hi.2
  rw [prs_all] at hg hL
  exact fQ_tells hb hw.1 hg hL q0 hq
theorem job_next {r : Int} {l : List S38} (hok : SetOK r l) {i b long : Int} (hi : 0 ≤ i ∧ i < (l.length : Int)) (hb : 0 ≤ b) (hL : Least (tot b (prs (allL r l i))) long true) {q : Int} (q0 : 0 ≤ q) (hq : (q + 1) * (rd_T38 l i).f1 < long) : fV r l i b q ≤ fV r l i b (q + 1) := by
  have ht := time_in hok hi.1 hi.2
  have hw := workV_in hok hi.1 hi.2
  have hq' : q * (rd_T38 l i).f1 < long := by rw [Int.add_mul, Int.one_mul] at hq; omega
  obtain ⟨a1, _⟩ := job hok hi hb hL q0 hq'
  obtain ⟨b1, _⟩ := job hok hi hb hL (show 0 ≤ q + 1 by omega) hq
  refine b1.mono a1 (fun w _ => tot_mono_base _ _ _ w ?_)
  unfold baseQ
  have : (q + 1 + 1) * workV l i = (q + 1) * workV l i + workV l i := by rw [Int.add_mul (q + 1) 1, Int.one_mul]
  omega
theorem with_loop {r : Int} {l : List S38} (hok : SetOK r l) {i b long : Int} (hi : 0 ≤ i ∧ i < (l.length : Int)) (hb : 0 ≤ b) (hL : Least (tot b (prs (allL r l i))) long true) : ∀ (n : Nat) (q m f : Int), 0 ≤ q → q * (rd_T38 l i).f1 ≤ 1010000 → 0 ≤ m → m ≤ 1000000 → 1 ≤ f → (q * (rd_T38 l i).f1 < long → f ≤ fV r l i b q) → long - q * (rd_T38 l i).f1 < n →
    Ev (fun k => resp_With.l0 k b m long (loadsF r l i.toNat 0) (workV l i) f q (rd_T38 l i).f0 (rd_T38 l i).f1 (rd_T38 l i).f2 (rd_T38 l i).f3 (rd_T38 l i).f4 (rd_T38 l i).f5 (rd_T38 l i).f6 (rd_T38 l i).f7 (rd_T38 l i).f8) (rGo (fV r l i b) (rd_T38 l i).f1 long n q m, if rGo (fV r l i b) (rd_T38 l i).f1 long n q m ≤ (rd_T38 l i).f2 then 1 else 2) := by
  have ht := time_in hok hi.1 hi.2
  have hw := workV_in hok hi.1 hi.2
  obtain ⟨n1, n2, n3, _⟩ := hL.fix
  have stop : ∀ (q m f R : Int), 0 ≤ q → q * (rd_T38 l i).f1 ≤ 1010000 → ¬ q * (rd_T38 l i).f1 < long → m = R → Ev (fun k => resp_With.l0 k b m long (loadsF r l i.toNat 0) (workV l i) f q (rd_T38 l i).f0 (rd_T38 l i).f1 (rd_T38 l i).f2 (rd_T38 l i).f3 (rd_T38 l i).f4 (rd_T38 l i).f5 (rd_T38 l i).f6 (rd_T38 l i).f7 (rd_T38 l i).f8) (R, if R ≤ (rd_T38 l i).f2 then 1 else 2) := by
    intro q m f R q0 hq hn e
    subst e
    have h0 := Int.mul_nonneg q0 (show 0 ≤ (rd_T38 l i).f1 by omega)
    refine Ev.step (fun k => by rw [resp_With.l0]) ?_
    rw [w64 (n := q * (rd_T38 l i).f1) (by omega) (by omega)]
    refine evn hn ?_
    by_cases c : m ≤ (rd_T38 l i).f2
    · have e : (m, (if m ≤ (rd_T38 l i).f2 then (1 : Int) else 2)) = (m, 1) := by rw [if_pos c]
      rw [e]; exact evp c (Ev.now _)
    · have e : (m, (if m ≤ (rd_T38 l i).f2 then (1 : Int) else 2)) = (m, 2) := by rw [if_neg c]
      rw [e]; exact evn c (Ev.now _)
  intro n
  induction n with
  | zero =>
    intro q m f q0 hq m0 m1 f1 hf hn
    exact stop q m f _ q0 hq (by omega) rfl
  | succ n ih =>
    intro q m f q0 hq m0 m1 f1 hf hn
    by_cases c : q * (rd_T38 l i).f1 < long
    · obtain ⟨j1, j2, j3, j4, j5, j6, j7⟩ := job hok hi hb hL q0 c
      have hp := j1.fix
      have e : rGo (fV r l i b) (rd_T38 l i).f1 long (n + 1) q m = rGo (fV r l i b) (rd_T38 l i).f1 long n (q + 1) (mx2 m (fV r l i b q - q * (rd_T38 l i).f1)) := by
        show (if _ then _ else _) = _
        rw [if_pos c]
      rw [e]
      have h0 := Int.mul_nonneg q0 (show 0 ≤ (rd_T38 l i).f1 by omega)
      have hqT : q * 1 ≤ q * (rd_T38 l i).f1 := Int.mul_le_mul_of_nonneg_left ht.1 q0
      have hqw := Int.mul_nonneg (show 0 ≤ q + 1 by omega) (show 0 ≤ workV l i by omega)
      have hbase : baseQ b (workV l i) q = b + (q + 1) * workV l i := rfl
      have hn1 : (q + 1) * (rd_T38 l i).f1 = q * (rd_T38 l i).f1 + (rd_T38 l i).f1 := by rw [Int.add_mul, Int.one_mul]
      have hm := mx2_ge m (fV r l i b q - q * (rd_T38 l i).f1)
      have hnext : (q + 1) * (rd_T38 l i).f1 < long → fV r l i b q ≤ fV r l i b (q + 1) := fun x => job_next hok hi hb hL q0 x
      have go := ih (q + 1) (mx2 m (fV r l i b q - q * (rd_T38 l i).f1)) (fV r l i b q) (by omega) (by omega) (by omega) (by omega) hp.1 hnext (by omega)
      refine Ev.step (fun k => by rw [resp_With.l0]) ?_
      rw [w64 (n := q * (rd_T38 l i).f1) (by omega) (by omega), w64 (n := q + 1) (by omega) (by omega), w64 (n := (q + 1) * workV l i) (by omega) (by omega), w64 (n := b + (q + 1) * workV l i) (by omega) (by omega)]
      refine evp c ?_
      have hg := good_init' hok hi.1 hi.2
      refine Ev.bind (done_ev (a := baseQ b (workV l i) q) ⟨by omega, by omega, hg⟩ j1 f1 (hf c)) ?_
      rw [w64 (n := fV r l i b q - q * (rd_T38 l i).f1) (by omega) (by omega)]
      exact go
    · have e : rGo (fV r l i b) (rd_T38 l i).f1 long (n + 1) q m = m := by
        show (if _ then _ else _) = _
        rw [if_neg c]
      exact stop q m f _ q0 hq c e.symm
theorem with_ev {r : Int} {l : List S38} (hok : SetOK r l) (hS : SetsOK l) (i b : Int) : Ev (fun k => resp_With.f k r l i b) (withV r l i b) := by
  unfold resp_With.f
  refine Ev.bind (of_ev hok hS i b) ?_
  rcases active_tells hok i b with ⟨q, hi, hb, hL⟩ | ⟨q, _⟩
  · have e : withV r l i b = (longV r l i b, if longV r l i b ≤ (rd_T38 l i).f2 then 1 else 2) := if_pos q
    rw [e]
    have hl := hL.fix
    refine evp q (evp hi.1 (evp hi.2 (Ev.bind (loads_ev hok hS hi.1 hi.2) (Ev.bind (twork_at hok hi.1 hi.2) ?_))))
    refine with_loop hok hi hb.1 hL 1000001 0 0 1 (by omega) (by omega) (by omega) (by omega) (by omega) (fun c => ?_) (by omega)
    obtain ⟨j1, _⟩ := job hok hi hb.1 hL (show (0 : Int) ≤ 0 by omega) c
    exact j1.fix.1
  · have e : withV r l i b = (0, 3) := if_neg (by rw [q]; simp)
    rw [e]
    exact evn (by rw [q]; simp) (Ev.now _)
theorem with_tells {r : Int} {l : List S38} (hok : SetOK r l) (i b : Int) : ((activeV r l i b).2 = true ∧ (withV r l i b).1 = longV r l i b ∧ (((withV r l i b).2 = 1 ∧ longV r l i b ≤ (rd_T38 l i).f2) ∨ ((withV r l i b).2 = 2 ∧ longV r l i b > (rd_T38 l i).f2)) ∧ longV r l i b ≤ (activeV r l i b).1 ∧ b + workV l i ≤ longV r l i b) ∨ ((activeV r l i b).2 = false ∧ withV r l i b = (0, 3)) := by
  rcases active_tells hok i b with ⟨q, hi, hb, hL⟩ | ⟨q, _⟩
  · left
    have e : withV r l i b = (longV r l i b, if longV r l i b ≤ (rd_T38 l i).f2 then 1 else 2) := if_pos q
    have hl := hL.fix
    have ht := time_in hok hi.1 hi.2
    have hw := workV_in hok hi.1 hi.2
    refine ⟨q, by rw [e], ?_, ?_, ?_⟩
    · rw [e]
      by_cases c : longV r l i b ≤ (rd_T38 l i).f2
      · left; exact ⟨if_pos c, c⟩
      · right; exact ⟨if_neg c, by omega⟩
    · exact rGo_le (by omega) (fun q0 h0 hq => (job hok hi hb.1 hL h0 hq).2.1) 1000001 0 0 (by omega) (by omega)
    · obtain ⟨j1, j2, j3, j4, j5, j6, j7⟩ := job hok hi hb.1 hL (show (0 : Int) ≤ 0 by omega) (by omega)
      have f0 : fV r l i b 0 ≤ rGo (fV r l i b) (rd_T38 l i).f1 (activeV r l i b).1 1000001 0 0 := rGo_first (f := fV r l i b) (t := (rd_T38 l i).f1) hl.1 1000000 0
      have hp := j1.fix
      have hg := good_init' hok hi.1 hi.2
      have h2 := tot_ge (good_two hg) (baseQ b (workV l i) 0) (w := fV r l i b 0) (by omega)
      rw [hp.2.2.1] at h2
      have hbase : baseQ b (workV l i) 0 = b + (0 + 1) * workV l i := rfl
      have e1 : (0 + 1) * workV l i = workV l i := by rw [Int.zero_add, Int.one_mul]
      show b + workV l i ≤ rGo (fV r l i b) (rd_T38 l i).f1 (activeV r l i b).1 1000001 0 0
      omega
  · right; exact ⟨q, if_neg (by rw [q]; simp)⟩
theorem cof_ev {r : Int} {l : List S38} (hok : SetOK r l) (hS : SetsOK l) (i : Int) : Ev (fun k => resp_Of.f k r l i) (withV r l i (mostV r l i)) := by
  unfold resp_Of.f
  exact Ev.bind (BlockPure.most_ev hok hS i) (Ev.bind (with_ev hok hS i _) (Ev.now _))
theorem may_loop (r : Int) (l : List S38) (hl : l.length ≤ 10) (d : Nat) : ∀ i : Nat, i + d = l.length → RefSet.Ends (fun k => taskmasterlaw12_may.l0 k (i : Int) r l) := by
  induction d with
  | zero => intro i hi; exact endsStep (fun k => by rw [taskmasterlaw12_may.l0]) (endsIf (fun h => absurd h (by omega)) (fun _ => endsNow _))
  | succ d ih =>
    intro i hi
    refine endsStep (fun k => by rw [taskmasterlaw12_may.l0]) (endsIf (fun _ => endsIf (fun _ => endsIf (fun _ => endsNow _) (fun _ => ?_)) (fun _ => ?_)) (fun _ => endsNow _))
    · rw [wi (by omega)]; exact ih (i + 1) (by omega)
    · omega
theorem may_ends (r : Int) (l : List S38) (hs : ∀ y ∈ l, y.f0.size ≤ 9223372036854775807) : ∃ b, Ev (fun k => taskmasterlaw12_may.f k r l) b ∧ (b = true → SetOK r l) := by
  obtain ⟨b, hb, hok⟩ := all_ends r l hs
  unfold taskmasterlaw12_may.f
  have no : Ev (fun k => taskmasterlaw12_may.j0 k true r l) false := Ev.step (fun k => by rw [taskmasterlaw12_may.j0, if_pos rfl]) (Ev.now _)
  by_cases c : (l.length : Int) > 10
  · exact ⟨false, evp c no, fun h => by cases h⟩
  · cases b with
    | false => exact ⟨false, evn c (Ev.bind hb no), fun h => by cases h⟩
    | true =>
      obtain ⟨x, hx⟩ := may_loop r l (by omega) l.length 0 (by omega)
      have hx : Ev (fun k => taskmasterlaw12_may.l0 k 0 r l) x := hx
      exact ⟨x, evn c (Ev.bind hb (Ev.step (fun k => by rw [taskmasterlaw12_may.j0, if_neg (by simp)]) hx)), fun _ => hok rfl⟩
end Go.Proofs.Ytllnlmcofaomlaa.RespPure
namespace Go.Proofs.Ytllnlmcofaomlaa.Pure
open Go.RowKit Go.Proofs.Ytllnlmcofaomlaa.QAc Go.Proofs.YtllnlmcofaomlaaW.PrintWords Go.Proofs.YtllnlmcofaomlaaW.PrintLast Go.Proofs.YtllnlmcofaomlaaW.PrintMore Go.Proofs.Ytllnlmcofaomlaa.RefSet Go.Proofs.Ytllnlmcofaomlaa.AgainPure Go.Proofs.Ytllnlmcofaomlaa.FixMath Go.Proofs.Ytllnlmcofaomlaa.ActivePure Go.Proofs.Ytllnlmcofaomlaa.RespPure
open Go.Proofs.Ytllnlmcofaomlaa.FixPure (prs leastV prs_length)
set_option linter.unusedVariables false
def oneSet : List S38 := [(⟨(⟨#[97]⟩ : ByteArray), 5, 5, 0, 0, 0, (([2] : List Int)), 0, 0⟩ : S38)]
theorem one_ok : SetOK 0 oneSet := by
  refine ⟨by omega, by omega, by decide, by decide, fun i h0 h1 => ?_⟩
  have e : i = 0 := by have : i < 1 := h1; omega
  subst e
  refine ⟨by decide, by decide, by decide, fun x hx => ?_, by decide, by decide, by decide, Or.inl ⟨rfl, rfl, rfl⟩⟩
  have : x = 2 := by simpa [oneSet, rd_T38] using hx
  omega
theorem one_sets : SetsOK oneSet := by
  intro y hy
  have : y = (⟨(⟨#[97]⟩ : ByteArray), 5, 5, 0, 0, 0, (([2] : List Int)), 0, 0⟩ : S38) := by simpa [oneSet] using hy
  subst this
  exact ⟨⟨by decide, by decide⟩, ⟨by decide, by decide⟩⟩
theorem one_with : withV 0 oneSet 0 (BlockPure.mostV 0 oneSet 0) = (2, 1) := by decide +kernel
theorem known12 : Ev (fun k => taskmasterlaw12_known.f k) true := by
  have h := cof_ev one_ok one_sets 0
  rw [one_with] at h
  unfold taskmasterlaw12_known.f
  exact Ev.bind h (evp rfl (Ev.now true))
end Go.Proofs.Ytllnlmcofaomlaa.Pure
namespace Go.Proofs.Ytllnlmcofaomlaa.Pure
open Go.RowKit Go.Proofs.Ytllnlmcofaomlaa.QAc Go.Proofs.YtllnlmcofaomlaaW.PrintWords Go.Proofs.YtllnlmcofaomlaaW.PrintLast Go.Proofs.YtllnlmcofaomlaaW.PrintMore Go.Proofs.Ytllnlmcofaomlaa.RefSet Go.Proofs.Ytllnlmcofaomlaa.AgainPure Go.Proofs.Ytllnlmcofaomlaa.FixMath Go.Proofs.Ytllnlmcofaomlaa.ActivePure Go.Proofs.Ytllnlmcofaomlaa.RespPure
open Go.Proofs.Ytllnlmcofaomlaa.FixPure (prs leastV prs_length)
set_option linter.unusedVariables false
theorem RespLess (a0 : S24) (a1 : Int) (a2 : Int) (a3 : Int) (w0 : wf24 a0) (w1 : (Lit.int .i64 a1).wf = true) (w2 : (Lit.int .i64 a2).wf = true) (w3 : (Lit.int .i64 a3).wf = true) : ∃ k : Nat, taskmasterlaw12_RespLess.f k a0.f0 a0.f1 a1 a2 a3 = some true := by
  refine Ev.rounds ?_
  have hS := sets_of w0.2
  obtain ⟨b, hb, hok⟩ := may_ends a0.f0 a0.f1 (sizes_of w0.2)
  generalize a0.f0 = r at *
  generalize a0.f1 = l at *
  have no : Ev (fun k => taskmasterlaw12_RespLess.j0 k a1 a2 a3 true r l) true := Ev.step (fun k => by rw [taskmasterlaw12_RespLess.j0, if_pos rfl]) (Ev.now true)
  unfold taskmasterlaw12_RespLess.f
  refine Ev.bind hb ?_
  by_cases c1 : b = true
  · have ok := hok c1
    refine evp c1 ?_
    by_cases c2 : a3 < 0
    · exact evp c2 no
    refine evn c2 ?_
    by_cases c3 : a3 > a2
    · rw [decide_eq_true c3]; exact no
    rw [decide_eq_false c3]
    have g := i64_in' w2
    refine Ev.step (fun k => by rw [taskmasterlaw12_RespLess.j0, if_neg (by simp)]) ?_
    rw [w64 (n := a2 - a3) (by omega) (by omega)]
    refine Ev.bind (with_ev ok hS a1 a2) (Ev.bind (with_ev ok hS a1 (a2 - a3)) ?_)
    rcases with_tells ok a1 a2 with ⟨q, e1, e2, _⟩ | ⟨q, e⟩
    · refine evn (by omega) ?_
      rcases active_tells ok a1 a2 with ⟨_, hi, hb2, hL⟩ | ⟨x, _⟩
      · obtain ⟨x1, x2⟩ := active_le ok (i := a1) (b := a2) (b' := a2 - a3) hi (by omega) (by omega) (fun w _ => tot_mono_base _ _ _ w (by omega)) q
        rcases with_tells ok a1 (a2 - a3) with ⟨_, d1, d2, _⟩ | ⟨y, _⟩
        · rcases active_tells ok a1 (a2 - a3) with ⟨_, _, hb3, hL'⟩ | ⟨z, _⟩
          · refine evn (by omega) ?_
            have hle : longV r l a1 (a2 - a3) ≤ longV r l a1 a2 := by
              have ht := time_in ok hi.1 hi.2
              refine rGo_mono x2 (fun q0 h0 hq => ?_) 1000001 0 0 0 (by omega) (by omega)
              obtain ⟨j1, _⟩ := job ok hi hb2.1 hL h0 (by omega)
              obtain ⟨j2, _⟩ := job ok hi hb3.1 hL' h0 hq
              refine j1.mono j2 (fun w _ => tot_mono_base _ _ _ w ?_)
              unfold baseQ; omega
            rw [e1, d1]
            exact evp hle (Ev.bind known12 (Ev.now true))
          · rw [z] at x1; cases x1
        · rw [y] at x1; cases x1
      · rw [x] at q; cases q
    · rw [e]
      exact evp rfl (Ev.bind known12 (Ev.now true))
  · exact evn c1 no
end Go.Proofs.Ytllnlmcofaomlaa.Pure
namespace Go.Proofs.Ytllnlmcofaomlaa.respLess
open Go.ChangeShapes Go.WideShapes Go.ChangeAt Go.RowKit
open Go.ChangeMaps (open_string shut_string)
open Go.Proofs.YtllnlmcofaomlaaW.PrintWords Go.Proofs.YtllnlmcofaomlaaW.PrintLast Go.Proofs.Ytllnlmcofaomlaa.QAc Go.Proofs.Ytllnlmcofaomlaa.Open
set_option linter.unusedVariables false
theorem own : ownKnob Try.prog.godebug = none := by kernel_rfl
theorem laidOut : laidOutB Try.prog = true := by kernel_rfl
set_option maxRecDepth 100000 in
theorem lifted (os : Os) (started : os.Started) (H : Type) (enc : TypeId × Value → H) :
    ReturnsInHanded {} Try.checked os 8 .any (Rows.respLessSpec.pre6 enc Try.prog Try.f8 Rows.respLessRow.domain false) (Rows.respLessSpec.post enc Try.prog Try.f8 false true false false) := by
  refine returnsInHanded_of_change_sized (C := Try.checked) own started (by kernel_rfl) Try.func8
    (ChangeSpec.witness6 (enc := enc) (C := Try.checked) false ⟨#[], #[.agg #[.int .i64 0, .slice none 0 0], .int .i64 0, .int .i64 0, .int .i64 0], []⟩ 8 (by kernel_rfl) (by kernel_rfl) (by kernel_rfl) (by kernel_rfl)) ?_
  intro W base args ds gs before hval0 hW hcnd hsz0 _
  have hsz : (DataW.weightsEach Try.prog (Try.f8.params.toList ++ Rows.respLessSpec.plain.varTypes Try.prog) (ds ++ gs)).all (· ≤ reachBytes) = true := hsz0
  have hval : ∀ (j : Nat) t v, Try.f8.params[j]? = some t → args[j]? = some v → Value.okWide Try.prog W .any base t v := hval0
  have hW' := hW
  obtain ⟨p, q, hA0, hV, rfl, hfz, hnd⟩ := hW
  have hA : DataW.TrodAll enc Try.prog W 0 (fun _ => true) true Try.f8.params.toList args.toList ds p := hA0
  rw [Try.params8] at hA hval hsz
  obtain ⟨v0, vs0, d0, ds0, p0, q0, hargs, rfl, rfl, h0, r0⟩ := trodAll_cons hA
  obtain ⟨v1, vs1, d1, ds1, p1, q1, rfl, rfl, rfl, h1, r1⟩ := trodAll_cons r0
  obtain ⟨v2, vs2, d2, ds2, p2, q2, rfl, rfl, rfl, h2, r2⟩ := trodAll_cons r1
  obtain ⟨v3, vs3, d3, ds3, p3, q3, rfl, rfl, rfl, h3, r3⟩ := trodAll_cons r2
  obtain ⟨rfl, rfl, rfl⟩ := trodAll_nil r3
  obtain rfl : args = #[v0, v1, v2, v3] := by cases args; simp_all
  obtain ⟨rfl, rfl⟩ := trodVars_none hV
  have k0 := h0
  have lt0 : ∀ x ∈ p0, x.block < W.heap.size := by obtain ⟨m, hm⟩ := k0; exact DataW.trod_lt m _ _ _ hm
  obtain ⟨a0, cs0, rfl, hk0, hw0⟩ := arg_struct Try.underlying24 (hval 0 24 v0 rfl rfl) opens24 h0
  obtain ⟨A0_1, c0_1, rfl, hc0_1, hr0_1⟩ := k24_open hk0
  obtain ⟨a1, rfl, rfl, rfl, w1⟩ := open_int Try.underlying3 (hval 1 3 v1 rfl rfl) h1
  obtain ⟨a2, rfl, rfl, rfl, w2⟩ := open_int Try.underlying2 (hval 2 2 v2 rfl rfl) h2
  obtain ⟨a3, rfl, rfl, rfl, w3⟩ := open_int Try.underlying2 (hval 3 2 v3 rfl rfl) h3
  clear hA0 hval0 hsz0 hsz
  obtain ⟨k, hk⟩ := Pure.RespLess a0 a1 a2 a3 hw0 w1 w2 w3
  refine (taskmasterlaw12_RespLess.calls (w := W) (h := hk) (hc0_1 := hc0_1) (hr0_1 := hr0_1)).mono fun e W' ⟨he, bel0⟩ => ?_
  have bel : Below W.heap.size W W' := bel0
  subst he
  exact ⟨_, rfl, _, _, _, [], _, [], hW', trodAll_mk1 (shut_bool Try.underlying4 _), (trodAll_cons_mk (Below.trod laidOut (by kernel_rfl) (of_decide_eq_true (by kernel_rfl)) k0 bel lt0) (trodAll_cons_mk (shut_int Try.underlying3 w1) (trodAll_cons_mk (shut_int Try.underlying2 w2) (trodAll_cons_mk (shut_int Try.underlying2 w3) trodAll_mk0)))), rfl, bel.frame _, fun h => by cases h⟩
theorem over : Rows.respLessRow.holds Try.pinned (OpenSpec.ofChange Rows.respLessSpec) :=
  OpenClaim.holds_of_wide 8 Try.f8 rfl rfl rfl rfl rfl rfl rfl ⟨rfl, rfl, rfl, rfl, rfl⟩ rfl rfl rfl rfl rfl (by kernel_rfl) Try.func8 (by kernel_rfl)
    (of_decide_eq_true (by kernel_rfl)) (by unfold Func.isWrapper; first | (rw [if_pos (by decide +kernel)]; kernel_rfl) | (rw [if_neg (by decide +kernel)]; exact ⟨rfl, rfl⟩))
    (fun os started H enc _ => lifted os started H enc)
theorem proved : Rows.RespLessSaid := over
end Go.Proofs.Ytllnlmcofaomlaa.respLess
namespace Go.Proofs.Ytllnlmcofaomlaa
theorem respLess_holds : Rows.RespLessSaid := respLess.proved
end Go.Proofs.Ytllnlmcofaomlaa
namespace Go.Proofs.Ytllnlmcofaomlaa.QAc
open Go.RowKit Go.Proofs.YtllnlmcofaomlaaW.PrintWords Go.Proofs.YtllnlmcofaomlaaW.PrintLast Go.Proofs.YtllnlmcofaomlaaW.PrintMore
attribute [local go_sem] max2_int min2_int max_two min_two max_three min_three max_four min_four   -- for this text's walks alone
set_option linter.unusedVariables false
set_option linter.unusedSimpArgs false
def taskmasterlaw12_RespWork.j0 : Nat → Int → Int → Bool → Int → List (S38) → Option (Bool)
  | 0, _, _, _, _, _ => none
  | k + 1, x1, x2, x26, x414000, x414001 => if x26 = true then (some true) else ((resp_With.f k x414000 x414001 x1 x2).bind fun bt415 => (if bt415.2 = 3 then (if bt415.2 = 1 then (if 0 ≤ x1 then (if x1 < (x414001.length : Int) then (if bt415.1 ≤ ((rd_T38 x414001 x1).f2) then (if bt415.2 = 2 then (if bt415.1 > ((rd_T38 x414001 x1).f2) then ((taskmasterlaw12_known.f k).bind fun t419 => (some t419)) else (some false)) else ((taskmasterlaw12_known.f k).bind fun t420 => (some t420))) else (some false)) else (none)) else (none)) else (if bt415.2 = 2 then (if 0 ≤ x1 then (if x1 < (x414001.length : Int) then (if bt415.1 > ((rd_T38 x414001 x1).f2) then ((taskmasterlaw12_known.f k).bind fun t422 => (some t422)) else (some false)) else (none)) else (none)) else ((taskmasterlaw12_known.f k).bind fun t423 => (some t423)))) else ((taskmasterref8_Work.f k x414000 x414001 x1).bind fun t424 => (if bt415.1 ≥ (wrap64 (x2 + t424)) then (if bt415.2 = 1 then (if 0 ≤ x1 then (if x1 < (x414001.length : Int) then (if bt415.1 ≤ ((rd_T38 x414001 x1).f2) then (if bt415.2 = 2 then (if bt415.1 > ((rd_T38 x414001 x1).f2) then ((taskmasterlaw12_known.f k).bind fun t427 => (some t427)) else (some false)) else ((taskmasterlaw12_known.f k).bind fun t428 => (some t428))) else (some false)) else (none)) else (none)) else (if bt415.2 = 2 then (if 0 ≤ x1 then (if x1 < (x414001.length : Int) then (if bt415.1 > ((rd_T38 x414001 x1).f2) then ((taskmasterlaw12_known.f k).bind fun t430 => (some t430)) else (some false)) else (none)) else (none)) else ((taskmasterlaw12_known.f k).bind fun t431 => (some t431)))) else (some false)))))
def taskmasterlaw12_RespWork.f (k : Nat) (a0_0 : Int) (l0_1 : List (S38)) (a1 : Int) (a2 : Int) : Option (Bool) := (taskmasterlaw12_may.f k a0_0 l0_1).bind fun t414 => (if t414 = true then (if a1 < 0 then (taskmasterlaw12_RespWork.j0 k a1 a2 true a0_0 l0_1) else (if a1 ≥ (l0_1.length : Int) then (taskmasterlaw12_RespWork.j0 k a1 a2 true a0_0 l0_1) else (taskmasterlaw12_RespWork.j0 k a1 a2 (decide (a2 < 0)) a0_0 l0_1))) else (taskmasterlaw12_RespWork.j0 k a1 a2 true a0_0 l0_1))
set_option maxHeartbeats 8000000 in
set_option maxRecDepth 100000 in
theorem taskmasterlaw12_RespWork.calls (k : Nat) (a0_0 : Int) (A0_1 : Option Addr) (c0_1 : Nat) (l0_1 : List (S38)) (a1 : Int) (a2 : Int) (r : Bool) (w : World) (hr0_1 : Kd.C k38 w A0_1 l0_1.length l0_1) (hc0_1 : l0_1.length ≤ c0_1) (h : taskmasterlaw12_RespWork.f k a0_0 l0_1 a1 a2 = some r) :
    Calls Try.prog 9 #[.agg #[.int .i64 a0_0, .slice A0_1 l0_1.length c0_1], .int .i64 a1, .int .i64 a2] w fun e w' => e = .returned (.bool r) ∧ Below w.heap.size w w' := by
  have hu24 := Try.underlying24
  have HR0_1 := Aside0.mk hr0_1
  have HC0_1 := Aside0.mk hc0_1
  clear hr0_1 hc0_1
  have HB := Aside0.mk (Below.refl w.heap.size w)
  have H : ((taskmasterlaw12_may.f k a0_0 l0_1).bind fun t414 => (if t414 = true then (if a1 < 0 then (taskmasterlaw12_RespWork.j0 k a1 a2 true a0_0 l0_1) else (if a1 ≥ (l0_1.length : Int) then (taskmasterlaw12_RespWork.j0 k a1 a2 true a0_0 l0_1) else (taskmasterlaw12_RespWork.j0 k a1 a2 (decide (a2 < 0)) a0_0 l0_1))) else (taskmasterlaw12_RespWork.j0 k a1 a2 true a0_0 l0_1))) = some r := h
  clear h
  have HC4 := Aside0.mk H
  clear H
  go_enter Try.func9, Try.ntmps9
  go_upto_region 1 with (first | ((with_reducible refine gate_dst (N := 3) rfl ?_); (try (refine gate_guard (by rfl) ?_; dsimp only)); refine box_event ?hg (N := 3) ?hd (cs := #[.int .i64 a0_0, .slice A0_1 l0_1.length c0_1]) (t := 24) ?hr ?_; (case hd => rfl); (case hg => rfl); (case hr => first | (go_simp; done) | (go_simp; rfl)); intro gb413 hg w5 hbox hb; have n0_ := Aside0.mk (below_step (by repeat (first | (with_reducible first | exact HB.out | apply below_alloc | apply pw_below_drewN | apply below_drew1) | exact HB.out)) hb); have n1_ := Aside0.mk (hbox); have n2_ := Aside0.mk ((by rw [hg]; exact (below_size (by repeat (first | (with_reducible first | exact HB.out | apply below_alloc | apply pw_below_drewN | apply below_drew1) | exact HB.out))) : w.heap.size ≤ gb413)); have n3_ := Aside0.mk ((by rw [hg]; exact (below_size (by repeat (first | (with_reducible first | exact HB.out | apply below_alloc | apply pw_below_drewN | apply below_drew1) | exact HB.out))) : w.heap.size ≤ gb413)); clear HB; have HB := n0_; have BK413 := n1_; have GW413 := n2_; have GE413 := n3_; clear n0_ n1_ n2_ n3_; clear hb hbox hg))
  (try simp only [Act.put, List.setIfInBounds_toArray, List.set_cons_zero, List.set_cons_succ])
  go_cut [26] (fun v26 wc => ∃ (kq : Nat) (x26_3 : Bool), v26 = .bool x26_3 ∧ Aside0 (taskmasterlaw12_RespWork.j0 kq a1 a2 x26_3 a0_0 l0_1 = some r) ∧ Aside0 (kq ≤ k) ∧ Aside0 (wc.heap[gb413]? = some (.cells #[.int .i64 a0_0, (.slice A0_1 l0_1.length c0_1)] 24 (0, 0))) ∧ Aside0 (Below w.heap.size w wc))
  case first =>
    have H := HC4.out
    clear HC4
    replace H := Option.bind_eq_some_iff.mp H
    obtain ⟨t414, A60, H⟩ := H
    replace H : (if t414 = true then (if a1 < 0 then (taskmasterlaw12_RespWork.j0 k a1 a2 true a0_0 l0_1) else (if a1 ≥ (l0_1.length : Int) then (taskmasterlaw12_RespWork.j0 k a1 a2 true a0_0 l0_1) else (taskmasterlaw12_RespWork.j0 k a1 a2 (decide (a2 < 0)) a0_0 l0_1))) else (taskmasterlaw12_RespWork.j0 k a1 a2 true a0_0 l0_1)) = some r := H
    have A6 := Aside0.mk A60
    clear A60
    by_cases c7 : t414 = true
    · subst c7
      have H1 : (if a1 < 0 then (taskmasterlaw12_RespWork.j0 k a1 a2 true a0_0 l0_1) else (if a1 ≥ (l0_1.length : Int) then (taskmasterlaw12_RespWork.j0 k a1 a2 true a0_0 l0_1) else (taskmasterlaw12_RespWork.j0 k a1 a2 (decide (a2 < 0)) a0_0 l0_1))) = some r := by rw [if_pos rfl] at H; exact H
      clear H
      have H := H1
      clear H1
      by_cases c8 : a1 < 0
      · rw [if_pos c8] at H
        have c8b0 : decide (a1 < 0) = true := decide_eq_true c8
        clear c8
        (first | rw [c8b0] | (simp only [i64_w, i32_w]; rw [c8b0]) | skip)
        have H' := Aside0.mk H
        clear H
        have hcz9_0 : w5.cell? ⟨gb413, 0, none⟩ = some (.int .i64 a0_0) := (blk_cell BK413.out 0).trans rfl
        have hcz9_1 : w5.cell? ⟨gb413, 1, none⟩ = some (.slice A0_1 l0_1.length c0_1) := (blk_cell BK413.out 1).trans rfl
        have hfz9_0 := blk_frozen BK413.out 0
        have hfz9_1 := blk_frozen BK413.out 1
        go_wp2_with (first | ((with_reducible refine gate_callee (f := 21) rfl ?_); refine goesL_ (some 10) rfl rfl Try.func21 (by kernel_rfl) rfl #[.agg #[.int .i64 a0_0, .slice A0_1 l0_1.length c0_1]] rfl (by (try simp only [List.map_toArray, List.map_cons, List.map_nil]); first | done | rfl | (simp only [List.length_drop, List.length_take]; rfl)) ?_; (with_reducible refine (taskmasterlaw12_may.calls k a0_0 _ _ l0_1 true _ ?side1 ?side2 A6.out).mono ?_); (case side1 => repeat (first | exact (Kd.C_below HR0_1.out HB.out) | (with_reducible refine Kd.C_alloc ?_ _) | (with_reducible refine Kd.C_drewN ?_ _) | (with_reducible refine Kd.C_drew ?_))); (case side2 => exact HC0_1.out); rintro e w10 ⟨rfl, hb⟩; refine ⟨_, rfl, ?_⟩; have n0_ := Aside0.mk (blk_below (g := gb413) (o := .cells #[.int .i64 a0_0, .slice A0_1 l0_1.length c0_1] 24 (0, 0)) (by (with_reducible repeat (first | refine blk_drewN ?_ _ | refine blk_drew ?_ | refine blk_alloc ?_ _)); exact BK413.out) hb); have n1_ := Aside0.mk (below_step (by repeat (first | (with_reducible first | exact HB.out | apply below_alloc | apply pw_below_drewN | apply below_drew1 | refine below_set ?_ GE413.out) | exact HB.out)) hb); clear BK413; clear HB; have BK413 := n0_; have HB := n1_; clear n0_ n1_; (try clear hb); (try clear hb2); (try clear hk); (try clear hi)))
        go_meet
        case rel => exact ⟨_, (true), (by first | rfl | (simp; done) | (simp [*]; done)), H', ⟨by first | omega | exact Nat.le_refl _⟩, ⟨by (with_reducible repeat (first | refine blk_drewN ?_ _ | refine blk_drew ?_ | refine blk_alloc ?_ _)); exact BK413.out⟩, ⟨by repeat (first | (with_reducible first | exact HB.out | apply below_alloc | apply pw_below_drewN | apply below_drew1 | refine below_set ?_ GE413.out) | exact HB.out)⟩⟩
      · rw [if_neg c8] at H
        have c8b0 : decide (a1 < 0) = false := decide_eq_false c8
        clear c8
        (first | rw [c8b0] | (simp only [i64_w, i32_w]; rw [c8b0]) | skip)
        by_cases c11 : a1 ≥ (l0_1.length : Int)
        · rw [if_pos c11] at H
          have c11b0 : decide ((l0_1.length : Int) ≤ a1) = true := decide_eq_true c11
          clear c11
          have H' := Aside0.mk H
          clear H
          have hcz12_0 : w5.cell? ⟨gb413, 0, none⟩ = some (.int .i64 a0_0) := (blk_cell BK413.out 0).trans rfl
          have hcz12_1 : w5.cell? ⟨gb413, 1, none⟩ = some (.slice A0_1 l0_1.length c0_1) := (blk_cell BK413.out 1).trans rfl
          have hfz12_0 := blk_frozen BK413.out 0
          have hfz12_1 := blk_frozen BK413.out 1
          go_wp2_with (first | ((with_reducible refine gate_callee (f := 21) rfl ?_); refine goesL_ (some 10) rfl rfl Try.func21 (by kernel_rfl) rfl #[.agg #[.int .i64 a0_0, .slice A0_1 l0_1.length c0_1]] rfl (by (try simp only [List.map_toArray, List.map_cons, List.map_nil]); first | done | rfl | (simp only [List.length_drop, List.length_take]; rfl)) ?_; (with_reducible refine (taskmasterlaw12_may.calls k a0_0 _ _ l0_1 true _ ?side1 ?side2 A6.out).mono ?_); (case side1 => repeat (first | exact (Kd.C_below HR0_1.out HB.out) | (with_reducible refine Kd.C_alloc ?_ _) | (with_reducible refine Kd.C_drewN ?_ _) | (with_reducible refine Kd.C_drew ?_))); (case side2 => exact HC0_1.out); rintro e w13 ⟨rfl, hb⟩; refine ⟨_, rfl, ?_⟩; have n0_ := Aside0.mk (blk_below (g := gb413) (o := .cells #[.int .i64 a0_0, .slice A0_1 l0_1.length c0_1] 24 (0, 0)) (by (with_reducible repeat (first | refine blk_drewN ?_ _ | refine blk_drew ?_ | refine blk_alloc ?_ _)); exact BK413.out) hb); have n1_ := Aside0.mk (below_step (by repeat (first | (with_reducible first | exact HB.out | apply below_alloc | apply pw_below_drewN | apply below_drew1 | refine below_set ?_ GE413.out) | exact HB.out)) hb); clear BK413; clear HB; have BK413 := n0_; have HB := n1_; clear n0_ n1_; (try clear hb); (try clear hb2); (try clear hk); (try clear hi); have hcz14_0 : w13.cell? ⟨gb413, 0, none⟩ = some (.int .i64 a0_0) := (blk_cell BK413.out 0).trans rfl; have hcz14_1 : w13.cell? ⟨gb413, 1, none⟩ = some (.slice A0_1 l0_1.length c0_1) := (blk_cell BK413.out 1).trans rfl; have hfz14_0 := blk_frozen BK413.out 0; have hfz14_1 := blk_frozen BK413.out 1))
          go_meet
          case rel => exact ⟨_, (true), (by first | rfl | (simp; done) | (simp [*]; done)), H', ⟨by first | omega | exact Nat.le_refl _⟩, ⟨by (with_reducible repeat (first | refine blk_drewN ?_ _ | refine blk_drew ?_ | refine blk_alloc ?_ _)); exact BK413.out⟩, ⟨by repeat (first | (with_reducible first | exact HB.out | apply below_alloc | apply pw_below_drewN | apply below_drew1 | refine below_set ?_ GE413.out) | exact HB.out)⟩⟩
        · rw [if_neg c11] at H
          have c11b0 : decide ((l0_1.length : Int) ≤ a1) = false := decide_eq_false c11
          clear c11
          have H' := Aside0.mk H
          clear H
          have hcz15_0 : w5.cell? ⟨gb413, 0, none⟩ = some (.int .i64 a0_0) := (blk_cell BK413.out 0).trans rfl
          have hcz15_1 : w5.cell? ⟨gb413, 1, none⟩ = some (.slice A0_1 l0_1.length c0_1) := (blk_cell BK413.out 1).trans rfl
          have hfz15_0 := blk_frozen BK413.out 0
          have hfz15_1 := blk_frozen BK413.out 1
          go_wp2_with (first | ((with_reducible refine gate_callee (f := 21) rfl ?_); refine goesL_ (some 10) rfl rfl Try.func21 (by kernel_rfl) rfl #[.agg #[.int .i64 a0_0, .slice A0_1 l0_1.length c0_1]] rfl (by (try simp only [List.map_toArray, List.map_cons, List.map_nil]); first | done | rfl | (simp only [List.length_drop, List.length_take]; rfl)) ?_; (with_reducible refine (taskmasterlaw12_may.calls k a0_0 _ _ l0_1 true _ ?side1 ?side2 A6.out).mono ?_); (case side1 => repeat (first | exact (Kd.C_below HR0_1.out HB.out) | (with_reducible refine Kd.C_alloc ?_ _) | (with_reducible refine Kd.C_drewN ?_ _) | (with_reducible refine Kd.C_drew ?_))); (case side2 => exact HC0_1.out); rintro e w16 ⟨rfl, hb⟩; refine ⟨_, rfl, ?_⟩; have n0_ := Aside0.mk (blk_below (g := gb413) (o := .cells #[.int .i64 a0_0, .slice A0_1 l0_1.length c0_1] 24 (0, 0)) (by (with_reducible repeat (first | refine blk_drewN ?_ _ | refine blk_drew ?_ | refine blk_alloc ?_ _)); exact BK413.out) hb); have n1_ := Aside0.mk (below_step (by repeat (first | (with_reducible first | exact HB.out | apply below_alloc | apply pw_below_drewN | apply below_drew1 | refine below_set ?_ GE413.out) | exact HB.out)) hb); clear BK413; clear HB; have BK413 := n0_; have HB := n1_; clear n0_ n1_; (try clear hb); (try clear hb2); (try clear hk); (try clear hi); have hcz17_0 : w16.cell? ⟨gb413, 0, none⟩ = some (.int .i64 a0_0) := (blk_cell BK413.out 0).trans rfl; have hcz17_1 : w16.cell? ⟨gb413, 1, none⟩ = some (.slice A0_1 l0_1.length c0_1) := (blk_cell BK413.out 1).trans rfl; have hfz17_0 := blk_frozen BK413.out 0; have hfz17_1 := blk_frozen BK413.out 1))
          go_meet
          case rel => exact ⟨_, (decide (a2 < 0)), (by first | rfl | (simp; done) | (simp [*]; done)), H', ⟨by first | omega | exact Nat.le_refl _⟩, ⟨by (with_reducible repeat (first | refine blk_drewN ?_ _ | refine blk_drew ?_ | refine blk_alloc ?_ _)); exact BK413.out⟩, ⟨by repeat (first | (with_reducible first | exact HB.out | apply below_alloc | apply pw_below_drewN | apply below_drew1 | refine below_set ?_ GE413.out) | exact HB.out)⟩⟩
    · replace c7 := Bool.eq_false_iff.mpr c7
      subst c7
      have H1 : (taskmasterlaw12_RespWork.j0 k a1 a2 true a0_0 l0_1) = some r := by rw [if_neg (show ¬ (false = true) by decide)] at H; exact H
      clear H
      have H := H1
      clear H1
      have H' := Aside0.mk H
      clear H
      have hcz18_0 : w5.cell? ⟨gb413, 0, none⟩ = some (.int .i64 a0_0) := (blk_cell BK413.out 0).trans rfl
      have hcz18_1 : w5.cell? ⟨gb413, 1, none⟩ = some (.slice A0_1 l0_1.length c0_1) := (blk_cell BK413.out 1).trans rfl
      have hfz18_0 := blk_frozen BK413.out 0
      have hfz18_1 := blk_frozen BK413.out 1
      go_wp2_with (first | ((with_reducible refine gate_callee (f := 21) rfl ?_); refine goesL_ (some 10) rfl rfl Try.func21 (by kernel_rfl) rfl #[.agg #[.int .i64 a0_0, .slice A0_1 l0_1.length c0_1]] rfl (by (try simp only [List.map_toArray, List.map_cons, List.map_nil]); first | done | rfl | (simp only [List.length_drop, List.length_take]; rfl)) ?_; (with_reducible refine (taskmasterlaw12_may.calls k a0_0 _ _ l0_1 false _ ?side1 ?side2 A6.out).mono ?_); (case side1 => repeat (first | exact (Kd.C_below HR0_1.out HB.out) | (with_reducible refine Kd.C_alloc ?_ _) | (with_reducible refine Kd.C_drewN ?_ _) | (with_reducible refine Kd.C_drew ?_))); (case side2 => exact HC0_1.out); rintro e w19 ⟨rfl, hb⟩; refine ⟨_, rfl, ?_⟩; have n0_ := Aside0.mk (blk_below (g := gb413) (o := .cells #[.int .i64 a0_0, .slice A0_1 l0_1.length c0_1] 24 (0, 0)) (by (with_reducible repeat (first | refine blk_drewN ?_ _ | refine blk_drew ?_ | refine blk_alloc ?_ _)); exact BK413.out) hb); have n1_ := Aside0.mk (below_step (by repeat (first | (with_reducible first | exact HB.out | apply below_alloc | apply pw_below_drewN | apply below_drew1 | refine below_set ?_ GE413.out) | exact HB.out)) hb); clear BK413; clear HB; have BK413 := n0_; have HB := n1_; clear n0_ n1_; (try clear hb); (try clear hb2); (try clear hk); (try clear hi)))
      go_meet
      case rel => exact ⟨_, (true), (by first | rfl | (simp; done) | (simp [*]; done)), H', ⟨by first | omega | exact Nat.le_refl _⟩, ⟨by (with_reducible repeat (first | refine blk_drewN ?_ _ | refine blk_drew ?_ | refine blk_alloc ?_ _)); exact BK413.out⟩, ⟨by repeat (first | (with_reducible first | exact HB.out | apply below_alloc | apply pw_below_drewN | apply below_drew1 | refine below_set ?_ GE413.out) | exact HB.out)⟩⟩
  case rest =>
    clear HC4
    try clear c1
    try clear c2
    try clear p2
    try clear c7
    try clear c8
    try clear c8b0
    try clear c9
    try clear c11
    try clear c11b0
    try clear hcz12_0
    try clear hcz12_1
    try clear hcz14_0
    try clear hcz14_1
    try clear hcz15_0
    try clear hcz15_1
    try clear hcz17_0
    try clear hcz17_1
    try clear hcz18_0
    try clear hcz18_1
    try clear hcz9_0
    try clear hcz9_1
    try clear hfz12_0
    try clear hfz12_1
    try clear hfz14_0
    try clear hfz14_1
    try clear hfz15_0
    try clear hfz15_1
    try clear hfz17_0
    try clear hfz17_1
    try clear hfz18_0
    try clear hfz18_1
    try clear hfz9_0
    try clear hfz9_1
    obtain ⟨kq, x26_3, rfl, HA, HJ3, BK413, HB⟩ := hcut
    cases kq with
    | zero => exact absurd HA.out (by simp [taskmasterlaw12_RespWork.j0])
    | succ kj3 =>
      have H := HA.out
      clear HA
      simp only [taskmasterlaw12_RespWork.j0] at H
      by_cases c20 : x26_3 = true
      · subst c20
        have H1 : (some true) = some r := by rw [if_pos rfl] at H; exact H
        clear H
        have H := H1
        clear H1
        obtain rfl := Option.some.inj H
        go_wp2
        go_ret
        exact ⟨by first | rfl | (simp [errW_none, errW_some] <;> rfl) | (simp [*, errW_none, errW_some] <;> rfl), by repeat (first | (with_reducible first | exact HB.out | apply below_alloc | apply pw_below_drewN | apply below_drew1 | refine below_set ?_ GE413.out) | exact HB.out)⟩
      · replace c20 := Bool.eq_false_iff.mpr c20
        subst c20
        have H1 : ((resp_With.f kj3 a0_0 l0_1 a1 a2).bind fun bt415 => (if bt415.2 = 3 then (if bt415.2 = 1 then (if 0 ≤ a1 then (if a1 < (l0_1.length : Int) then (if bt415.1 ≤ ((rd_T38 l0_1 a1).f2) then (if bt415.2 = 2 then (if bt415.1 > ((rd_T38 l0_1 a1).f2) then ((taskmasterlaw12_known.f kj3).bind fun t419 => (some t419)) else (some false)) else ((taskmasterlaw12_known.f kj3).bind fun t420 => (some t420))) else (some false)) else (none)) else (none)) else (if bt415.2 = 2 then (if 0 ≤ a1 then (if a1 < (l0_1.length : Int) then (if bt415.1 > ((rd_T38 l0_1 a1).f2) then ((taskmasterlaw12_known.f kj3).bind fun t422 => (some t422)) else (some false)) else (none)) else (none)) else ((taskmasterlaw12_known.f kj3).bind fun t423 => (some t423)))) else ((taskmasterref8_Work.f kj3 a0_0 l0_1 a1).bind fun t424 => (if bt415.1 ≥ (wrap64 (a2 + t424)) then (if bt415.2 = 1 then (if 0 ≤ a1 then (if a1 < (l0_1.length : Int) then (if bt415.1 ≤ ((rd_T38 l0_1 a1).f2) then (if bt415.2 = 2 then (if bt415.1 > ((rd_T38 l0_1 a1).f2) then ((taskmasterlaw12_known.f kj3).bind fun t427 => (some t427)) else (some false)) else ((taskmasterlaw12_known.f kj3).bind fun t428 => (some t428))) else (some false)) else (none)) else (none)) else (if bt415.2 = 2 then (if 0 ≤ a1 then (if a1 < (l0_1.length : Int) then (if bt415.1 > ((rd_T38 l0_1 a1).f2) then ((taskmasterlaw12_known.f kj3).bind fun t430 => (some t430)) else (some false)) else (none)) else (none)) else ((taskmasterlaw12_known.f kj3).bind fun t431 => (some t431)))) else (some false))))) = some r := by rw [if_neg (show ¬ (false = true) by decide)] at H; exact H
        clear H
        have H := H1
        clear H1
        replace H := Option.bind_eq_some_iff.mp H
        obtain ⟨⟨t415, t416⟩, A210, H⟩ := H
        replace H : (if t416 = 3 then (if t416 = 1 then (if 0 ≤ a1 then (if a1 < (l0_1.length : Int) then (if t415 ≤ ((rd_T38 l0_1 a1).f2) then (if t416 = 2 then (if t415 > ((rd_T38 l0_1 a1).f2) then ((taskmasterlaw12_known.f kj3).bind fun t419 => (some t419)) else (some false)) else ((taskmasterlaw12_known.f kj3).bind fun t420 => (some t420))) else (some false)) else (none)) else (none)) else (if t416 = 2 then (if 0 ≤ a1 then (if a1 < (l0_1.length : Int) then (if t415 > ((rd_T38 l0_1 a1).f2) then ((taskmasterlaw12_known.f kj3).bind fun t422 => (some t422)) else (some false)) else (none)) else (none)) else ((taskmasterlaw12_known.f kj3).bind fun t423 => (some t423)))) else ((taskmasterref8_Work.f kj3 a0_0 l0_1 a1).bind fun t424 => (if t415 ≥ (wrap64 (a2 + t424)) then (if t416 = 1 then (if 0 ≤ a1 then (if a1 < (l0_1.length : Int) then (if t415 ≤ ((rd_T38 l0_1 a1).f2) then (if t416 = 2 then (if t415 > ((rd_T38 l0_1 a1).f2) then ((taskmasterlaw12_known.f kj3).bind fun t427 => (some t427)) else (some false)) else ((taskmasterlaw12_known.f kj3).bind fun t428 => (some t428))) else (some false)) else (none)) else (none)) else (if t416 = 2 then (if 0 ≤ a1 then (if a1 < (l0_1.length : Int) then (if t415 > ((rd_T38 l0_1 a1).f2) then ((taskmasterlaw12_known.f kj3).bind fun t430 => (some t430)) else (some false)) else (none)) else (none)) else ((taskmasterlaw12_known.f kj3).bind fun t431 => (some t431)))) else (some false)))) = some r := H
        have A21 := Aside0.mk A210
        clear A210
        by_cases c22 : t416 = 3
        · rw [if_pos c22] at H
          have c22b0 : (t416 == 3) = true := beq_iff_eq.mpr c22
          have c22b1 : (t416 != 3) = false := bne_eq_false_iff_eq.mpr c22
          clear c22
          by_cases c23 : t416 = 1
          · rw [if_pos c23] at H
            have c23b0 : (t416 == 1) = true := beq_iff_eq.mpr c23
            have c23b1 : (t416 != 1) = false := bne_eq_false_iff_eq.mpr c23
            clear c23
            by_cases c24 : 0 ≤ a1
            · rw [if_pos c24] at H
              have c24b0 : decide (0 ≤ a1) = true := decide_eq_true c24
              clear c24
              by_cases c25 : a1 < (l0_1.length : Int)
              · rw [if_pos c25] at H
                have c25b0 : decide (a1 < (l0_1.length : Int)) = true := decide_eq_true c25
                clear c25
                by_cases c26 : t415 ≤ ((rd_T38 l0_1 a1).f2)
                · rw [if_pos c26] at H
                  have c26b0 : decide (t415 ≤ ((rd_T38 l0_1 a1).f2)) = true := decide_eq_true c26
                  clear c26
                  by_cases c27 : t416 = 2
                  · rw [if_pos c27] at H
                    have c27b0 : (t416 == 2) = true := beq_iff_eq.mpr c27
                    have c27b1 : (t416 != 2) = false := bne_eq_false_iff_eq.mpr c27
                    clear c27
                    by_cases c28 : t415 > ((rd_T38 l0_1 a1).f2)
                    · rw [if_pos c28] at H
                      have c28b0 : decide (((rd_T38 l0_1 a1).f2) < t415) = true := decide_eq_true c28
                      clear c28
                      replace H := Option.bind_eq_some_iff.mp H
                      obtain ⟨t419, A290, H⟩ := H
                      replace H : (some t419) = some r := H
                      have A29 := Aside0.mk A290
                      clear A290
                      obtain rfl := Option.some.inj H
                      have hcz30_0 : wc.cell? ⟨gb413, 0, none⟩ = some (.int .i64 a0_0) := (blk_cell BK413.out 0).trans rfl
                      have hcz30_1 : wc.cell? ⟨gb413, 1, none⟩ = some (.slice A0_1 l0_1.length c0_1) := (blk_cell BK413.out 1).trans rfl
                      have hfz30_0 := blk_frozen BK413.out 0
                      have hfz30_1 := blk_frozen BK413.out 1
                      go_wp2_with (first | ((with_reducible refine gate_callee (f := 22) rfl ?_); refine goesL_ (some 31) rfl rfl Try.func22 (by kernel_rfl) rfl #[.agg #[.int .i64 a0_0, .slice A0_1 l0_1.length c0_1], .int .i64 a1, .int .i64 a2] rfl (by (try simp only [List.map_toArray, List.map_cons, List.map_nil]); first | done | rfl | (simp only [List.length_drop, List.length_take]; rfl)) ?_; (with_reducible refine (resp_With.calls kj3 a0_0 _ _ l0_1 a1 a2 t415 t416 _ ?side1 ?side2 A21.out).mono ?_); (case side1 => repeat (first | exact (Kd.C_below HR0_1.out HB.out) | (with_reducible refine Kd.C_alloc ?_ _) | (with_reducible refine Kd.C_drewN ?_ _) | (with_reducible refine Kd.C_drew ?_))); (case side2 => exact HC0_1.out); rintro e w31 ⟨rfl, hb⟩; refine ⟨_, rfl, ?_⟩; have n0_ := Aside0.mk (blk_below (g := gb413) (o := .cells #[.int .i64 a0_0, .slice A0_1 l0_1.length c0_1] 24 (0, 0)) (by (with_reducible repeat (first | refine blk_drewN ?_ _ | refine blk_drew ?_ | refine blk_alloc ?_ _)); exact BK413.out) hb); have n1_ := Aside0.mk (below_step (by repeat (first | (with_reducible first | exact HB.out | apply below_alloc | apply pw_below_drewN | apply below_drew1 | refine below_set ?_ GE413.out) | exact HB.out)) hb); clear BK413; clear HB; have BK413 := n0_; have HB := n1_; clear n0_ n1_; (try clear hb); (try clear hb2); (try clear hk); (try clear hi); have hcz32_0 : w31.cell? ⟨gb413, 0, none⟩ = some (.int .i64 a0_0) := (blk_cell BK413.out 0).trans rfl; have hcz32_1 : w31.cell? ⟨gb413, 1, none⟩ = some (.slice A0_1 l0_1.length c0_1) := (blk_cell BK413.out 1).trans rfl; have hfz32_0 := blk_frozen BK413.out 0; have hfz32_1 := blk_frozen BK413.out 1; have p417 : 0 ≤ (a1 : Int) := of_decide_eq_true (by first | (with_reducible assumption) | assumption); have q417 : a1 < (l0_1.length : Int) := of_decide_eq_true (by first | (with_reducible assumption) | assumption); obtain ⟨ad417, A417_6, c417_6, e417, hx417_0, hx417_1, hx417_2, hx417_3, hx417_4, hx417_5, hx417_6, hx417_7, hx417_8, hl417_6, hi417_6⟩ := at_T38 HR0_1.out a1 p417 q417; cases e417; replace hx417_0 := (HB.out.cell (World.block_lt_of_cell? w _ hx417_0)).trans hx417_0; replace hx417_1 := (HB.out.cell (World.block_lt_of_cell? w _ hx417_1)).trans hx417_1; replace hx417_2 := (HB.out.cell (World.block_lt_of_cell? w _ hx417_2)).trans hx417_2; replace hx417_3 := (HB.out.cell (World.block_lt_of_cell? w _ hx417_3)).trans hx417_3; replace hx417_4 := (HB.out.cell (World.block_lt_of_cell? w _ hx417_4)).trans hx417_4; replace hx417_5 := (HB.out.cell (World.block_lt_of_cell? w _ hx417_5)).trans hx417_5; replace hx417_6 := (HB.out.cell (World.block_lt_of_cell? w _ hx417_6)).trans hx417_6; replace hx417_7 := (HB.out.cell (World.block_lt_of_cell? w _ hx417_7)).trans hx417_7; replace hx417_8 := (HB.out.cell (World.block_lt_of_cell? w _ hx417_8)).trans hx417_8; have HR417_6 := Aside0.mk hi417_6; have HC417_6 := Aside0.mk hl417_6; clear hi417_6 hl417_6; replace p417 := eq_true p417; replace q417 := eq_true q417; have p418 : 0 ≤ (a1 : Int) := of_decide_eq_true (by first | (with_reducible assumption) | assumption); have q418 : a1 < (l0_1.length : Int) := of_decide_eq_true (by first | (with_reducible assumption) | assumption); obtain ⟨ad418, A418_6, c418_6, e418, hx418_0, hx418_1, hx418_2, hx418_3, hx418_4, hx418_5, hx418_6, hx418_7, hx418_8, hl418_6, hi418_6⟩ := at_T38 HR0_1.out a1 p418 q418; obtain rfl : ad417 = ad418 := (by injection e418); replace hx418_0 := (HB.out.cell (World.block_lt_of_cell? w _ hx418_0)).trans hx418_0; replace hx418_1 := (HB.out.cell (World.block_lt_of_cell? w _ hx418_1)).trans hx418_1; replace hx418_2 := (HB.out.cell (World.block_lt_of_cell? w _ hx418_2)).trans hx418_2; replace hx418_3 := (HB.out.cell (World.block_lt_of_cell? w _ hx418_3)).trans hx418_3; replace hx418_4 := (HB.out.cell (World.block_lt_of_cell? w _ hx418_4)).trans hx418_4; replace hx418_5 := (HB.out.cell (World.block_lt_of_cell? w _ hx418_5)).trans hx418_5; replace hx418_6 := (HB.out.cell (World.block_lt_of_cell? w _ hx418_6)).trans hx418_6; replace hx418_7 := (HB.out.cell (World.block_lt_of_cell? w _ hx418_7)).trans hx418_7; replace hx418_8 := (HB.out.cell (World.block_lt_of_cell? w _ hx418_8)).trans hx418_8; have HR418_6 := Aside0.mk hi418_6; have HC418_6 := Aside0.mk hl418_6; clear hi418_6 hl418_6; replace p418 := eq_true p418; replace q418 := eq_true q418; have ea_ := Option.some.inj (hx417_6.symm.trans hx418_6); injection ea_ with ea_ en_ ec_; subst ea_; subst ec_; clear en_) | (go_at_call 23; (with_reducible refine (taskmasterlaw12_known.calls kj3  t419 _ A29.out).mono ?_); rintro e w33 ⟨rfl, hb⟩; have n0_ := Aside0.mk (blk_below (g := gb413) (o := .cells #[.int .i64 a0_0, .slice (some ad417) l0_1.length c0_1] 24 (0, 0)) (by (with_reducible repeat (first | refine blk_drewN ?_ _ | refine blk_drew ?_ | refine blk_alloc ?_ _)); exact BK413.out) hb); have n1_ := Aside0.mk (below_step (by repeat (first | (with_reducible first | exact HB.out | apply below_alloc | apply pw_below_drewN | apply below_drew1 | refine below_set ?_ GE413.out) | exact HB.out)) hb); clear BK413; clear HB; have BK413 := n0_; have HB := n1_; clear n0_ n1_; (try clear hb); (try clear hb2); (try clear hk); (try clear hi)))
                      go_ret
                      exact ⟨by first | rfl | (simp [errW_none, errW_some] <;> rfl) | (simp [*, errW_none, errW_some] <;> rfl), by repeat (first | (with_reducible first | exact HB.out | apply below_alloc | apply pw_below_drewN | apply below_drew1 | refine below_set ?_ GE413.out) | exact HB.out)⟩
                    · rw [if_neg c28] at H
                      have c28b0 : decide (((rd_T38 l0_1 a1).f2) < t415) = false := decide_eq_false c28
                      clear c28
                      obtain rfl := Option.some.inj H
                      have hcz34_0 : wc.cell? ⟨gb413, 0, none⟩ = some (.int .i64 a0_0) := (blk_cell BK413.out 0).trans rfl
                      have hcz34_1 : wc.cell? ⟨gb413, 1, none⟩ = some (.slice A0_1 l0_1.length c0_1) := (blk_cell BK413.out 1).trans rfl
                      have hfz34_0 := blk_frozen BK413.out 0
                      have hfz34_1 := blk_frozen BK413.out 1
                      go_wp2_with (first | ((with_reducible refine gate_callee (f := 22) rfl ?_); refine goesL_ (some 31) rfl rfl Try.func22 (by kernel_rfl) rfl #[.agg #[.int .i64 a0_0, .slice A0_1 l0_1.length c0_1], .int .i64 a1, .int .i64 a2] rfl (by (try simp only [List.map_toArray, List.map_cons, List.map_nil]); first | done | rfl | (simp only [List.length_drop, List.length_take]; rfl)) ?_; (with_reducible refine (resp_With.calls kj3 a0_0 _ _ l0_1 a1 a2 t415 t416 _ ?side1 ?side2 A21.out).mono ?_); (case side1 => repeat (first | exact (Kd.C_below HR0_1.out HB.out) | (with_reducible refine Kd.C_alloc ?_ _) | (with_reducible refine Kd.C_drewN ?_ _) | (with_reducible refine Kd.C_drew ?_))); (case side2 => exact HC0_1.out); rintro e w35 ⟨rfl, hb⟩; refine ⟨_, rfl, ?_⟩; have n0_ := Aside0.mk (blk_below (g := gb413) (o := .cells #[.int .i64 a0_0, .slice A0_1 l0_1.length c0_1] 24 (0, 0)) (by (with_reducible repeat (first | refine blk_drewN ?_ _ | refine blk_drew ?_ | refine blk_alloc ?_ _)); exact BK413.out) hb); have n1_ := Aside0.mk (below_step (by repeat (first | (with_reducible first | exact HB.out | apply below_alloc | apply pw_below_drewN | apply below_drew1 | refine below_set ?_ GE413.out) | exact HB.out)) hb); clear BK413; clear HB; have BK413 := n0_; have HB := n1_; clear n0_ n1_; (try clear hb); (try clear hb2); (try clear hk); (try clear hi); have hcz36_0 : w35.cell? ⟨gb413, 0, none⟩ = some (.int .i64 a0_0) := (blk_cell BK413.out 0).trans rfl; have hcz36_1 : w35.cell? ⟨gb413, 1, none⟩ = some (.slice A0_1 l0_1.length c0_1) := (blk_cell BK413.out 1).trans rfl; have hfz36_0 := blk_frozen BK413.out 0; have hfz36_1 := blk_frozen BK413.out 1; have p417 : 0 ≤ (a1 : Int) := of_decide_eq_true (by first | (with_reducible assumption) | assumption); have q417 : a1 < (l0_1.length : Int) := of_decide_eq_true (by first | (with_reducible assumption) | assumption); obtain ⟨ad417, A417_6, c417_6, e417, hx417_0, hx417_1, hx417_2, hx417_3, hx417_4, hx417_5, hx417_6, hx417_7, hx417_8, hl417_6, hi417_6⟩ := at_T38 HR0_1.out a1 p417 q417; cases e417; replace hx417_0 := (HB.out.cell (World.block_lt_of_cell? w _ hx417_0)).trans hx417_0; replace hx417_1 := (HB.out.cell (World.block_lt_of_cell? w _ hx417_1)).trans hx417_1; replace hx417_2 := (HB.out.cell (World.block_lt_of_cell? w _ hx417_2)).trans hx417_2; replace hx417_3 := (HB.out.cell (World.block_lt_of_cell? w _ hx417_3)).trans hx417_3; replace hx417_4 := (HB.out.cell (World.block_lt_of_cell? w _ hx417_4)).trans hx417_4; replace hx417_5 := (HB.out.cell (World.block_lt_of_cell? w _ hx417_5)).trans hx417_5; replace hx417_6 := (HB.out.cell (World.block_lt_of_cell? w _ hx417_6)).trans hx417_6; replace hx417_7 := (HB.out.cell (World.block_lt_of_cell? w _ hx417_7)).trans hx417_7; replace hx417_8 := (HB.out.cell (World.block_lt_of_cell? w _ hx417_8)).trans hx417_8; have HR417_6 := Aside0.mk hi417_6; have HC417_6 := Aside0.mk hl417_6; clear hi417_6 hl417_6; replace p417 := eq_true p417; replace q417 := eq_true q417; have p418 : 0 ≤ (a1 : Int) := of_decide_eq_true (by first | (with_reducible assumption) | assumption); have q418 : a1 < (l0_1.length : Int) := of_decide_eq_true (by first | (with_reducible assumption) | assumption); obtain ⟨ad418, A418_6, c418_6, e418, hx418_0, hx418_1, hx418_2, hx418_3, hx418_4, hx418_5, hx418_6, hx418_7, hx418_8, hl418_6, hi418_6⟩ := at_T38 HR0_1.out a1 p418 q418; obtain rfl : ad417 = ad418 := (by injection e418); replace hx418_0 := (HB.out.cell (World.block_lt_of_cell? w _ hx418_0)).trans hx418_0; replace hx418_1 := (HB.out.cell (World.block_lt_of_cell? w _ hx418_1)).trans hx418_1; replace hx418_2 := (HB.out.cell (World.block_lt_of_cell? w _ hx418_2)).trans hx418_2; replace hx418_3 := (HB.out.cell (World.block_lt_of_cell? w _ hx418_3)).trans hx418_3; replace hx418_4 := (HB.out.cell (World.block_lt_of_cell? w _ hx418_4)).trans hx418_4; replace hx418_5 := (HB.out.cell (World.block_lt_of_cell? w _ hx418_5)).trans hx418_5; replace hx418_6 := (HB.out.cell (World.block_lt_of_cell? w _ hx418_6)).trans hx418_6; replace hx418_7 := (HB.out.cell (World.block_lt_of_cell? w _ hx418_7)).trans hx418_7; replace hx418_8 := (HB.out.cell (World.block_lt_of_cell? w _ hx418_8)).trans hx418_8; have HR418_6 := Aside0.mk hi418_6; have HC418_6 := Aside0.mk hl418_6; clear hi418_6 hl418_6; replace p418 := eq_true p418; replace q418 := eq_true q418; have ea_ := Option.some.inj (hx417_6.symm.trans hx418_6); injection ea_ with ea_ en_ ec_; subst ea_; subst ec_; clear en_))
                      go_ret
                      exact ⟨by first | rfl | (simp [errW_none, errW_some] <;> rfl) | (simp [*, errW_none, errW_some] <;> rfl), by repeat (first | (with_reducible first | exact HB.out | apply below_alloc | apply pw_below_drewN | apply below_drew1 | refine below_set ?_ GE413.out) | exact HB.out)⟩
                  · rw [if_neg c27] at H
                    have c27b0 : (t416 == 2) = false := beq_eq_false_iff_ne.mpr c27
                    have c27b1 : (t416 != 2) = true := bne_iff_ne.mpr c27
                    replace H := Option.bind_eq_some_iff.mp H
                    obtain ⟨t420, A370, H⟩ := H
                    replace H : (some t420) = some r := H
                    have A37 := Aside0.mk A370
                    clear A370
                    obtain rfl := Option.some.inj H
                    have hcz38_0 : wc.cell? ⟨gb413, 0, none⟩ = some (.int .i64 a0_0) := (blk_cell BK413.out 0).trans rfl
                    have hcz38_1 : wc.cell? ⟨gb413, 1, none⟩ = some (.slice A0_1 l0_1.length c0_1) := (blk_cell BK413.out 1).trans rfl
                    have hfz38_0 := blk_frozen BK413.out 0
                    have hfz38_1 := blk_frozen BK413.out 1
                    go_wp2_with (first | ((with_reducible refine gate_callee (f := 22) rfl ?_); refine goesL_ (some 31) rfl rfl Try.func22 (by kernel_rfl) rfl #[.agg #[.int .i64 a0_0, .slice A0_1 l0_1.length c0_1], .int .i64 a1, .int .i64 a2] rfl (by (try simp only [List.map_toArray, List.map_cons, List.map_nil]); first | done | rfl | (simp only [List.length_drop, List.length_take]; rfl)) ?_; (with_reducible refine (resp_With.calls kj3 a0_0 _ _ l0_1 a1 a2 t415 t416 _ ?side1 ?side2 A21.out).mono ?_); (case side1 => repeat (first | exact (Kd.C_below HR0_1.out HB.out) | (with_reducible refine Kd.C_alloc ?_ _) | (with_reducible refine Kd.C_drewN ?_ _) | (with_reducible refine Kd.C_drew ?_))); (case side2 => exact HC0_1.out); rintro e w39 ⟨rfl, hb⟩; refine ⟨_, rfl, ?_⟩; have n0_ := Aside0.mk (blk_below (g := gb413) (o := .cells #[.int .i64 a0_0, .slice A0_1 l0_1.length c0_1] 24 (0, 0)) (by (with_reducible repeat (first | refine blk_drewN ?_ _ | refine blk_drew ?_ | refine blk_alloc ?_ _)); exact BK413.out) hb); have n1_ := Aside0.mk (below_step (by repeat (first | (with_reducible first | exact HB.out | apply below_alloc | apply pw_below_drewN | apply below_drew1 | refine below_set ?_ GE413.out) | exact HB.out)) hb); clear BK413; clear HB; have BK413 := n0_; have HB := n1_; clear n0_ n1_; (try clear hb); (try clear hb2); (try clear hk); (try clear hi); have hcz40_0 : w39.cell? ⟨gb413, 0, none⟩ = some (.int .i64 a0_0) := (blk_cell BK413.out 0).trans rfl; have hcz40_1 : w39.cell? ⟨gb413, 1, none⟩ = some (.slice A0_1 l0_1.length c0_1) := (blk_cell BK413.out 1).trans rfl; have hfz40_0 := blk_frozen BK413.out 0; have hfz40_1 := blk_frozen BK413.out 1; have p417 : 0 ≤ (a1 : Int) := of_decide_eq_true (by first | (with_reducible assumption) | assumption); have q417 : a1 < (l0_1.length : Int) := of_decide_eq_true (by first | (with_reducible assumption) | assumption); obtain ⟨ad417, A417_6, c417_6, e417, hx417_0, hx417_1, hx417_2, hx417_3, hx417_4, hx417_5, hx417_6, hx417_7, hx417_8, hl417_6, hi417_6⟩ := at_T38 HR0_1.out a1 p417 q417; cases e417; replace hx417_0 := (HB.out.cell (World.block_lt_of_cell? w _ hx417_0)).trans hx417_0; replace hx417_1 := (HB.out.cell (World.block_lt_of_cell? w _ hx417_1)).trans hx417_1; replace hx417_2 := (HB.out.cell (World.block_lt_of_cell? w _ hx417_2)).trans hx417_2; replace hx417_3 := (HB.out.cell (World.block_lt_of_cell? w _ hx417_3)).trans hx417_3; replace hx417_4 := (HB.out.cell (World.block_lt_of_cell? w _ hx417_4)).trans hx417_4; replace hx417_5 := (HB.out.cell (World.block_lt_of_cell? w _ hx417_5)).trans hx417_5; replace hx417_6 := (HB.out.cell (World.block_lt_of_cell? w _ hx417_6)).trans hx417_6; replace hx417_7 := (HB.out.cell (World.block_lt_of_cell? w _ hx417_7)).trans hx417_7; replace hx417_8 := (HB.out.cell (World.block_lt_of_cell? w _ hx417_8)).trans hx417_8; have HR417_6 := Aside0.mk hi417_6; have HC417_6 := Aside0.mk hl417_6; clear hi417_6 hl417_6; replace p417 := eq_true p417; replace q417 := eq_true q417) | (go_at_call 23; (with_reducible refine (taskmasterlaw12_known.calls kj3  t420 _ A37.out).mono ?_); rintro e w41 ⟨rfl, hb⟩; have n0_ := Aside0.mk (blk_below (g := gb413) (o := .cells #[.int .i64 a0_0, .slice (some ad417) l0_1.length c0_1] 24 (0, 0)) (by (with_reducible repeat (first | refine blk_drewN ?_ _ | refine blk_drew ?_ | refine blk_alloc ?_ _)); exact BK413.out) hb); have n1_ := Aside0.mk (below_step (by repeat (first | (with_reducible first | exact HB.out | apply below_alloc | apply pw_below_drewN | apply below_drew1 | refine below_set ?_ GE413.out) | exact HB.out)) hb); clear BK413; clear HB; have BK413 := n0_; have HB := n1_; clear n0_ n1_; (try clear hb); (try clear hb2); (try clear hk); (try clear hi)))
                    go_ret
                    exact ⟨by first | rfl | (simp [errW_none, errW_some] <;> rfl) | (simp [*, errW_none, errW_some] <;> rfl), by repeat (first | (with_reducible first | exact HB.out | apply below_alloc | apply pw_below_drewN | apply below_drew1 | refine below_set ?_ GE413.out) | exact HB.out)⟩
                · rw [if_neg c26] at H
                  have c26b0 : decide (t415 ≤ ((rd_T38 l0_1 a1).f2)) = false := decide_eq_false c26
                  clear c26
                  obtain rfl := Option.some.inj H
                  have hcz42_0 : wc.cell? ⟨gb413, 0, none⟩ = some (.int .i64 a0_0) := (blk_cell BK413.out 0).trans rfl
                  have hcz42_1 : wc.cell? ⟨gb413, 1, none⟩ = some (.slice A0_1 l0_1.length c0_1) := (blk_cell BK413.out 1).trans rfl
                  have hfz42_0 := blk_frozen BK413.out 0
                  have hfz42_1 := blk_frozen BK413.out 1
                  go_wp2_with (first | ((with_reducible refine gate_callee (f := 22) rfl ?_); refine goesL_ (some 31) rfl rfl Try.func22 (by kernel_rfl) rfl #[.agg #[.int .i64 a0_0, .slice A0_1 l0_1.length c0_1], .int .i64 a1, .int .i64 a2] rfl (by (try simp only [List.map_toArray, List.map_cons, List.map_nil]); first | done | rfl | (simp only [List.length_drop, List.length_take]; rfl)) ?_; (with_reducible refine (resp_With.calls kj3 a0_0 _ _ l0_1 a1 a2 t415 t416 _ ?side1 ?side2 A21.out).mono ?_); (case side1 => repeat (first | exact (Kd.C_below HR0_1.out HB.out) | (with_reducible refine Kd.C_alloc ?_ _) | (with_reducible refine Kd.C_drewN ?_ _) | (with_reducible refine Kd.C_drew ?_))); (case side2 => exact HC0_1.out); rintro e w43 ⟨rfl, hb⟩; refine ⟨_, rfl, ?_⟩; have n0_ := Aside0.mk (blk_below (g := gb413) (o := .cells #[.int .i64 a0_0, .slice A0_1 l0_1.length c0_1] 24 (0, 0)) (by (with_reducible repeat (first | refine blk_drewN ?_ _ | refine blk_drew ?_ | refine blk_alloc ?_ _)); exact BK413.out) hb); have n1_ := Aside0.mk (below_step (by repeat (first | (with_reducible first | exact HB.out | apply below_alloc | apply pw_below_drewN | apply below_drew1 | refine below_set ?_ GE413.out) | exact HB.out)) hb); clear BK413; clear HB; have BK413 := n0_; have HB := n1_; clear n0_ n1_; (try clear hb); (try clear hb2); (try clear hk); (try clear hi); have hcz44_0 : w43.cell? ⟨gb413, 0, none⟩ = some (.int .i64 a0_0) := (blk_cell BK413.out 0).trans rfl; have hcz44_1 : w43.cell? ⟨gb413, 1, none⟩ = some (.slice A0_1 l0_1.length c0_1) := (blk_cell BK413.out 1).trans rfl; have hfz44_0 := blk_frozen BK413.out 0; have hfz44_1 := blk_frozen BK413.out 1; have p417 : 0 ≤ (a1 : Int) := of_decide_eq_true (by first | (with_reducible assumption) | assumption); have q417 : a1 < (l0_1.length : Int) := of_decide_eq_true (by first | (with_reducible assumption) | assumption); obtain ⟨ad417, A417_6, c417_6, e417, hx417_0, hx417_1, hx417_2, hx417_3, hx417_4, hx417_5, hx417_6, hx417_7, hx417_8, hl417_6, hi417_6⟩ := at_T38 HR0_1.out a1 p417 q417; cases e417; replace hx417_0 := (HB.out.cell (World.block_lt_of_cell? w _ hx417_0)).trans hx417_0; replace hx417_1 := (HB.out.cell (World.block_lt_of_cell? w _ hx417_1)).trans hx417_1; replace hx417_2 := (HB.out.cell (World.block_lt_of_cell? w _ hx417_2)).trans hx417_2; replace hx417_3 := (HB.out.cell (World.block_lt_of_cell? w _ hx417_3)).trans hx417_3; replace hx417_4 := (HB.out.cell (World.block_lt_of_cell? w _ hx417_4)).trans hx417_4; replace hx417_5 := (HB.out.cell (World.block_lt_of_cell? w _ hx417_5)).trans hx417_5; replace hx417_6 := (HB.out.cell (World.block_lt_of_cell? w _ hx417_6)).trans hx417_6; replace hx417_7 := (HB.out.cell (World.block_lt_of_cell? w _ hx417_7)).trans hx417_7; replace hx417_8 := (HB.out.cell (World.block_lt_of_cell? w _ hx417_8)).trans hx417_8; have HR417_6 := Aside0.mk hi417_6; have HC417_6 := Aside0.mk hl417_6; clear hi417_6 hl417_6; replace p417 := eq_true p417; replace q417 := eq_true q417))
                  go_ret
                  exact ⟨by first | rfl | (simp [errW_none, errW_some] <;> rfl) | (simp [*, errW_none, errW_some] <;> rfl), by repeat (first | (with_reducible first | exact HB.out | apply below_alloc | apply pw_below_drewN | apply below_drew1 | refine below_set ?_ GE413.out) | exact HB.out)⟩
              · rw [if_neg c25] at H
                exact absurd H (by simp)
            · rw [if_neg c24] at H
              exact absurd H (by simp)
          · rw [if_neg c23] at H
            have c23b0 : (t416 == 1) = false := beq_eq_false_iff_ne.mpr c23
            have c23b1 : (t416 != 1) = true := bne_iff_ne.mpr c23
            by_cases c45 : t416 = 2
            · rw [if_pos c45] at H
              have c45b0 : (t416 == 2) = true := beq_iff_eq.mpr c45
              have c45b1 : (t416 != 2) = false := bne_eq_false_iff_eq.mpr c45
              clear c45
              by_cases c46 : 0 ≤ a1
              · rw [if_pos c46] at H
                have c46b0 : decide (0 ≤ a1) = true := decide_eq_true c46
                clear c46
                by_cases c47 : a1 < (l0_1.length : Int)
                · rw [if_pos c47] at H
                  have c47b0 : decide (a1 < (l0_1.length : Int)) = true := decide_eq_true c47
                  clear c47
                  by_cases c48 : t415 > ((rd_T38 l0_1 a1).f2)
                  · rw [if_pos c48] at H
                    have c48b0 : decide (((rd_T38 l0_1 a1).f2) < t415) = true := decide_eq_true c48
                    clear c48
                    replace H := Option.bind_eq_some_iff.mp H
                    obtain ⟨t422, A490, H⟩ := H
                    replace H : (some t422) = some r := H
                    have A49 := Aside0.mk A490
                    clear A490
                    obtain rfl := Option.some.inj H
                    have hcz50_0 : wc.cell? ⟨gb413, 0, none⟩ = some (.int .i64 a0_0) := (blk_cell BK413.out 0).trans rfl
                    have hcz50_1 : wc.cell? ⟨gb413, 1, none⟩ = some (.slice A0_1 l0_1.length c0_1) := (blk_cell BK413.out 1).trans rfl
                    have hfz50_0 := blk_frozen BK413.out 0
                    have hfz50_1 := blk_frozen BK413.out 1
                    go_wp2_with (first | ((with_reducible refine gate_callee (f := 22) rfl ?_); refine goesL_ (some 31) rfl rfl Try.func22 (by kernel_rfl) rfl #[.agg #[.int .i64 a0_0, .slice A0_1 l0_1.length c0_1], .int .i64 a1, .int .i64 a2] rfl (by (try simp only [List.map_toArray, List.map_cons, List.map_nil]); first | done | rfl | (simp only [List.length_drop, List.length_take]; rfl)) ?_; (with_reducible refine (resp_With.calls kj3 a0_0 _ _ l0_1 a1 a2 t415 t416 _ ?side1 ?side2 A21.out).mono ?_); (case side1 => repeat (first | exact (Kd.C_below HR0_1.out HB.out) | (with_reducible refine Kd.C_alloc ?_ _) | (with_reducible refine Kd.C_drewN ?_ _) | (with_reducible refine Kd.C_drew ?_))); (case side2 => exact HC0_1.out); rintro e w51 ⟨rfl, hb⟩; refine ⟨_, rfl, ?_⟩; have n0_ := Aside0.mk (blk_below (g := gb413) (o := .cells #[.int .i64 a0_0, .slice A0_1 l0_1.length c0_1] 24 (0, 0)) (by (with_reducible repeat (first | refine blk_drewN ?_ _ | refine blk_drew ?_ | refine blk_alloc ?_ _)); exact BK413.out) hb); have n1_ := Aside0.mk (below_step (by repeat (first | (with_reducible first | exact HB.out | apply below_alloc | apply pw_below_drewN | apply below_drew1 | refine below_set ?_ GE413.out) | exact HB.out)) hb); clear BK413; clear HB; have BK413 := n0_; have HB := n1_; clear n0_ n1_; (try clear hb); (try clear hb2); (try clear hk); (try clear hi); have hcz52_0 : w51.cell? ⟨gb413, 0, none⟩ = some (.int .i64 a0_0) := (blk_cell BK413.out 0).trans rfl; have hcz52_1 : w51.cell? ⟨gb413, 1, none⟩ = some (.slice A0_1 l0_1.length c0_1) := (blk_cell BK413.out 1).trans rfl; have hfz52_0 := blk_frozen BK413.out 0; have hfz52_1 := blk_frozen BK413.out 1; have p421 : 0 ≤ (a1 : Int) := of_decide_eq_true (by first | (with_reducible assumption) | assumption); have q421 : a1 < (l0_1.length : Int) := of_decide_eq_true (by first | (with_reducible assumption) | assumption); obtain ⟨ad421, A421_6, c421_6, e421, hx421_0, hx421_1, hx421_2, hx421_3, hx421_4, hx421_5, hx421_6, hx421_7, hx421_8, hl421_6, hi421_6⟩ := at_T38 HR0_1.out a1 p421 q421; cases e421; replace hx421_0 := (HB.out.cell (World.block_lt_of_cell? w _ hx421_0)).trans hx421_0; replace hx421_1 := (HB.out.cell (World.block_lt_of_cell? w _ hx421_1)).trans hx421_1; replace hx421_2 := (HB.out.cell (World.block_lt_of_cell? w _ hx421_2)).trans hx421_2; replace hx421_3 := (HB.out.cell (World.block_lt_of_cell? w _ hx421_3)).trans hx421_3; replace hx421_4 := (HB.out.cell (World.block_lt_of_cell? w _ hx421_4)).trans hx421_4; replace hx421_5 := (HB.out.cell (World.block_lt_of_cell? w _ hx421_5)).trans hx421_5; replace hx421_6 := (HB.out.cell (World.block_lt_of_cell? w _ hx421_6)).trans hx421_6; replace hx421_7 := (HB.out.cell (World.block_lt_of_cell? w _ hx421_7)).trans hx421_7; replace hx421_8 := (HB.out.cell (World.block_lt_of_cell? w _ hx421_8)).trans hx421_8; have HR421_6 := Aside0.mk hi421_6; have HC421_6 := Aside0.mk hl421_6; clear hi421_6 hl421_6; replace p421 := eq_true p421; replace q421 := eq_true q421) | (go_at_call 23; (with_reducible refine (taskmasterlaw12_known.calls kj3  t422 _ A49.out).mono ?_); rintro e w53 ⟨rfl, hb⟩; have n0_ := Aside0.mk (blk_below (g := gb413) (o := .cells #[.int .i64 a0_0, .slice (some ad421) l0_1.length c0_1] 24 (0, 0)) (by (with_reducible repeat (first | refine blk_drewN ?_ _ | refine blk_drew ?_ | refine blk_alloc ?_ _)); exact BK413.out) hb); have n1_ := Aside0.mk (below_step (by repeat (first | (with_reducible first | exact HB.out | apply below_alloc | apply pw_below_drewN | apply below_drew1 | refine below_set ?_ GE413.out) | exact HB.out)) hb); clear BK413; clear HB; have BK413 := n0_; have HB := n1_; clear n0_ n1_; (try clear hb); (try clear hb2); (try clear hk); (try clear hi)))
                    go_ret
                    exact ⟨by first | rfl | (simp [errW_none, errW_some] <;> rfl) | (simp [*, errW_none, errW_some] <;> rfl), by repeat (first | (with_reducible first | exact HB.out | apply below_alloc | apply pw_below_drewN | apply below_drew1 | refine below_set ?_ GE413.out) | exact HB.out)⟩
                  · rw [if_neg c48] at H
                    have c48b0 : decide (((rd_T38 l0_1 a1).f2) < t415) = false := decide_eq_false c48
                    clear c48
                    obtain rfl := Option.some.inj H
                    have hcz54_0 : wc.cell? ⟨gb413, 0, none⟩ = some (.int .i64 a0_0) := (blk_cell BK413.out 0).trans rfl
                    have hcz54_1 : wc.cell? ⟨gb413, 1, none⟩ = some (.slice A0_1 l0_1.length c0_1) := (blk_cell BK413.out 1).trans rfl
                    have hfz54_0 := blk_frozen BK413.out 0
                    have hfz54_1 := blk_frozen BK413.out 1
                    go_wp2_with (first | ((with_reducible refine gate_callee (f := 22) rfl ?_); refine goesL_ (some 31) rfl rfl Try.func22 (by kernel_rfl) rfl #[.agg #[.int .i64 a0_0, .slice A0_1 l0_1.length c0_1], .int .i64 a1, .int .i64 a2] rfl (by (try simp only [List.map_toArray, List.map_cons, List.map_nil]); first | done | rfl | (simp only [List.length_drop, List.length_take]; rfl)) ?_; (with_reducible refine (resp_With.calls kj3 a0_0 _ _ l0_1 a1 a2 t415 t416 _ ?side1 ?side2 A21.out).mono ?_); (case side1 => repeat (first | exact (Kd.C_below HR0_1.out HB.out) | (with_reducible refine Kd.C_alloc ?_ _) | (with_reducible refine Kd.C_drewN ?_ _) | (with_reducible refine Kd.C_drew ?_))); (case side2 => exact HC0_1.out); rintro e w55 ⟨rfl, hb⟩; refine ⟨_, rfl, ?_⟩; have n0_ := Aside0.mk (blk_below (g := gb413) (o := .cells #[.int .i64 a0_0, .slice A0_1 l0_1.length c0_1] 24 (0, 0)) (by (with_reducible repeat (first | refine blk_drewN ?_ _ | refine blk_drew ?_ | refine blk_alloc ?_ _)); exact BK413.out) hb); have n1_ := Aside0.mk (below_step (by repeat (first | (with_reducible first | exact HB.out | apply below_alloc | apply pw_below_drewN | apply below_drew1 | refine below_set ?_ GE413.out) | exact HB.out)) hb); clear BK413; clear HB; have BK413 := n0_; have HB := n1_; clear n0_ n1_; (try clear hb); (try clear hb2); (try clear hk); (try clear hi); have hcz56_0 : w55.cell? ⟨gb413, 0, none⟩ = some (.int .i64 a0_0) := (blk_cell BK413.out 0).trans rfl; have hcz56_1 : w55.cell? ⟨gb413, 1, none⟩ = some (.slice A0_1 l0_1.length c0_1) := (blk_cell BK413.out 1).trans rfl; have hfz56_0 := blk_frozen BK413.out 0; have hfz56_1 := blk_frozen BK413.out 1; have p421 : 0 ≤ (a1 : Int) := of_decide_eq_true (by first | (with_reducible assumption) | assumption); have q421 : a1 < (l0_1.length : Int) := of_decide_eq_true (by first | (with_reducible assumption) | assumption); obtain ⟨ad421, A421_6, c421_6, e421, hx421_0, hx421_1, hx421_2, hx421_3, hx421_4, hx421_5, hx421_6, hx421_7, hx421_8, hl421_6, hi421_6⟩ := at_T38 HR0_1.out a1 p421 q421; cases e421; replace hx421_0 := (HB.out.cell (World.block_lt_of_cell? w _ hx421_0)).trans hx421_0; replace hx421_1 := (HB.out.cell (World.block_lt_of_cell? w _ hx421_1)).trans hx421_1; replace hx421_2 := (HB.out.cell (World.block_lt_of_cell? w _ hx421_2)).trans hx421_2; replace hx421_3 := (HB.out.cell (World.block_lt_of_cell? w _ hx421_3)).trans hx421_3; replace hx421_4 := (HB.out.cell (World.block_lt_of_cell? w _ hx421_4)).trans hx421_4; replace hx421_5 := (HB.out.cell (World.block_lt_of_cell? w _ hx421_5)).trans hx421_5; replace hx421_6 := (HB.out.cell (World.block_lt_of_cell? w _ hx421_6)).trans hx421_6; replace hx421_7 := (HB.out.cell (World.block_lt_of_cell? w _ hx421_7)).trans hx421_7; replace hx421_8 := (HB.out.cell (World.block_lt_of_cell? w _ hx421_8)).trans hx421_8; have HR421_6 := Aside0.mk hi421_6; have HC421_6 := Aside0.mk hl421_6; clear hi421_6 hl421_6; replace p421 := eq_true p421; replace q421 := eq_true q421))
                    go_ret
                    exact ⟨by first | rfl | (simp [errW_none, errW_some] <;> rfl) | (simp [*, errW_none, errW_some] <;> rfl), by repeat (first | (with_reducible first | exact HB.out | apply below_alloc | apply pw_below_drewN | apply below_drew1 | refine below_set ?_ GE413.out) | exact HB.out)⟩
                · rw [if_neg c47] at H
                  exact absurd H (by simp)
              · rw [if_neg c46] at H
                exact absurd H (by simp)
            · rw [if_neg c45] at H
              have c45b0 : (t416 == 2) = false := beq_eq_false_iff_ne.mpr c45
              have c45b1 : (t416 != 2) = true := bne_iff_ne.mpr c45
              replace H := Option.bind_eq_some_iff.mp H
              obtain ⟨t423, A570, H⟩ := H
              replace H : (some t423) = some r := H
              have A57 := Aside0.mk A570
              clear A570
              obtain rfl := Option.some.inj H
              have hcz58_0 : wc.cell? ⟨gb413, 0, none⟩ = some (.int .i64 a0_0) := (blk_cell BK413.out 0).trans rfl
              have hcz58_1 : wc.cell? ⟨gb413, 1, none⟩ = some (.slice A0_1 l0_1.length c0_1) := (blk_cell BK413.out 1).trans rfl
              have hfz58_0 := blk_frozen BK413.out 0
              have hfz58_1 := blk_frozen BK413.out 1
              go_wp2_with (first | ((with_reducible refine gate_callee (f := 22) rfl ?_); refine goesL_ (some 31) rfl rfl Try.func22 (by kernel_rfl) rfl #[.agg #[.int .i64 a0_0, .slice A0_1 l0_1.length c0_1], .int .i64 a1, .int .i64 a2] rfl (by (try simp only [List.map_toArray, List.map_cons, List.map_nil]); first | done | rfl | (simp only [List.length_drop, List.length_take]; rfl)) ?_; (with_reducible refine (resp_With.calls kj3 a0_0 _ _ l0_1 a1 a2 t415 t416 _ ?side1 ?side2 A21.out).mono ?_); (case side1 => repeat (first | exact (Kd.C_below HR0_1.out HB.out) | (with_reducible refine Kd.C_alloc ?_ _) | (with_reducible refine Kd.C_drewN ?_ _) | (with_reducible refine Kd.C_drew ?_))); (case side2 => exact HC0_1.out); rintro e w59 ⟨rfl, hb⟩; refine ⟨_, rfl, ?_⟩; have n0_ := Aside0.mk (blk_below (g := gb413) (o := .cells #[.int .i64 a0_0, .slice A0_1 l0_1.length c0_1] 24 (0, 0)) (by (with_reducible repeat (first | refine blk_drewN ?_ _ | refine blk_drew ?_ | refine blk_alloc ?_ _)); exact BK413.out) hb); have n1_ := Aside0.mk (below_step (by repeat (first | (with_reducible first | exact HB.out | apply below_alloc | apply pw_below_drewN | apply below_drew1 | refine below_set ?_ GE413.out) | exact HB.out)) hb); clear BK413; clear HB; have BK413 := n0_; have HB := n1_; clear n0_ n1_; (try clear hb); (try clear hb2); (try clear hk); (try clear hi)) | (go_at_call 23; (with_reducible refine (taskmasterlaw12_known.calls kj3  t423 _ A57.out).mono ?_); rintro e w60 ⟨rfl, hb⟩; have n0_ := Aside0.mk (blk_below (g := gb413) (o := .cells #[.int .i64 a0_0, .slice A0_1 l0_1.length c0_1] 24 (0, 0)) (by (with_reducible repeat (first | refine blk_drewN ?_ _ | refine blk_drew ?_ | refine blk_alloc ?_ _)); exact BK413.out) hb); have n1_ := Aside0.mk (below_step (by repeat (first | (with_reducible first | exact HB.out | apply below_alloc | apply pw_below_drewN | apply below_drew1 | refine below_set ?_ GE413.out) | exact HB.out)) hb); clear BK413; clear HB; have BK413 := n0_; have HB := n1_; clear n0_ n1_; (try clear hb); (try clear hb2); (try clear hk); (try clear hi)))
              go_ret
              exact ⟨by first | rfl | (simp [errW_none, errW_some] <;> rfl) | (simp [*, errW_none, errW_some] <;> rfl), by repeat (first | (with_reducible first | exact HB.out | apply below_alloc | apply pw_below_drewN | apply below_drew1 | refine below_set ?_ GE413.out) | exact HB.out)⟩
        · rw [if_neg c22] at H
          have c22b0 : (t416 == 3) = false := beq_eq_false_iff_ne.mpr c22
          have c22b1 : (t416 != 3) = true := bne_iff_ne.mpr c22
          replace H := Option.bind_eq_some_iff.mp H
          obtain ⟨t424, A610, H⟩ := H
          replace H : (if t415 ≥ (wrap64 (a2 + t424)) then (if t416 = 1 then (if 0 ≤ a1 then (if a1 < (l0_1.length : Int) then (if t415 ≤ ((rd_T38 l0_1 a1).f2) then (if t416 = 2 then (if t415 > ((rd_T38 l0_1 a1).f2) then ((taskmasterlaw12_known.f kj3).bind fun t427 => (some t427)) else (some false)) else ((taskmasterlaw12_known.f kj3).bind fun t428 => (some t428))) else (some false)) else (none)) else (none)) else (if t416 = 2 then (if 0 ≤ a1 then (if a1 < (l0_1.length : Int) then (if t415 > ((rd_T38 l0_1 a1).f2) then ((taskmasterlaw12_known.f kj3).bind fun t430 => (some t430)) else (some false)) else (none)) else (none)) else ((taskmasterlaw12_known.f kj3).bind fun t431 => (some t431)))) else (some false)) = some r := H
          have A61 := Aside0.mk A610
          clear A610
          by_cases c62 : t415 ≥ (wrap64 (a2 + t424))
          · rw [if_pos c62] at H
            have c62b0 : decide ((wrap64 (a2 + t424)) ≤ t415) = true := decide_eq_true c62
            clear c62
            by_cases c63 : t416 = 1
            · rw [if_pos c63] at H
              have c63b0 : (t416 == 1) = true := beq_iff_eq.mpr c63
              have c63b1 : (t416 != 1) = false := bne_eq_false_iff_eq.mpr c63
              clear c63
              by_cases c64 : 0 ≤ a1
              · rw [if_pos c64] at H
                have c64b0 : decide (0 ≤ a1) = true := decide_eq_true c64
                clear c64
                by_cases c65 : a1 < (l0_1.length : Int)
                · rw [if_pos c65] at H
                  have c65b0 : decide (a1 < (l0_1.length : Int)) = true := decide_eq_true c65
                  clear c65
                  by_cases c66 : t415 ≤ ((rd_T38 l0_1 a1).f2)
                  · rw [if_pos c66] at H
                    have c66b0 : decide (t415 ≤ ((rd_T38 l0_1 a1).f2)) = true := decide_eq_true c66
                    clear c66
                    by_cases c67 : t416 = 2
                    · rw [if_pos c67] at H
                      have c67b0 : (t416 == 2) = true := beq_iff_eq.mpr c67
                      have c67b1 : (t416 != 2) = false := bne_eq_false_iff_eq.mpr c67
                      clear c67
                      by_cases c68 : t415 > ((rd_T38 l0_1 a1).f2)
                      · rw [if_pos c68] at H
                        have c68b0 : decide (((rd_T38 l0_1 a1).f2) < t415) = true := decide_eq_true c68
                        clear c68
                        replace H := Option.bind_eq_some_iff.mp H
                        obtain ⟨t427, A690, H⟩ := H
                        replace H : (some t427) = some r := H
                        have A69 := Aside0.mk A690
                        clear A690
                        obtain rfl := Option.some.inj H
                        have hcz70_0 : wc.cell? ⟨gb413, 0, none⟩ = some (.int .i64 a0_0) := (blk_cell BK413.out 0).trans rfl
                        have hcz70_1 : wc.cell? ⟨gb413, 1, none⟩ = some (.slice A0_1 l0_1.length c0_1) := (blk_cell BK413.out 1).trans rfl
                        have hfz70_0 := blk_frozen BK413.out 0
                        have hfz70_1 := blk_frozen BK413.out 1
                        go_wp2_with (first | ((with_reducible refine gate_callee (f := 22) rfl ?_); refine goesL_ (some 31) rfl rfl Try.func22 (by kernel_rfl) rfl #[.agg #[.int .i64 a0_0, .slice A0_1 l0_1.length c0_1], .int .i64 a1, .int .i64 a2] rfl (by (try simp only [List.map_toArray, List.map_cons, List.map_nil]); first | done | rfl | (simp only [List.length_drop, List.length_take]; rfl)) ?_; (with_reducible refine (resp_With.calls kj3 a0_0 _ _ l0_1 a1 a2 t415 t416 _ ?side1 ?side2 A21.out).mono ?_); (case side1 => repeat (first | exact (Kd.C_below HR0_1.out HB.out) | (with_reducible refine Kd.C_alloc ?_ _) | (with_reducible refine Kd.C_drewN ?_ _) | (with_reducible refine Kd.C_drew ?_))); (case side2 => exact HC0_1.out); rintro e w71 ⟨rfl, hb⟩; refine ⟨_, rfl, ?_⟩; have n0_ := Aside0.mk (blk_below (g := gb413) (o := .cells #[.int .i64 a0_0, .slice A0_1 l0_1.length c0_1] 24 (0, 0)) (by (with_reducible repeat (first | refine blk_drewN ?_ _ | refine blk_drew ?_ | refine blk_alloc ?_ _)); exact BK413.out) hb); have n1_ := Aside0.mk (below_step (by repeat (first | (with_reducible first | exact HB.out | apply below_alloc | apply pw_below_drewN | apply below_drew1 | refine below_set ?_ GE413.out) | exact HB.out)) hb); clear BK413; clear HB; have BK413 := n0_; have HB := n1_; clear n0_ n1_; (try clear hb); (try clear hb2); (try clear hk); (try clear hi); have hcz72_0 : w71.cell? ⟨gb413, 0, none⟩ = some (.int .i64 a0_0) := (blk_cell BK413.out 0).trans rfl; have hcz72_1 : w71.cell? ⟨gb413, 1, none⟩ = some (.slice A0_1 l0_1.length c0_1) := (blk_cell BK413.out 1).trans rfl; have hfz72_0 := blk_frozen BK413.out 0; have hfz72_1 := blk_frozen BK413.out 1) | (go_at_call 19; (with_reducible refine (taskmasterref8_Work.calls kj3 a0_0 _ _ l0_1 a1 t424 _ ?side1 ?side2 A61.out).mono ?_); (case side1 => repeat (first | exact (Kd.C_below HR0_1.out HB.out) | (with_reducible refine Kd.C_alloc ?_ _) | (with_reducible refine Kd.C_drewN ?_ _) | (with_reducible refine Kd.C_drew ?_))); (case side2 => exact HC0_1.out); rintro e w73 ⟨rfl, hb⟩; have n0_ := Aside0.mk (blk_below (g := gb413) (o := .cells #[.int .i64 a0_0, .slice A0_1 l0_1.length c0_1] 24 (0, 0)) (by (with_reducible repeat (first | refine blk_drewN ?_ _ | refine blk_drew ?_ | refine blk_alloc ?_ _)); exact BK413.out) hb); have n1_ := Aside0.mk (below_step (by repeat (first | (with_reducible first | exact HB.out | apply below_alloc | apply pw_below_drewN | apply below_drew1 | refine below_set ?_ GE413.out) | exact HB.out)) hb); clear BK413; clear HB; have BK413 := n0_; have HB := n1_; clear n0_ n1_; (try clear hb); (try clear hb2); (try clear hk); (try clear hi); have hcz74_0 : w73.cell? ⟨gb413, 0, none⟩ = some (.int .i64 a0_0) := (blk_cell BK413.out 0).trans rfl; have hcz74_1 : w73.cell? ⟨gb413, 1, none⟩ = some (.slice A0_1 l0_1.length c0_1) := (blk_cell BK413.out 1).trans rfl; have hfz74_0 := blk_frozen BK413.out 0; have hfz74_1 := blk_frozen BK413.out 1; have p425 : 0 ≤ (a1 : Int) := of_decide_eq_true (by first | (with_reducible assumption) | assumption); have q425 : a1 < (l0_1.length : Int) := of_decide_eq_true (by first | (with_reducible assumption) | assumption); obtain ⟨ad425, A425_6, c425_6, e425, hx425_0, hx425_1, hx425_2, hx425_3, hx425_4, hx425_5, hx425_6, hx425_7, hx425_8, hl425_6, hi425_6⟩ := at_T38 HR0_1.out a1 p425 q425; cases e425; replace hx425_0 := (HB.out.cell (World.block_lt_of_cell? w _ hx425_0)).trans hx425_0; replace hx425_1 := (HB.out.cell (World.block_lt_of_cell? w _ hx425_1)).trans hx425_1; replace hx425_2 := (HB.out.cell (World.block_lt_of_cell? w _ hx425_2)).trans hx425_2; replace hx425_3 := (HB.out.cell (World.block_lt_of_cell? w _ hx425_3)).trans hx425_3; replace hx425_4 := (HB.out.cell (World.block_lt_of_cell? w _ hx425_4)).trans hx425_4; replace hx425_5 := (HB.out.cell (World.block_lt_of_cell? w _ hx425_5)).trans hx425_5; replace hx425_6 := (HB.out.cell (World.block_lt_of_cell? w _ hx425_6)).trans hx425_6; replace hx425_7 := (HB.out.cell (World.block_lt_of_cell? w _ hx425_7)).trans hx425_7; replace hx425_8 := (HB.out.cell (World.block_lt_of_cell? w _ hx425_8)).trans hx425_8; have HR425_6 := Aside0.mk hi425_6; have HC425_6 := Aside0.mk hl425_6; clear hi425_6 hl425_6; replace p425 := eq_true p425; replace q425 := eq_true q425; have p426 : 0 ≤ (a1 : Int) := of_decide_eq_true (by first | (with_reducible assumption) | assumption); have q426 : a1 < (l0_1.length : Int) := of_decide_eq_true (by first | (with_reducible assumption) | assumption); obtain ⟨ad426, A426_6, c426_6, e426, hx426_0, hx426_1, hx426_2, hx426_3, hx426_4, hx426_5, hx426_6, hx426_7, hx426_8, hl426_6, hi426_6⟩ := at_T38 HR0_1.out a1 p426 q426; obtain rfl : ad425 = ad426 := (by injection e426); replace hx426_0 := (HB.out.cell (World.block_lt_of_cell? w _ hx426_0)).trans hx426_0; replace hx426_1 := (HB.out.cell (World.block_lt_of_cell? w _ hx426_1)).trans hx426_1; replace hx426_2 := (HB.out.cell (World.block_lt_of_cell? w _ hx426_2)).trans hx426_2; replace hx426_3 := (HB.out.cell (World.block_lt_of_cell? w _ hx426_3)).trans hx426_3; replace hx426_4 := (HB.out.cell (World.block_lt_of_cell? w _ hx426_4)).trans hx426_4; replace hx426_5 := (HB.out.cell (World.block_lt_of_cell? w _ hx426_5)).trans hx426_5; replace hx426_6 := (HB.out.cell (World.block_lt_of_cell? w _ hx426_6)).trans hx426_6; replace hx426_7 := (HB.out.cell (World.block_lt_of_cell? w _ hx426_7)).trans hx426_7; replace hx426_8 := (HB.out.cell (World.block_lt_of_cell? w _ hx426_8)).trans hx426_8; have HR426_6 := Aside0.mk hi426_6; have HC426_6 := Aside0.mk hl426_6; clear hi426_6 hl426_6; replace p426 := eq_true p426; replace q426 := eq_true q426; have ea_ := Option.some.inj (hx425_6.symm.trans hx426_6); injection ea_ with ea_ en_ ec_; subst ea_; subst ec_; clear en_) | (go_at_call 23; (with_reducible refine (taskmasterlaw12_known.calls kj3  t427 _ A69.out).mono ?_); rintro e w75 ⟨rfl, hb⟩; have n0_ := Aside0.mk (blk_below (g := gb413) (o := .cells #[.int .i64 a0_0, .slice (some ad425) l0_1.length c0_1] 24 (0, 0)) (by (with_reducible repeat (first | refine blk_drewN ?_ _ | refine blk_drew ?_ | refine blk_alloc ?_ _)); exact BK413.out) hb); have n1_ := Aside0.mk (below_step (by repeat (first | (with_reducible first | exact HB.out | apply below_alloc | apply pw_below_drewN | apply below_drew1 | refine below_set ?_ GE413.out) | exact HB.out)) hb); clear BK413; clear HB; have BK413 := n0_; have HB := n1_; clear n0_ n1_; (try clear hb); (try clear hb2); (try clear hk); (try clear hi)))
                        go_ret
                        exact ⟨by first | rfl | (simp [errW_none, errW_some] <;> rfl) | (simp [*, errW_none, errW_some] <;> rfl), by repeat (first | (with_reducible first | exact HB.out | apply below_alloc | apply pw_below_drewN | apply below_drew1 | refine below_set ?_ GE413.out) | exact HB.out)⟩
                      · rw [if_neg c68] at H
                        have c68b0 : decide (((rd_T38 l0_1 a1).f2) < t415) = false := decide_eq_false c68
                        clear c68
                        obtain rfl := Option.some.inj H
                        have hcz76_0 : wc.cell? ⟨gb413, 0, none⟩ = some (.int .i64 a0_0) := (blk_cell BK413.out 0).trans rfl
                        have hcz76_1 : wc.cell? ⟨gb413, 1, none⟩ = some (.slice A0_1 l0_1.length c0_1) := (blk_cell BK413.out 1).trans rfl
                        have hfz76_0 := blk_frozen BK413.out 0
                        have hfz76_1 := blk_frozen BK413.out 1
                        go_wp2_with (first | ((with_reducible refine gate_callee (f := 22) rfl ?_); refine goesL_ (some 31) rfl rfl Try.func22 (by kernel_rfl) rfl #[.agg #[.int .i64 a0_0, .slice A0_1 l0_1.length c0_1], .int .i64 a1, .int .i64 a2] rfl (by (try simp only [List.map_toArray, List.map_cons, List.map_nil]); first | done | rfl | (simp only [List.length_drop, List.length_take]; rfl)) ?_; (with_reducible refine (resp_With.calls kj3 a0_0 _ _ l0_1 a1 a2 t415 t416 _ ?side1 ?side2 A21.out).mono ?_); (case side1 => repeat (first | exact (Kd.C_below HR0_1.out HB.out) | (with_reducible refine Kd.C_alloc ?_ _) | (with_reducible refine Kd.C_drewN ?_ _) | (with_reducible refine Kd.C_drew ?_))); (case side2 => exact HC0_1.out); rintro e w77 ⟨rfl, hb⟩; refine ⟨_, rfl, ?_⟩; have n0_ := Aside0.mk (blk_below (g := gb413) (o := .cells #[.int .i64 a0_0, .slice A0_1 l0_1.length c0_1] 24 (0, 0)) (by (with_reducible repeat (first | refine blk_drewN ?_ _ | refine blk_drew ?_ | refine blk_alloc ?_ _)); exact BK413.out) hb); have n1_ := Aside0.mk (below_step (by repeat (first | (with_reducible first | exact HB.out | apply below_alloc | apply pw_below_drewN | apply below_drew1 | refine below_set ?_ GE413.out) | exact HB.out)) hb); clear BK413; clear HB; have BK413 := n0_; have HB := n1_; clear n0_ n1_; (try clear hb); (try clear hb2); (try clear hk); (try clear hi); have hcz78_0 : w77.cell? ⟨gb413, 0, none⟩ = some (.int .i64 a0_0) := (blk_cell BK413.out 0).trans rfl; have hcz78_1 : w77.cell? ⟨gb413, 1, none⟩ = some (.slice A0_1 l0_1.length c0_1) := (blk_cell BK413.out 1).trans rfl; have hfz78_0 := blk_frozen BK413.out 0; have hfz78_1 := blk_frozen BK413.out 1) | (go_at_call 19; (with_reducible refine (taskmasterref8_Work.calls kj3 a0_0 _ _ l0_1 a1 t424 _ ?side1 ?side2 A61.out).mono ?_); (case side1 => repeat (first | exact (Kd.C_below HR0_1.out HB.out) | (with_reducible refine Kd.C_alloc ?_ _) | (with_reducible refine Kd.C_drewN ?_ _) | (with_reducible refine Kd.C_drew ?_))); (case side2 => exact HC0_1.out); rintro e w79 ⟨rfl, hb⟩; have n0_ := Aside0.mk (blk_below (g := gb413) (o := .cells #[.int .i64 a0_0, .slice A0_1 l0_1.length c0_1] 24 (0, 0)) (by (with_reducible repeat (first | refine blk_drewN ?_ _ | refine blk_drew ?_ | refine blk_alloc ?_ _)); exact BK413.out) hb); have n1_ := Aside0.mk (below_step (by repeat (first | (with_reducible first | exact HB.out | apply below_alloc | apply pw_below_drewN | apply below_drew1 | refine below_set ?_ GE413.out) | exact HB.out)) hb); clear BK413; clear HB; have BK413 := n0_; have HB := n1_; clear n0_ n1_; (try clear hb); (try clear hb2); (try clear hk); (try clear hi); have hcz80_0 : w79.cell? ⟨gb413, 0, none⟩ = some (.int .i64 a0_0) := (blk_cell BK413.out 0).trans rfl; have hcz80_1 : w79.cell? ⟨gb413, 1, none⟩ = some (.slice A0_1 l0_1.length c0_1) := (blk_cell BK413.out 1).trans rfl; have hfz80_0 := blk_frozen BK413.out 0; have hfz80_1 := blk_frozen BK413.out 1; have p425 : 0 ≤ (a1 : Int) := of_decide_eq_true (by first | (with_reducible assumption) | assumption); have q425 : a1 < (l0_1.length : Int) := of_decide_eq_true (by first | (with_reducible assumption) | assumption); obtain ⟨ad425, A425_6, c425_6, e425, hx425_0, hx425_1, hx425_2, hx425_3, hx425_4, hx425_5, hx425_6, hx425_7, hx425_8, hl425_6, hi425_6⟩ := at_T38 HR0_1.out a1 p425 q425; cases e425; replace hx425_0 := (HB.out.cell (World.block_lt_of_cell? w _ hx425_0)).trans hx425_0; replace hx425_1 := (HB.out.cell (World.block_lt_of_cell? w _ hx425_1)).trans hx425_1; replace hx425_2 := (HB.out.cell (World.block_lt_of_cell? w _ hx425_2)).trans hx425_2; replace hx425_3 := (HB.out.cell (World.block_lt_of_cell? w _ hx425_3)).trans hx425_3; replace hx425_4 := (HB.out.cell (World.block_lt_of_cell? w _ hx425_4)).trans hx425_4; replace hx425_5 := (HB.out.cell (World.block_lt_of_cell? w _ hx425_5)).trans hx425_5; replace hx425_6 := (HB.out.cell (World.block_lt_of_cell? w _ hx425_6)).trans hx425_6; replace hx425_7 := (HB.out.cell (World.block_lt_of_cell? w _ hx425_7)).trans hx425_7; replace hx425_8 := (HB.out.cell (World.block_lt_of_cell? w _ hx425_8)).trans hx425_8; have HR425_6 := Aside0.mk hi425_6; have HC425_6 := Aside0.mk hl425_6; clear hi425_6 hl425_6; replace p425 := eq_true p425; replace q425 := eq_true q425; have p426 : 0 ≤ (a1 : Int) := of_decide_eq_true (by first | (with_reducible assumption) | assumption); have q426 : a1 < (l0_1.length : Int) := of_decide_eq_true (by first | (with_reducible assumption) | assumption); obtain ⟨ad426, A426_6, c426_6, e426, hx426_0, hx426_1, hx426_2, hx426_3, hx426_4, hx426_5, hx426_6, hx426_7, hx426_8, hl426_6, hi426_6⟩ := at_T38 HR0_1.out a1 p426 q426; obtain rfl : ad425 = ad426 := (by injection e426); replace hx426_0 := (HB.out.cell (World.block_lt_of_cell? w _ hx426_0)).trans hx426_0; replace hx426_1 := (HB.out.cell (World.block_lt_of_cell? w _ hx426_1)).trans hx426_1; replace hx426_2 := (HB.out.cell (World.block_lt_of_cell? w _ hx426_2)).trans hx426_2; replace hx426_3 := (HB.out.cell (World.block_lt_of_cell? w _ hx426_3)).trans hx426_3; replace hx426_4 := (HB.out.cell (World.block_lt_of_cell? w _ hx426_4)).trans hx426_4; replace hx426_5 := (HB.out.cell (World.block_lt_of_cell? w _ hx426_5)).trans hx426_5; replace hx426_6 := (HB.out.cell (World.block_lt_of_cell? w _ hx426_6)).trans hx426_6; replace hx426_7 := (HB.out.cell (World.block_lt_of_cell? w _ hx426_7)).trans hx426_7; replace hx426_8 := (HB.out.cell (World.block_lt_of_cell? w _ hx426_8)).trans hx426_8; have HR426_6 := Aside0.mk hi426_6; have HC426_6 := Aside0.mk hl426_6; clear hi426_6 hl426_6; replace p426 := eq_true p426; replace q426 := eq_true q426; have ea_ := Option.some.inj (hx425_6.symm.trans hx426_6); injection ea_ with ea_ en_ ec_; subst ea_; subst ec_; clear en_))
                        go_ret
                        exact ⟨by first | rfl | (simp [errW_none, errW_some] <;> rfl) | (simp [*, errW_none, errW_some] <;> rfl), by repeat (first | (with_reducible first | exact HB.out | apply below_alloc | apply pw_below_drewN | apply below_drew1 | refine below_set ?_ GE413.out) | exact HB.out)⟩
                    · rw [if_neg c67] at H
                      have c67b0 : (t416 == 2) = false := beq_eq_false_iff_ne.mpr c67
                      have c67b1 : (t416 != 2) = true := bne_iff_ne.mpr c67
                      replace H := Option.bind_eq_some_iff.mp H
                      obtain ⟨t428, A810, H⟩ := H
                      replace H : (some t428) = some r := H
                      have A81 := Aside0.mk A810
                      clear A810
                      obtain rfl := Option.some.inj H
                      have hcz82_0 : wc.cell? ⟨gb413, 0, none⟩ = some (.int .i64 a0_0) := (blk_cell BK413.out 0).trans rfl
                      have hcz82_1 : wc.cell? ⟨gb413, 1, none⟩ = some (.slice A0_1 l0_1.length c0_1) := (blk_cell BK413.out 1).trans rfl
                      have hfz82_0 := blk_frozen BK413.out 0
                      have hfz82_1 := blk_frozen BK413.out 1
                      go_wp2_with (first | ((with_reducible refine gate_callee (f := 22) rfl ?_); refine goesL_ (some 31) rfl rfl Try.func22 (by kernel_rfl) rfl #[.agg #[.int .i64 a0_0, .slice A0_1 l0_1.length c0_1], .int .i64 a1, .int .i64 a2] rfl (by (try simp only [List.map_toArray, List.map_cons, List.map_nil]); first | done | rfl | (simp only [List.length_drop, List.length_take]; rfl)) ?_; (with_reducible refine (resp_With.calls kj3 a0_0 _ _ l0_1 a1 a2 t415 t416 _ ?side1 ?side2 A21.out).mono ?_); (case side1 => repeat (first | exact (Kd.C_below HR0_1.out HB.out) | (with_reducible refine Kd.C_alloc ?_ _) | (with_reducible refine Kd.C_drewN ?_ _) | (with_reducible refine Kd.C_drew ?_))); (case side2 => exact HC0_1.out); rintro e w83 ⟨rfl, hb⟩; refine ⟨_, rfl, ?_⟩; have n0_ := Aside0.mk (blk_below (g := gb413) (o := .cells #[.int .i64 a0_0, .slice A0_1 l0_1.length c0_1] 24 (0, 0)) (by (with_reducible repeat (first | refine blk_drewN ?_ _ | refine blk_drew ?_ | refine blk_alloc ?_ _)); exact BK413.out) hb); have n1_ := Aside0.mk (below_step (by repeat (first | (with_reducible first | exact HB.out | apply below_alloc | apply pw_below_drewN | apply below_drew1 | refine below_set ?_ GE413.out) | exact HB.out)) hb); clear BK413; clear HB; have BK413 := n0_; have HB := n1_; clear n0_ n1_; (try clear hb); (try clear hb2); (try clear hk); (try clear hi); have hcz84_0 : w83.cell? ⟨gb413, 0, none⟩ = some (.int .i64 a0_0) := (blk_cell BK413.out 0).trans rfl; have hcz84_1 : w83.cell? ⟨gb413, 1, none⟩ = some (.slice A0_1 l0_1.length c0_1) := (blk_cell BK413.out 1).trans rfl; have hfz84_0 := blk_frozen BK413.out 0; have hfz84_1 := blk_frozen BK413.out 1) | (go_at_call 19; (with_reducible refine (taskmasterref8_Work.calls kj3 a0_0 _ _ l0_1 a1 t424 _ ?side1 ?side2 A61.out).mono ?_); (case side1 => repeat (first | exact (Kd.C_below HR0_1.out HB.out) | (with_reducible refine Kd.C_alloc ?_ _) | (with_reducible refine Kd.C_drewN ?_ _) | (with_reducible refine Kd.C_drew ?_))); (case side2 => exact HC0_1.out); rintro e w85 ⟨rfl, hb⟩; have n0_ := Aside0.mk (blk_below (g := gb413) (o := .cells #[.int .i64 a0_0, .slice A0_1 l0_1.length c0_1] 24 (0, 0)) (by (with_reducible repeat (first | refine blk_drewN ?_ _ | refine blk_drew ?_ | refine blk_alloc ?_ _)); exact BK413.out) hb); have n1_ := Aside0.mk (below_step (by repeat (first | (with_reducible first | exact HB.out | apply below_alloc | apply pw_below_drewN | apply below_drew1 | refine below_set ?_ GE413.out) | exact HB.out)) hb); clear BK413; clear HB; have BK413 := n0_; have HB := n1_; clear n0_ n1_; (try clear hb); (try clear hb2); (try clear hk); (try clear hi); have hcz86_0 : w85.cell? ⟨gb413, 0, none⟩ = some (.int .i64 a0_0) := (blk_cell BK413.out 0).trans rfl; have hcz86_1 : w85.cell? ⟨gb413, 1, none⟩ = some (.slice A0_1 l0_1.length c0_1) := (blk_cell BK413.out 1).trans rfl; have hfz86_0 := blk_frozen BK413.out 0; have hfz86_1 := blk_frozen BK413.out 1; have p425 : 0 ≤ (a1 : Int) := of_decide_eq_true (by first | (with_reducible assumption) | assumption); have q425 : a1 < (l0_1.length : Int) := of_decide_eq_true (by first | (with_reducible assumption) | assumption); obtain ⟨ad425, A425_6, c425_6, e425, hx425_0, hx425_1, hx425_2, hx425_3, hx425_4, hx425_5, hx425_6, hx425_7, hx425_8, hl425_6, hi425_6⟩ := at_T38 HR0_1.out a1 p425 q425; cases e425; replace hx425_0 := (HB.out.cell (World.block_lt_of_cell? w _ hx425_0)).trans hx425_0; replace hx425_1 := (HB.out.cell (World.block_lt_of_cell? w _ hx425_1)).trans hx425_1; replace hx425_2 := (HB.out.cell (World.block_lt_of_cell? w _ hx425_2)).trans hx425_2; replace hx425_3 := (HB.out.cell (World.block_lt_of_cell? w _ hx425_3)).trans hx425_3; replace hx425_4 := (HB.out.cell (World.block_lt_of_cell? w _ hx425_4)).trans hx425_4; replace hx425_5 := (HB.out.cell (World.block_lt_of_cell? w _ hx425_5)).trans hx425_5; replace hx425_6 := (HB.out.cell (World.block_lt_of_cell? w _ hx425_6)).trans hx425_6; replace hx425_7 := (HB.out.cell (World.block_lt_of_cell? w _ hx425_7)).trans hx425_7; replace hx425_8 := (HB.out.cell (World.block_lt_of_cell? w _ hx425_8)).trans hx425_8; have HR425_6 := Aside0.mk hi425_6; have HC425_6 := Aside0.mk hl425_6; clear hi425_6 hl425_6; replace p425 := eq_true p425; replace q425 := eq_true q425) | (go_at_call 23; (with_reducible refine (taskmasterlaw12_known.calls kj3  t428 _ A81.out).mono ?_); rintro e w87 ⟨rfl, hb⟩; have n0_ := Aside0.mk (blk_below (g := gb413) (o := .cells #[.int .i64 a0_0, .slice (some ad425) l0_1.length c0_1] 24 (0, 0)) (by (with_reducible repeat (first | refine blk_drewN ?_ _ | refine blk_drew ?_ | refine blk_alloc ?_ _)); exact BK413.out) hb); have n1_ := Aside0.mk (below_step (by repeat (first | (with_reducible first | exact HB.out | apply below_alloc | apply pw_below_drewN | apply below_drew1 | refine below_set ?_ GE413.out) | exact HB.out)) hb); clear BK413; clear HB; have BK413 := n0_; have HB := n1_; clear n0_ n1_; (try clear hb); (try clear hb2); (try clear hk); (try clear hi)))
                      go_ret
                      exact ⟨by first | rfl | (simp [errW_none, errW_some] <;> rfl) | (simp [*, errW_none, errW_some] <;> rfl), by repeat (first | (with_reducible first | exact HB.out | apply below_alloc | apply pw_below_drewN | apply below_drew1 | refine below_set ?_ GE413.out) | exact HB.out)⟩
                  · rw [if_neg c66] at H
                    have c66b0 : decide (t415 ≤ ((rd_T38 l0_1 a1).f2)) = false := decide_eq_false c66
                    clear c66
                    obtain rfl := Option.some.inj H
                    have hcz88_0 : wc.cell? ⟨gb413, 0, none⟩ = some (.int .i64 a0_0) := (blk_cell BK413.out 0).trans rfl
                    have hcz88_1 : wc.cell? ⟨gb413, 1, none⟩ = some (.slice A0_1 l0_1.length c0_1) := (blk_cell BK413.out 1).trans rfl
                    have hfz88_0 := blk_frozen BK413.out 0
                    have hfz88_1 := blk_frozen BK413.out 1
                    go_wp2_with (first | ((with_reducible refine gate_callee (f := 22) rfl ?_); refine goesL_ (some 31) rfl rfl Try.func22 (by kernel_rfl) rfl #[.agg #[.int .i64 a0_0, .slice A0_1 l0_1.length c0_1], .int .i64 a1, .int .i64 a2] rfl (by (try simp only [List.map_toArray, List.map_cons, List.map_nil]); first | done | rfl | (simp only [List.length_drop, List.length_take]; rfl)) ?_; (with_reducible refine (resp_With.calls kj3 a0_0 _ _ l0_1 a1 a2 t415 t416 _ ?side1 ?side2 A21.out).mono ?_); (case side1 => repeat (first | exact (Kd.C_below HR0_1.out HB.out) | (with_reducible refine Kd.C_alloc ?_ _) | (with_reducible refine Kd.C_drewN ?_ _) | (with_reducible refine Kd.C_drew ?_))); (case side2 => exact HC0_1.out); rintro e w89 ⟨rfl, hb⟩; refine ⟨_, rfl, ?_⟩; have n0_ := Aside0.mk (blk_below (g := gb413) (o := .cells #[.int .i64 a0_0, .slice A0_1 l0_1.length c0_1] 24 (0, 0)) (by (with_reducible repeat (first | refine blk_drewN ?_ _ | refine blk_drew ?_ | refine blk_alloc ?_ _)); exact BK413.out) hb); have n1_ := Aside0.mk (below_step (by repeat (first | (with_reducible first | exact HB.out | apply below_alloc | apply pw_below_drewN | apply below_drew1 | refine below_set ?_ GE413.out) | exact HB.out)) hb); clear BK413; clear HB; have BK413 := n0_; have HB := n1_; clear n0_ n1_; (try clear hb); (try clear hb2); (try clear hk); (try clear hi); have hcz90_0 : w89.cell? ⟨gb413, 0, none⟩ = some (.int .i64 a0_0) := (blk_cell BK413.out 0).trans rfl; have hcz90_1 : w89.cell? ⟨gb413, 1, none⟩ = some (.slice A0_1 l0_1.length c0_1) := (blk_cell BK413.out 1).trans rfl; have hfz90_0 := blk_frozen BK413.out 0; have hfz90_1 := blk_frozen BK413.out 1) | (go_at_call 19; (with_reducible refine (taskmasterref8_Work.calls kj3 a0_0 _ _ l0_1 a1 t424 _ ?side1 ?side2 A61.out).mono ?_); (case side1 => repeat (first | exact (Kd.C_below HR0_1.out HB.out) | (with_reducible refine Kd.C_alloc ?_ _) | (with_reducible refine Kd.C_drewN ?_ _) | (with_reducible refine Kd.C_drew ?_))); (case side2 => exact HC0_1.out); rintro e w91 ⟨rfl, hb⟩; have n0_ := Aside0.mk (blk_below (g := gb413) (o := .cells #[.int .i64 a0_0, .slice A0_1 l0_1.length c0_1] 24 (0, 0)) (by (with_reducible repeat (first | refine blk_drewN ?_ _ | refine blk_drew ?_ | refine blk_alloc ?_ _)); exact BK413.out) hb); have n1_ := Aside0.mk (below_step (by repeat (first | (with_reducible first | exact HB.out | apply below_alloc | apply pw_below_drewN | apply below_drew1 | refine below_set ?_ GE413.out) | exact HB.out)) hb); clear BK413; clear HB; have BK413 := n0_; have HB := n1_; clear n0_ n1_; (try clear hb); (try clear hb2); (try clear hk); (try clear hi); have hcz92_0 : w91.cell? ⟨gb413, 0, none⟩ = some (.int .i64 a0_0) := (blk_cell BK413.out 0).trans rfl; have hcz92_1 : w91.cell? ⟨gb413, 1, none⟩ = some (.slice A0_1 l0_1.length c0_1) := (blk_cell BK413.out 1).trans rfl; have hfz92_0 := blk_frozen BK413.out 0; have hfz92_1 := blk_frozen BK413.out 1; have p425 : 0 ≤ (a1 : Int) := of_decide_eq_true (by first | (with_reducible assumption) | assumption); have q425 : a1 < (l0_1.length : Int) := of_decide_eq_true (by first | (with_reducible assumption) | assumption); obtain ⟨ad425, A425_6, c425_6, e425, hx425_0, hx425_1, hx425_2, hx425_3, hx425_4, hx425_5, hx425_6, hx425_7, hx425_8, hl425_6, hi425_6⟩ := at_T38 HR0_1.out a1 p425 q425; cases e425; replace hx425_0 := (HB.out.cell (World.block_lt_of_cell? w _ hx425_0)).trans hx425_0; replace hx425_1 := (HB.out.cell (World.block_lt_of_cell? w _ hx425_1)).trans hx425_1; replace hx425_2 := (HB.out.cell (World.block_lt_of_cell? w _ hx425_2)).trans hx425_2; replace hx425_3 := (HB.out.cell (World.block_lt_of_cell? w _ hx425_3)).trans hx425_3; replace hx425_4 := (HB.out.cell (World.block_lt_of_cell? w _ hx425_4)).trans hx425_4; replace hx425_5 := (HB.out.cell (World.block_lt_of_cell? w _ hx425_5)).trans hx425_5; replace hx425_6 := (HB.out.cell (World.block_lt_of_cell? w _ hx425_6)).trans hx425_6; replace hx425_7 := (HB.out.cell (World.block_lt_of_cell? w _ hx425_7)).trans hx425_7; replace hx425_8 := (HB.out.cell (World.block_lt_of_cell? w _ hx425_8)).trans hx425_8; have HR425_6 := Aside0.mk hi425_6; have HC425_6 := Aside0.mk hl425_6; clear hi425_6 hl425_6; replace p425 := eq_true p425; replace q425 := eq_true q425))
                    go_ret
                    exact ⟨by first | rfl | (simp [errW_none, errW_some] <;> rfl) | (simp [*, errW_none, errW_some] <;> rfl), by repeat (first | (with_reducible first | exact HB.out | apply below_alloc | apply pw_below_drewN | apply below_drew1 | refine below_set ?_ GE413.out) | exact HB.out)⟩
                · rw [if_neg c65] at H
                  exact absurd H (by simp)
              · rw [if_neg c64] at H
                exact absurd H (by simp)
            · rw [if_neg c63] at H
              have c63b0 : (t416 == 1) = false := beq_eq_false_iff_ne.mpr c63
              have c63b1 : (t416 != 1) = true := bne_iff_ne.mpr c63
              by_cases c93 : t416 = 2
              · rw [if_pos c93] at H
                have c93b0 : (t416 == 2) = true := beq_iff_eq.mpr c93
                have c93b1 : (t416 != 2) = false := bne_eq_false_iff_eq.mpr c93
                clear c93
                by_cases c94 : 0 ≤ a1
                · rw [if_pos c94] at H
                  have c94b0 : decide (0 ≤ a1) = true := decide_eq_true c94
                  clear c94
                  by_cases c95 : a1 < (l0_1.length : Int)
                  · rw [if_pos c95] at H
                    have c95b0 : decide (a1 < (l0_1.length : Int)) = true := decide_eq_true c95
                    clear c95
                    by_cases c96 : t415 > ((rd_T38 l0_1 a1).f2)
                    · rw [if_pos c96] at H
                      have c96b0 : decide (((rd_T38 l0_1 a1).f2) < t415) = true := decide_eq_true c96
                      clear c96
                      replace H := Option.bind_eq_some_iff.mp H
                      obtain ⟨t430, A970, H⟩ := H
                      replace H : (some t430) = some r := H
                      have A97 := Aside0.mk A970
                      clear A970
                      obtain rfl := Option.some.inj H
                      have hcz98_0 : wc.cell? ⟨gb413, 0, none⟩ = some (.int .i64 a0_0) := (blk_cell BK413.out 0).trans rfl
                      have hcz98_1 : wc.cell? ⟨gb413, 1, none⟩ = some (.slice A0_1 l0_1.length c0_1) := (blk_cell BK413.out 1).trans rfl
                      have hfz98_0 := blk_frozen BK413.out 0
                      have hfz98_1 := blk_frozen BK413.out 1
                      go_wp2_with (first | ((with_reducible refine gate_callee (f := 22) rfl ?_); refine goesL_ (some 31) rfl rfl Try.func22 (by kernel_rfl) rfl #[.agg #[.int .i64 a0_0, .slice A0_1 l0_1.length c0_1], .int .i64 a1, .int .i64 a2] rfl (by (try simp only [List.map_toArray, List.map_cons, List.map_nil]); first | done | rfl | (simp only [List.length_drop, List.length_take]; rfl)) ?_; (with_reducible refine (resp_With.calls kj3 a0_0 _ _ l0_1 a1 a2 t415 t416 _ ?side1 ?side2 A21.out).mono ?_); (case side1 => repeat (first | exact (Kd.C_below HR0_1.out HB.out) | (with_reducible refine Kd.C_alloc ?_ _) | (with_reducible refine Kd.C_drewN ?_ _) | (with_reducible refine Kd.C_drew ?_))); (case side2 => exact HC0_1.out); rintro e w99 ⟨rfl, hb⟩; refine ⟨_, rfl, ?_⟩; have n0_ := Aside0.mk (blk_below (g := gb413) (o := .cells #[.int .i64 a0_0, .slice A0_1 l0_1.length c0_1] 24 (0, 0)) (by (with_reducible repeat (first | refine blk_drewN ?_ _ | refine blk_drew ?_ | refine blk_alloc ?_ _)); exact BK413.out) hb); have n1_ := Aside0.mk (below_step (by repeat (first | (with_reducible first | exact HB.out | apply below_alloc | apply pw_below_drewN | apply below_drew1 | refine below_set ?_ GE413.out) | exact HB.out)) hb); clear BK413; clear HB; have BK413 := n0_; have HB := n1_; clear n0_ n1_; (try clear hb); (try clear hb2); (try clear hk); (try clear hi); have hcz100_0 : w99.cell? ⟨gb413, 0, none⟩ = some (.int .i64 a0_0) := (blk_cell BK413.out 0).trans rfl; have hcz100_1 : w99.cell? ⟨gb413, 1, none⟩ = some (.slice A0_1 l0_1.length c0_1) := (blk_cell BK413.out 1).trans rfl; have hfz100_0 := blk_frozen BK413.out 0; have hfz100_1 := blk_frozen BK413.out 1) | (go_at_call 19; (with_reducible refine (taskmasterref8_Work.calls kj3 a0_0 _ _ l0_1 a1 t424 _ ?side1 ?side2 A61.out).mono ?_); (case side1 => repeat (first | exact (Kd.C_below HR0_1.out HB.out) | (with_reducible refine Kd.C_alloc ?_ _) | (with_reducible refine Kd.C_drewN ?_ _) | (with_reducible refine Kd.C_drew ?_))); (case side2 => exact HC0_1.out); rintro e w101 ⟨rfl, hb⟩; have n0_ := Aside0.mk (blk_below (g := gb413) (o := .cells #[.int .i64 a0_0, .slice A0_1 l0_1.length c0_1] 24 (0, 0)) (by (with_reducible repeat (first | refine blk_drewN ?_ _ | refine blk_drew ?_ | refine blk_alloc ?_ _)); exact BK413.out) hb); have n1_ := Aside0.mk (below_step (by repeat (first | (with_reducible first | exact HB.out | apply below_alloc | apply pw_below_drewN | apply below_drew1 | refine below_set ?_ GE413.out) | exact HB.out)) hb); clear BK413; clear HB; have BK413 := n0_; have HB := n1_; clear n0_ n1_; (try clear hb); (try clear hb2); (try clear hk); (try clear hi); have hcz102_0 : w101.cell? ⟨gb413, 0, none⟩ = some (.int .i64 a0_0) := (blk_cell BK413.out 0).trans rfl; have hcz102_1 : w101.cell? ⟨gb413, 1, none⟩ = some (.slice A0_1 l0_1.length c0_1) := (blk_cell BK413.out 1).trans rfl; have hfz102_0 := blk_frozen BK413.out 0; have hfz102_1 := blk_frozen BK413.out 1; have p429 : 0 ≤ (a1 : Int) := of_decide_eq_true (by first | (with_reducible assumption) | assumption); have q429 : a1 < (l0_1.length : Int) := of_decide_eq_true (by first | (with_reducible assumption) | assumption); obtain ⟨ad429, A429_6, c429_6, e429, hx429_0, hx429_1, hx429_2, hx429_3, hx429_4, hx429_5, hx429_6, hx429_7, hx429_8, hl429_6, hi429_6⟩ := at_T38 HR0_1.out a1 p429 q429; cases e429; replace hx429_0 := (HB.out.cell (World.block_lt_of_cell? w _ hx429_0)).trans hx429_0; replace hx429_1 := (HB.out.cell (World.block_lt_of_cell? w _ hx429_1)).trans hx429_1; replace hx429_2 := (HB.out.cell (World.block_lt_of_cell? w _ hx429_2)).trans hx429_2; replace hx429_3 := (HB.out.cell (World.block_lt_of_cell? w _ hx429_3)).trans hx429_3; replace hx429_4 := (HB.out.cell (World.block_lt_of_cell? w _ hx429_4)).trans hx429_4; replace hx429_5 := (HB.out.cell (World.block_lt_of_cell? w _ hx429_5)).trans hx429_5; replace hx429_6 := (HB.out.cell (World.block_lt_of_cell? w _ hx429_6)).trans hx429_6; replace hx429_7 := (HB.out.cell (World.block_lt_of_cell? w _ hx429_7)).trans hx429_7; replace hx429_8 := (HB.out.cell (World.block_lt_of_cell? w _ hx429_8)).trans hx429_8; have HR429_6 := Aside0.mk hi429_6; have HC429_6 := Aside0.mk hl429_6; clear hi429_6 hl429_6; replace p429 := eq_true p429; replace q429 := eq_true q429) | (go_at_call 23; (with_reducible refine (taskmasterlaw12_known.calls kj3  t430 _ A97.out).mono ?_); rintro e w103 ⟨rfl, hb⟩; have n0_ := Aside0.mk (blk_below (g := gb413) (o := .cells #[.int .i64 a0_0, .slice (some ad429) l0_1.length c0_1] 24 (0, 0)) (by (with_reducible repeat (first | refine blk_drewN ?_ _ | refine blk_drew ?_ | refine blk_alloc ?_ _)); exact BK413.out) hb); have n1_ := Aside0.mk (below_step (by repeat (first | (with_reducible first | exact HB.out | apply below_alloc | apply pw_below_drewN | apply below_drew1 | refine below_set ?_ GE413.out) | exact HB.out)) hb); clear BK413; clear HB; have BK413 := n0_; have HB := n1_; clear n0_ n1_; (try clear hb); (try clear hb2); (try clear hk); (try clear hi)))
                      go_ret
                      exact ⟨by first | rfl | (simp [errW_none, errW_some] <;> rfl) | (simp [*, errW_none, errW_some] <;> rfl), by repeat (first | (with_reducible first | exact HB.out | apply below_alloc | apply pw_below_drewN | apply below_drew1 | refine below_set ?_ GE413.out) | exact HB.out)⟩
                    · rw [if_neg c96] at H
                      have c96b0 : decide (((rd_T38 l0_1 a1).f2) < t415) = false := decide_eq_false c96
                      clear c96
                      obtain rfl := Option.some.inj H
                      have hcz104_0 : wc.cell? ⟨gb413, 0, none⟩ = some (.int .i64 a0_0) := (blk_cell BK413.out 0).trans rfl
                      have hcz104_1 : wc.cell? ⟨gb413, 1, none⟩ = some (.slice A0_1 l0_1.length c0_1) := (blk_cell BK413.out 1).trans rfl
                      have hfz104_0 := blk_frozen BK413.out 0
                      have hfz104_1 := blk_frozen BK413.out 1
                      go_wp2_with (first | ((with_reducible refine gate_callee (f := 22) rfl ?_); refine goesL_ (some 31) rfl rfl Try.func22 (by kernel_rfl) rfl #[.agg #[.int .i64 a0_0, .slice A0_1 l0_1.length c0_1], .int .i64 a1, .int .i64 a2] rfl (by (try simp only [List.map_toArray, List.map_cons, List.map_nil]); first | done | rfl | (simp only [List.length_drop, List.length_take]; rfl)) ?_; (with_reducible refine (resp_With.calls kj3 a0_0 _ _ l0_1 a1 a2 t415 t416 _ ?side1 ?side2 A21.out).mono ?_); (case side1 => repeat (first | exact (Kd.C_below HR0_1.out HB.out) | (with_reducible refine Kd.C_alloc ?_ _) | (with_reducible refine Kd.C_drewN ?_ _) | (with_reducible refine Kd.C_drew ?_))); (case side2 => exact HC0_1.out); rintro e w105 ⟨rfl, hb⟩; refine ⟨_, rfl, ?_⟩; have n0_ := Aside0.mk (blk_below (g := gb413) (o := .cells #[.int .i64 a0_0, .slice A0_1 l0_1.length c0_1] 24 (0, 0)) (by (with_reducible repeat (first | refine blk_drewN ?_ _ | refine blk_drew ?_ | refine blk_alloc ?_ _)); exact BK413.out) hb); have n1_ := Aside0.mk (below_step (by repeat (first | (with_reducible first | exact HB.out | apply below_alloc | apply pw_below_drewN | apply below_drew1 | refine below_set ?_ GE413.out) | exact HB.out)) hb); clear BK413; clear HB; have BK413 := n0_; have HB := n1_; clear n0_ n1_; (try clear hb); (try clear hb2); (try clear hk); (try clear hi); have hcz106_0 : w105.cell? ⟨gb413, 0, none⟩ = some (.int .i64 a0_0) := (blk_cell BK413.out 0).trans rfl; have hcz106_1 : w105.cell? ⟨gb413, 1, none⟩ = some (.slice A0_1 l0_1.length c0_1) := (blk_cell BK413.out 1).trans rfl; have hfz106_0 := blk_frozen BK413.out 0; have hfz106_1 := blk_frozen BK413.out 1) | (go_at_call 19; (with_reducible refine (taskmasterref8_Work.calls kj3 a0_0 _ _ l0_1 a1 t424 _ ?side1 ?side2 A61.out).mono ?_); (case side1 => repeat (first | exact (Kd.C_below HR0_1.out HB.out) | (with_reducible refine Kd.C_alloc ?_ _) | (with_reducible refine Kd.C_drewN ?_ _) | (with_reducible refine Kd.C_drew ?_))); (case side2 => exact HC0_1.out); rintro e w107 ⟨rfl, hb⟩; have n0_ := Aside0.mk (blk_below (g := gb413) (o := .cells #[.int .i64 a0_0, .slice A0_1 l0_1.length c0_1] 24 (0, 0)) (by (with_reducible repeat (first | refine blk_drewN ?_ _ | refine blk_drew ?_ | refine blk_alloc ?_ _)); exact BK413.out) hb); have n1_ := Aside0.mk (below_step (by repeat (first | (with_reducible first | exact HB.out | apply below_alloc | apply pw_below_drewN | apply below_drew1 | refine below_set ?_ GE413.out) | exact HB.out)) hb); clear BK413; clear HB; have BK413 := n0_; have HB := n1_; clear n0_ n1_; (try clear hb); (try clear hb2); (try clear hk); (try clear hi); have hcz108_0 : w107.cell? ⟨gb413, 0, none⟩ = some (.int .i64 a0_0) := (blk_cell BK413.out 0).trans rfl; have hcz108_1 : w107.cell? ⟨gb413, 1, none⟩ = some (.slice A0_1 l0_1.length c0_1) := (blk_cell BK413.out 1).trans rfl; have hfz108_0 := blk_frozen BK413.out 0; have hfz108_1 := blk_frozen BK413.out 1; have p429 : 0 ≤ (a1 : Int) := of_decide_eq_true (by first | (with_reducible assumption) | assumption); have q429 : a1 < (l0_1.length : Int) := of_decide_eq_true (by first | (with_reducible assumption) | assumption); obtain ⟨ad429, A429_6, c429_6, e429, hx429_0, hx429_1, hx429_2, hx429_3, hx429_4, hx429_5, hx429_6, hx429_7, hx429_8, hl429_6, hi429_6⟩ := at_T38 HR0_1.out a1 p429 q429; cases e429; replace hx429_0 := (HB.out.cell (World.block_lt_of_cell? w _ hx429_0)).trans hx429_0; replace hx429_1 := (HB.out.cell (World.block_lt_of_cell? w _ hx429_1)).trans hx429_1; replace hx429_2 := (HB.out.cell (World.block_lt_of_cell? w _ hx429_2)).trans hx429_2; replace hx429_3 := (HB.out.cell (World.block_lt_of_cell? w _ hx429_3)).trans hx429_3; replace hx429_4 := (HB.out.cell (World.block_lt_of_cell? w _ hx429_4)).trans hx429_4; replace hx429_5 := (HB.out.cell (World.block_lt_of_cell? w _ hx429_5)).trans hx429_5; replace hx429_6 := (HB.out.cell (World.block_lt_of_cell? w _ hx429_6)).trans hx429_6; replace hx429_7 := (HB.out.cell (World.block_lt_of_cell? w _ hx429_7)).trans hx429_7; replace hx429_8 := (HB.out.cell (World.block_lt_of_cell? w _ hx429_8)).trans hx429_8; have HR429_6 := Aside0.mk hi429_6; have HC429_6 := Aside0.mk hl429_6; clear hi429_6 hl429_6; replace p429 := eq_true p429; replace q429 := eq_true q429))
                      go_ret
                      exact ⟨by first | rfl | (simp [errW_none, errW_some] <;> rfl) | (simp [*, errW_none, errW_some] <;> rfl), by repeat (first | (with_reducible first | exact HB.out | apply below_alloc | apply pw_below_drewN | apply below_drew1 | refine below_set ?_ GE413.out) | exact HB.out)⟩
                  · rw [if_neg c95] at H
                    exact absurd H (by simp)
                · rw [if_neg c94] at H
                  exact absurd H (by simp)
              · rw [if_neg c93] at H
                have c93b0 : (t416 == 2) = false := beq_eq_false_iff_ne.mpr c93
                have c93b1 : (t416 != 2) = true := bne_iff_ne.mpr c93
                replace H := Option.bind_eq_some_iff.mp H
                obtain ⟨t431, A1090, H⟩ := H
                replace H : (some t431) = some r := H
                have A109 := Aside0.mk A1090
                clear A1090
                obtain rfl := Option.some.inj H
                have hcz110_0 : wc.cell? ⟨gb413, 0, none⟩ = some (.int .i64 a0_0) := (blk_cell BK413.out 0).trans rfl
                have hcz110_1 : wc.cell? ⟨gb413, 1, none⟩ = some (.slice A0_1 l0_1.length c0_1) := (blk_cell BK413.out 1).trans rfl
                have hfz110_0 := blk_frozen BK413.out 0
                have hfz110_1 := blk_frozen BK413.out 1
                go_wp2_with (first | ((with_reducible refine gate_callee (f := 22) rfl ?_); refine goesL_ (some 31) rfl rfl Try.func22 (by kernel_rfl) rfl #[.agg #[.int .i64 a0_0, .slice A0_1 l0_1.length c0_1], .int .i64 a1, .int .i64 a2] rfl (by (try simp only [List.map_toArray, List.map_cons, List.map_nil]); first | done | rfl | (simp only [List.length_drop, List.length_take]; rfl)) ?_; (with_reducible refine (resp_With.calls kj3 a0_0 _ _ l0_1 a1 a2 t415 t416 _ ?side1 ?side2 A21.out).mono ?_); (case side1 => repeat (first | exact (Kd.C_below HR0_1.out HB.out) | (with_reducible refine Kd.C_alloc ?_ _) | (with_reducible refine Kd.C_drewN ?_ _) | (with_reducible refine Kd.C_drew ?_))); (case side2 => exact HC0_1.out); rintro e w111 ⟨rfl, hb⟩; refine ⟨_, rfl, ?_⟩; have n0_ := Aside0.mk (blk_below (g := gb413) (o := .cells #[.int .i64 a0_0, .slice A0_1 l0_1.length c0_1] 24 (0, 0)) (by (with_reducible repeat (first | refine blk_drewN ?_ _ | refine blk_drew ?_ | refine blk_alloc ?_ _)); exact BK413.out) hb); have n1_ := Aside0.mk (below_step (by repeat (first | (with_reducible first | exact HB.out | apply below_alloc | apply pw_below_drewN | apply below_drew1 | refine below_set ?_ GE413.out) | exact HB.out)) hb); clear BK413; clear HB; have BK413 := n0_; have HB := n1_; clear n0_ n1_; (try clear hb); (try clear hb2); (try clear hk); (try clear hi); have hcz112_0 : w111.cell? ⟨gb413, 0, none⟩ = some (.int .i64 a0_0) := (blk_cell BK413.out 0).trans rfl; have hcz112_1 : w111.cell? ⟨gb413, 1, none⟩ = some (.slice A0_1 l0_1.length c0_1) := (blk_cell BK413.out 1).trans rfl; have hfz112_0 := blk_frozen BK413.out 0; have hfz112_1 := blk_frozen BK413.out 1) | (go_at_call 19; (with_reducible refine (taskmasterref8_Work.calls kj3 a0_0 _ _ l0_1 a1 t424 _ ?side1 ?side2 A61.out).mono ?_); (case side1 => repeat (first | exact (Kd.C_below HR0_1.out HB.out) | (with_reducible refine Kd.C_alloc ?_ _) | (with_reducible refine Kd.C_drewN ?_ _) | (with_reducible refine Kd.C_drew ?_))); (case side2 => exact HC0_1.out); rintro e w113 ⟨rfl, hb⟩; have n0_ := Aside0.mk (blk_below (g := gb413) (o := .cells #[.int .i64 a0_0, .slice A0_1 l0_1.length c0_1] 24 (0, 0)) (by (with_reducible repeat (first | refine blk_drewN ?_ _ | refine blk_drew ?_ | refine blk_alloc ?_ _)); exact BK413.out) hb); have n1_ := Aside0.mk (below_step (by repeat (first | (with_reducible first | exact HB.out | apply below_alloc | apply pw_below_drewN | apply below_drew1 | refine below_set ?_ GE413.out) | exact HB.out)) hb); clear BK413; clear HB; have BK413 := n0_; have HB := n1_; clear n0_ n1_; (try clear hb); (try clear hb2); (try clear hk); (try clear hi)) | (go_at_call 23; (with_reducible refine (taskmasterlaw12_known.calls kj3  t431 _ A109.out).mono ?_); rintro e w114 ⟨rfl, hb⟩; have n0_ := Aside0.mk (blk_below (g := gb413) (o := .cells #[.int .i64 a0_0, .slice A0_1 l0_1.length c0_1] 24 (0, 0)) (by (with_reducible repeat (first | refine blk_drewN ?_ _ | refine blk_drew ?_ | refine blk_alloc ?_ _)); exact BK413.out) hb); have n1_ := Aside0.mk (below_step (by repeat (first | (with_reducible first | exact HB.out | apply below_alloc | apply pw_below_drewN | apply below_drew1 | refine below_set ?_ GE413.out) | exact HB.out)) hb); clear BK413; clear HB; have BK413 := n0_; have HB := n1_; clear n0_ n1_; (try clear hb); (try clear hb2); (try clear hk); (try clear hi)))
                go_ret
                exact ⟨by first | rfl | (simp [errW_none, errW_some] <;> rfl) | (simp [*, errW_none, errW_some] <;> rfl), by repeat (first | (with_reducible first | exact HB.out | apply below_alloc | apply pw_below_drewN | apply below_drew1 | refine below_set ?_ GE413.out) | exact HB.out)⟩
          · rw [if_neg c62] at H
            have c62b0 : decide ((wrap64 (a2 + t424)) ≤ t415) = false := decide_eq_false c62
            clear c62
            obtain rfl := Option.some.inj H
            have hcz115_0 : wc.cell? ⟨gb413, 0, none⟩ = some (.int .i64 a0_0) := (blk_cell BK413.out 0).trans rfl
            have hcz115_1 : wc.cell? ⟨gb413, 1, none⟩ = some (.slice A0_1 l0_1.length c0_1) := (blk_cell BK413.out 1).trans rfl
            have hfz115_0 := blk_frozen BK413.out 0
            have hfz115_1 := blk_frozen BK413.out 1
            go_wp2_with (first | ((with_reducible refine gate_callee (f := 22) rfl ?_); refine goesL_ (some 31) rfl rfl Try.func22 (by kernel_rfl) rfl #[.agg #[.int .i64 a0_0, .slice A0_1 l0_1.length c0_1], .int .i64 a1, .int .i64 a2] rfl (by (try simp only [List.map_toArray, List.map_cons, List.map_nil]); first | done | rfl | (simp only [List.length_drop, List.length_take]; rfl)) ?_; (with_reducible refine (resp_With.calls kj3 a0_0 _ _ l0_1 a1 a2 t415 t416 _ ?side1 ?side2 A21.out).mono ?_); (case side1 => repeat (first | exact (Kd.C_below HR0_1.out HB.out) | (with_reducible refine Kd.C_alloc ?_ _) | (with_reducible refine Kd.C_drewN ?_ _) | (with_reducible refine Kd.C_drew ?_))); (case side2 => exact HC0_1.out); rintro e w116 ⟨rfl, hb⟩; refine ⟨_, rfl, ?_⟩; have n0_ := Aside0.mk (blk_below (g := gb413) (o := .cells #[.int .i64 a0_0, .slice A0_1 l0_1.length c0_1] 24 (0, 0)) (by (with_reducible repeat (first | refine blk_drewN ?_ _ | refine blk_drew ?_ | refine blk_alloc ?_ _)); exact BK413.out) hb); have n1_ := Aside0.mk (below_step (by repeat (first | (with_reducible first | exact HB.out | apply below_alloc | apply pw_below_drewN | apply below_drew1 | refine below_set ?_ GE413.out) | exact HB.out)) hb); clear BK413; clear HB; have BK413 := n0_; have HB := n1_; clear n0_ n1_; (try clear hb); (try clear hb2); (try clear hk); (try clear hi); have hcz117_0 : w116.cell? ⟨gb413, 0, none⟩ = some (.int .i64 a0_0) := (blk_cell BK413.out 0).trans rfl; have hcz117_1 : w116.cell? ⟨gb413, 1, none⟩ = some (.slice A0_1 l0_1.length c0_1) := (blk_cell BK413.out 1).trans rfl; have hfz117_0 := blk_frozen BK413.out 0; have hfz117_1 := blk_frozen BK413.out 1) | (go_at_call 19; (with_reducible refine (taskmasterref8_Work.calls kj3 a0_0 _ _ l0_1 a1 t424 _ ?side1 ?side2 A61.out).mono ?_); (case side1 => repeat (first | exact (Kd.C_below HR0_1.out HB.out) | (with_reducible refine Kd.C_alloc ?_ _) | (with_reducible refine Kd.C_drewN ?_ _) | (with_reducible refine Kd.C_drew ?_))); (case side2 => exact HC0_1.out); rintro e w118 ⟨rfl, hb⟩; have n0_ := Aside0.mk (blk_below (g := gb413) (o := .cells #[.int .i64 a0_0, .slice A0_1 l0_1.length c0_1] 24 (0, 0)) (by (with_reducible repeat (first | refine blk_drewN ?_ _ | refine blk_drew ?_ | refine blk_alloc ?_ _)); exact BK413.out) hb); have n1_ := Aside0.mk (below_step (by repeat (first | (with_reducible first | exact HB.out | apply below_alloc | apply pw_below_drewN | apply below_drew1 | refine below_set ?_ GE413.out) | exact HB.out)) hb); clear BK413; clear HB; have BK413 := n0_; have HB := n1_; clear n0_ n1_; (try clear hb); (try clear hb2); (try clear hk); (try clear hi)))
            go_ret
            exact ⟨by first | rfl | (simp [errW_none, errW_some] <;> rfl) | (simp [*, errW_none, errW_some] <;> rfl), by repeat (first | (with_reducible first | exact HB.out | apply below_alloc | apply pw_below_drewN | apply below_drew1 | refine below_set ?_ GE413.out) | exact HB.out)⟩
end Go.Proofs.Ytllnlmcofaomlaa.QAc
namespace Go.Proofs.Ytllnlmcofaomlaa.Pure
open Go.RowKit Go.Proofs.Ytllnlmcofaomlaa.QAc Go.Proofs.YtllnlmcofaomlaaW.PrintWords Go.Proofs.YtllnlmcofaomlaaW.PrintLast Go.Proofs.YtllnlmcofaomlaaW.PrintMore Go.Proofs.Ytllnlmcofaomlaa.RefSet Go.Proofs.Ytllnlmcofaomlaa.AgainPure Go.Proofs.Ytllnlmcofaomlaa.FixMath Go.Proofs.Ytllnlmcofaomlaa.ActivePure Go.Proofs.Ytllnlmcofaomlaa.RespPure
open Go.Proofs.Ytllnlmcofaomlaa.FixPure (prs leastV prs_length)
set_option linter.unusedVariables false
theorem RespWork (a0 : S24) (a1 : Int) (a2 : Int) (w0 : wf24 a0) (w1 : (Lit.int .i64 a1).wf = true) (w2 : (Lit.int .i64 a2).wf = true) : ∃ k : Nat, taskmasterlaw12_RespWork.f k a0.f0 a0.f1 a1 a2 = some true := by
  refine Ev.rounds ?_
  have hS := sets_of w0.2
  obtain ⟨b, hb, hok⟩ := may_ends a0.f0 a0.f1 (sizes_of w0.2)
  generalize a0.f0 = r at *
  generalize a0.f1 = l at *
  have no : Ev (fun k => taskmasterlaw12_RespWork.j0 k a1 a2 true r l) true := Ev.step (fun k => by rw [taskmasterlaw12_RespWork.j0, if_pos rfl]) (Ev.now true)
  unfold taskmasterlaw12_RespWork.f
  refine Ev.bind hb ?_
  by_cases c1 : b = true
  · have ok := hok c1
    refine evp c1 ?_
    by_cases c2 : a1 < 0
    · exact evp c2 no
    refine evn c2 ?_
    by_cases c3 : a1 ≥ (l.length : Int)
    · exact evp c3 no
    refine evn c3 ?_
    by_cases c4 : a2 < 0
    · rw [decide_eq_true c4]; exact no
    rw [decide_eq_false c4]
    have hi : 0 ≤ a1 ∧ a1 < (l.length : Int) := by omega
    refine Ev.step (fun k => by rw [taskmasterlaw12_RespWork.j0, if_neg (by simp)]) (Ev.bind (with_ev ok hS a1 a2) ?_)
    rcases with_tells ok a1 a2 with ⟨q, e1, e2, e3, e4⟩ | ⟨q, e⟩
    · rcases active_tells ok a1 a2 with ⟨_, _, hb2, hL⟩ | ⟨x, _⟩
      · have hl := hL.fix
        have hw := workV_in ok hi.1 hi.2
        rw [← e1] at e2 e3 e4
        generalize (withV r l a1 a2).1 = R at *
        generalize (withV r l a1 a2).2 = H at *
        refine evn (by omega) (Ev.bind (rwork_ev ok hi.1 hi.2) ?_)
        have ew : wrap64 (a2 + sum (rd_T38 l a1).f6) = a2 + workV l a1 := by
          show wrap64 (a2 + workV l a1) = _
          exact w64 (by omega) (by omega)
        rw [ew]
        refine evp (by omega) ?_
        rcases e2 with ⟨y1, y2⟩ | ⟨y1, y2⟩
        · refine evp y1 (evp hi.1 (evp hi.2 (evp y2 ?_)))
          exact evn (by omega) (Ev.bind known12 (Ev.now true))
        · refine evn (by omega) (evp y1 (evp hi.1 (evp hi.2 ?_)))
          exact evp y2 (Ev.bind known12 (Ev.now true))
      · rw [x] at q; cases q
    · rw [e]
      exact evp rfl (evn (by decide) (evn (by decide) (Ev.bind known12 (Ev.now true))))
  · exact evn c1 no
end Go.Proofs.Ytllnlmcofaomlaa.Pure
namespace Go.Proofs.Ytllnlmcofaomlaa.respWork
open Go.ChangeShapes Go.WideShapes Go.ChangeAt Go.RowKit
open Go.ChangeMaps (open_string shut_string)
open Go.Proofs.YtllnlmcofaomlaaW.PrintWords Go.Proofs.YtllnlmcofaomlaaW.PrintLast Go.Proofs.Ytllnlmcofaomlaa.QAc Go.Proofs.Ytllnlmcofaomlaa.Open
set_option linter.unusedVariables false
theorem own : ownKnob Try.prog.godebug = none := by kernel_rfl
theorem laidOut : laidOutB Try.prog = true := by kernel_rfl
set_option maxRecDepth 100000 in
theorem lifted (os : Os) (started : os.Started) (H : Type) (enc : TypeId × Value → H) :
    ReturnsInHanded {} Try.checked os 9 .any (Rows.respWorkSpec.pre6 enc Try.prog Try.f9 Rows.respWorkRow.domain false) (Rows.respWorkSpec.post enc Try.prog Try.f9 false true false false) := by
  refine returnsInHanded_of_change_sized (C := Try.checked) own started (by kernel_rfl) Try.func9
    (ChangeSpec.witness6 (enc := enc) (C := Try.checked) false ⟨#[], #[.agg #[.int .i64 0, .slice none 0 0], .int .i64 0, .int .i64 0], []⟩ 8 (by kernel_rfl) (by kernel_rfl) (by kernel_rfl) (by kernel_rfl)) ?_
  intro W base args ds gs before hval0 hW hcnd hsz0 _
  have hsz : (DataW.weightsEach Try.prog (Try.f9.params.toList ++ Rows.respWorkSpec.plain.varTypes Try.prog) (ds ++ gs)).all (· ≤ reachBytes) = true := hsz0
  have hval : ∀ (j : Nat) t v, Try.f9.params[j]? = some t → args[j]? = some v → Value.okWide Try.prog W .any base t v := hval0
  have hW' := hW
  obtain ⟨p, q, hA0, hV, rfl, hfz, hnd⟩ := hW
  have hA : DataW.TrodAll enc Try.prog W 0 (fun _ => true) true Try.f9.params.toList args.toList ds p := hA0
  rw [Try.params9] at hA hval hsz
  obtain ⟨v0, vs0, d0, ds0, p0, q0, hargs, rfl, rfl, h0, r0⟩ := trodAll_cons hA
  obtain ⟨v1, vs1, d1, ds1, p1, q1, rfl, rfl, rfl, h1, r1⟩ := trodAll_cons r0
  obtain ⟨v2, vs2, d2, ds2, p2, q2, rfl, rfl, rfl, h2, r2⟩ := trodAll_cons r1
  obtain ⟨rfl, rfl, rfl⟩ := trodAll_nil r2
  obtain rfl : args = #[v0, v1, v2] := by cases args; simp_all
  obtain ⟨rfl, rfl⟩ := trodVars_none hV
  have k0 := h0
  have lt0 : ∀ x ∈ p0, x.block < W.heap.size := by obtain ⟨m, hm⟩ := k0; exact DataW.trod_lt m _ _ _ hm
  obtain ⟨a0, cs0, rfl, hk0, hw0⟩ := arg_struct Try.underlying24 (hval 0 24 v0 rfl rfl) opens24 h0
  obtain ⟨A0_1, c0_1, rfl, hc0_1, hr0_1⟩ := k24_open hk0
  obtain ⟨a1, rfl, rfl, rfl, w1⟩ := open_int Try.underlying3 (hval 1 3 v1 rfl rfl) h1
  obtain ⟨a2, rfl, rfl, rfl, w2⟩ := open_int Try.underlying2 (hval 2 2 v2 rfl rfl) h2
  clear hA0 hval0 hsz0 hsz
  obtain ⟨k, hk⟩ := Pure.RespWork a0 a1 a2 hw0 w1 w2
  refine (taskmasterlaw12_RespWork.calls (w := W) (h := hk) (hc0_1 := hc0_1) (hr0_1 := hr0_1)).mono fun e W' ⟨he, bel0⟩ => ?_
  have bel : Below W.heap.size W W' := bel0
  subst he
  exact ⟨_, rfl, _, _, _, [], _, [], hW', trodAll_mk1 (shut_bool Try.underlying4 _), (trodAll_cons_mk (Below.trod laidOut (by kernel_rfl) (of_decide_eq_true (by kernel_rfl)) k0 bel lt0) (trodAll_cons_mk (shut_int Try.underlying3 w1) (trodAll_cons_mk (shut_int Try.underlying2 w2) trodAll_mk0))), rfl, bel.frame _, fun h => by cases h⟩
theorem over : Rows.respWorkRow.holds Try.pinned (OpenSpec.ofChange Rows.respWorkSpec) :=
  OpenClaim.holds_of_wide 9 Try.f9 rfl rfl rfl rfl rfl rfl rfl ⟨rfl, rfl, rfl, rfl, rfl⟩ rfl rfl rfl rfl rfl (by kernel_rfl) Try.func9 (by kernel_rfl)
    (of_decide_eq_true (by kernel_rfl)) (by unfold Func.isWrapper; first | (rw [if_pos (by decide +kernel)]; kernel_rfl) | (rw [if_neg (by decide +kernel)]; exact ⟨rfl, rfl⟩))
    (fun os started H enc _ => lifted os started H enc)
theorem proved : Rows.RespWorkSaid := over
end Go.Proofs.Ytllnlmcofaomlaa.respWork
namespace Go.Proofs.Ytllnlmcofaomlaa
theorem respWork_holds : Rows.RespWorkSaid := respWork.proved
end Go.Proofs.Ytllnlmcofaomlaa
namespace Go.Proofs.Ytllnlmcofaomlaa.QAc
open Go.RowKit Go.Proofs.YtllnlmcofaomlaaW.PrintWords Go.Proofs.YtllnlmcofaomlaaW.PrintLast Go.Proofs.YtllnlmcofaomlaaW.PrintMore
attribute [local go_sem] max2_int min2_int max_two min_two max_three min_three max_four min_four   -- for this text's walks alone
set_option linter.unusedVariables false
set_option linter.unusedSimpArgs false
def taskmasterlaw12_RespBusy.j0 : Nat → Int → Int → Bool → Int → List (S38) → Option (Bool)
  | 0, _, _, _, _, _ => none
  | k + 1, x1, x2, x24, x433000, x433001 => if x24 = true then (some true) else ((resp_With.f k x433000 x433001 x1 x2).bind fun bt434 => ((active_Of.f k x433000 x433001 x1 x2).bind fun bt436 => (if ((bt434.2 == 3) == (!bt436.2)) = true then (if bt434.2 = 3 then ((taskmasterlaw12_known.f k).bind fun t438 => (some t438)) else (if bt434.1 ≤ bt436.1 then ((taskmasterlaw12_known.f k).bind fun t439 => (some t439)) else (some false))) else (some false))))
def taskmasterlaw12_RespBusy.f (k : Nat) (a0_0 : Int) (l0_1 : List (S38)) (a1 : Int) (a2 : Int) : Option (Bool) := (taskmasterlaw12_may.f k a0_0 l0_1).bind fun t433 => (if t433 = true then (if a1 < 0 then (taskmasterlaw12_RespBusy.j0 k a1 a2 true a0_0 l0_1) else (taskmasterlaw12_RespBusy.j0 k a1 a2 (decide (a1 ≥ (l0_1.length : Int))) a0_0 l0_1)) else (taskmasterlaw12_RespBusy.j0 k a1 a2 true a0_0 l0_1))
set_option maxHeartbeats 8000000 in
set_option maxRecDepth 100000 in
theorem taskmasterlaw12_RespBusy.calls (k : Nat) (a0_0 : Int) (A0_1 : Option Addr) (c0_1 : Nat) (l0_1 : List (S38)) (a1 : Int) (a2 : Int) (r : Bool) (w : World) (hr0_1 : Kd.C k38 w A0_1 l0_1.length l0_1) (hc0_1 : l0_1.length ≤ c0_1) (h : taskmasterlaw12_RespBusy.f k a0_0 l0_1 a1 a2 = some r) :
    Calls Try.prog 10 #[.agg #[.int .i64 a0_0, .slice A0_1 l0_1.length c0_1], .int .i64 a1, .int .i64 a2] w fun e w' => e = .returned (.bool r) ∧ Below w.heap.size w w' := by
  have hu24 := Try.underlying24
  have HR0_1 := Aside0.mk hr0_1
  have HC0_1 := Aside0.mk hc0_1
  clear hr0_1 hc0_1
  have HB := Aside0.mk (Below.refl w.heap.size w)
  have H : ((taskmasterlaw12_may.f k a0_0 l0_1).bind fun t433 => (if t433 = true then (if a1 < 0 then (taskmasterlaw12_RespBusy.j0 k a1 a2 true a0_0 l0_1) else (taskmasterlaw12_RespBusy.j0 k a1 a2 (decide (a1 ≥ (l0_1.length : Int))) a0_0 l0_1)) else (taskmasterlaw12_RespBusy.j0 k a1 a2 true a0_0 l0_1))) = some r := h
  clear h
  have HC4 := Aside0.mk H
  clear H
  go_enter Try.func10, Try.ntmps10
  go_upto_region 1 with (first | ((with_reducible refine gate_dst (N := 3) rfl ?_); (try (refine gate_guard (by rfl) ?_; dsimp only)); refine box_event ?hg (N := 3) ?hd (cs := #[.int .i64 a0_0, .slice A0_1 l0_1.length c0_1]) (t := 24) ?hr ?_; (case hd => rfl); (case hg => rfl); (case hr => first | (go_simp; done) | (go_simp; rfl)); intro gb432 hg w5 hbox hb; have n0_ := Aside0.mk (below_step (by repeat (first | (with_reducible first | exact HB.out | apply below_alloc | apply pw_below_drewN | apply below_drew1) | exact HB.out)) hb); have n1_ := Aside0.mk (hbox); have n2_ := Aside0.mk ((by rw [hg]; exact (below_size (by repeat (first | (with_reducible first | exact HB.out | apply below_alloc | apply pw_below_drewN | apply below_drew1) | exact HB.out))) : w.heap.size ≤ gb432)); have n3_ := Aside0.mk ((by rw [hg]; exact (below_size (by repeat (first | (with_reducible first | exact HB.out | apply below_alloc | apply pw_below_drewN | apply below_drew1) | exact HB.out))) : w.heap.size ≤ gb432)); clear HB; have HB := n0_; have BK432 := n1_; have GW432 := n2_; have GE432 := n3_; clear n0_ n1_ n2_ n3_; clear hb hbox hg))
  (try simp only [Act.put, List.setIfInBounds_toArray, List.set_cons_zero, List.set_cons_succ])
  go_cut [24] (fun v24 wc => ∃ (kq : Nat) (x24_3 : Bool), v24 = .bool x24_3 ∧ Aside0 (taskmasterlaw12_RespBusy.j0 kq a1 a2 x24_3 a0_0 l0_1 = some r) ∧ Aside0 (kq ≤ k) ∧ Aside0 (wc.heap[gb432]? = some (.cells #[.int .i64 a0_0, (.slice A0_1 l0_1.length c0_1)] 24 (0, 0))) ∧ Aside0 (Below w.heap.size w wc))
  case first =>
    have H := HC4.out
    clear HC4
    replace H := Option.bind_eq_some_iff.mp H
    obtain ⟨t433, A60, H⟩ := H
    replace H : (if t433 = true then (if a1 < 0 then (taskmasterlaw12_RespBusy.j0 k a1 a2 true a0_0 l0_1) else (taskmasterlaw12_RespBusy.j0 k a1 a2 (decide (a1 ≥ (l0_1.length : Int))) a0_0 l0_1)) else (taskmasterlaw12_RespBusy.j0 k a1 a2 true a0_0 l0_1)) = some r := H
    have A6 := Aside0.mk A60
    clear A60
    by_cases c7 : t433 = true
    · subst c7
      have H1 : (if a1 < 0 then (taskmasterlaw12_RespBusy.j0 k a1 a2 true a0_0 l0_1) else (taskmasterlaw12_RespBusy.j0 k a1 a2 (decide (a1 ≥ (l0_1.length : Int))) a0_0 l0_1)) = some r := by rw [if_pos rfl] at H; exact H
      clear H
      have H := H1
      clear H1
      by_cases c8 : a1 < 0
      · rw [if_pos c8] at H
        have c8b0 : decide (a1 < 0) = true := decide_eq_true c8
        clear c8
        (first | rw [c8b0] | (simp only [i64_w, i32_w]; rw [c8b0]) | skip)
        have H' := Aside0.mk H
        clear H
        have hcz9_0 : w5.cell? ⟨gb432, 0, none⟩ = some (.int .i64 a0_0) := (blk_cell BK432.out 0).trans rfl
        have hcz9_1 : w5.cell? ⟨gb432, 1, none⟩ = some (.slice A0_1 l0_1.length c0_1) := (blk_cell BK432.out 1).trans rfl
        have hfz9_0 := blk_frozen BK432.out 0
        have hfz9_1 := blk_frozen BK432.out 1
        go_wp2_with (first | ((with_reducible refine gate_callee (f := 21) rfl ?_); refine goesL_ (some 12) rfl rfl Try.func21 (by kernel_rfl) rfl #[.agg #[.int .i64 a0_0, .slice A0_1 l0_1.length c0_1]] rfl (by (try simp only [List.map_toArray, List.map_cons, List.map_nil]); first | done | rfl | (simp only [List.length_drop, List.length_take]; rfl)) ?_; (with_reducible refine (taskmasterlaw12_may.calls k a0_0 _ _ l0_1 true _ ?side1 ?side2 A6.out).mono ?_); (case side1 => repeat (first | exact (Kd.C_below HR0_1.out HB.out) | (with_reducible refine Kd.C_alloc ?_ _) | (with_reducible refine Kd.C_drewN ?_ _) | (with_reducible refine Kd.C_drew ?_))); (case side2 => exact HC0_1.out); rintro e w10 ⟨rfl, hb⟩; refine ⟨_, rfl, ?_⟩; have n0_ := Aside0.mk (blk_below (g := gb432) (o := .cells #[.int .i64 a0_0, .slice A0_1 l0_1.length c0_1] 24 (0, 0)) (by (with_reducible repeat (first | refine blk_drewN ?_ _ | refine blk_drew ?_ | refine blk_alloc ?_ _)); exact BK432.out) hb); have n1_ := Aside0.mk (below_step (by repeat (first | (with_reducible first | exact HB.out | apply below_alloc | apply pw_below_drewN | apply below_drew1 | refine below_set ?_ GE432.out) | exact HB.out)) hb); clear BK432; clear HB; have BK432 := n0_; have HB := n1_; clear n0_ n1_; (try clear hb); (try clear hb2); (try clear hk); (try clear hi)))
        go_meet
        case rel => exact ⟨_, (true), (by first | rfl | (simp; done) | (simp [*]; done)), H', ⟨by first | omega | exact Nat.le_refl _⟩, ⟨by (with_reducible repeat (first | refine blk_drewN ?_ _ | refine blk_drew ?_ | refine blk_alloc ?_ _)); exact BK432.out⟩, ⟨by repeat (first | (with_reducible first | exact HB.out | apply below_alloc | apply pw_below_drewN | apply below_drew1 | refine below_set ?_ GE432.out) | exact HB.out)⟩⟩
      · rw [if_neg c8] at H
        have c8b0 : decide (a1 < 0) = false := decide_eq_false c8
        clear c8
        (first | rw [c8b0] | (simp only [i64_w, i32_w]; rw [c8b0]) | skip)
        have H' := Aside0.mk H
        clear H
        have hcz11_0 : w5.cell? ⟨gb432, 0, none⟩ = some (.int .i64 a0_0) := (blk_cell BK432.out 0).trans rfl
        have hcz11_1 : w5.cell? ⟨gb432, 1, none⟩ = some (.slice A0_1 l0_1.length c0_1) := (blk_cell BK432.out 1).trans rfl
        have hfz11_0 := blk_frozen BK432.out 0
        have hfz11_1 := blk_frozen BK432.out 1
        go_wp2_with (first | ((with_reducible refine gate_callee (f := 21) rfl ?_); refine goesL_ (some 12) rfl rfl Try.func21 (by kernel_rfl) rfl #[.agg #[.int .i64 a0_0, .slice A0_1 l0_1.length c0_1]] rfl (by (try simp only [List.map_toArray, List.map_cons, List.map_nil]); first | done | rfl | (simp only [List.length_drop, List.length_take]; rfl)) ?_; (with_reducible refine (taskmasterlaw12_may.calls k a0_0 _ _ l0_1 true _ ?side1 ?side2 A6.out).mono ?_); (case side1 => repeat (first | exact (Kd.C_below HR0_1.out HB.out) | (with_reducible refine Kd.C_alloc ?_ _) | (with_reducible refine Kd.C_drewN ?_ _) | (with_reducible refine Kd.C_drew ?_))); (case side2 => exact HC0_1.out); rintro e w12 ⟨rfl, hb⟩; refine ⟨_, rfl, ?_⟩; have n0_ := Aside0.mk (blk_below (g := gb432) (o := .cells #[.int .i64 a0_0, .slice A0_1 l0_1.length c0_1] 24 (0, 0)) (by (with_reducible repeat (first | refine blk_drewN ?_ _ | refine blk_drew ?_ | refine blk_alloc ?_ _)); exact BK432.out) hb); have n1_ := Aside0.mk (below_step (by repeat (first | (with_reducible first | exact HB.out | apply below_alloc | apply pw_below_drewN | apply below_drew1 | refine below_set ?_ GE432.out) | exact HB.out)) hb); clear BK432; clear HB; have BK432 := n0_; have HB := n1_; clear n0_ n1_; (try clear hb); (try clear hb2); (try clear hk); (try clear hi); have hcz13_0 : w12.cell? ⟨gb432, 0, none⟩ = some (.int .i64 a0_0) := (blk_cell BK432.out 0).trans rfl; have hcz13_1 : w12.cell? ⟨gb432, 1, none⟩ = some (.slice A0_1 l0_1.length c0_1) := (blk_cell BK432.out 1).trans rfl; have hfz13_0 := blk_frozen BK432.out 0; have hfz13_1 := blk_frozen BK432.out 1))
        go_meet
        case rel => exact ⟨_, (decide (a1 ≥ (l0_1.length : Int))), (by first | rfl | (simp; done) | (simp [*]; done)), H', ⟨by first | omega | exact Nat.le_refl _⟩, ⟨by (with_reducible repeat (first | refine blk_drewN ?_ _ | refine blk_drew ?_ | refine blk_alloc ?_ _)); exact BK432.out⟩, ⟨by repeat (first | (with_reducible first | exact HB.out | apply below_alloc | apply pw_below_drewN | apply below_drew1 | refine below_set ?_ GE432.out) | exact HB.out)⟩⟩
    · replace c7 := Bool.eq_false_iff.mpr c7
      subst c7
      have H1 : (taskmasterlaw12_RespBusy.j0 k a1 a2 true a0_0 l0_1) = some r := by rw [if_neg (show ¬ (false = true) by decide)] at H; exact H
      clear H
      have H := H1
      clear H1
      have H' := Aside0.mk H
      clear H
      have hcz14_0 : w5.cell? ⟨gb432, 0, none⟩ = some (.int .i64 a0_0) := (blk_cell BK432.out 0).trans rfl
      have hcz14_1 : w5.cell? ⟨gb432, 1, none⟩ = some (.slice A0_1 l0_1.length c0_1) := (blk_cell BK432.out 1).trans rfl
      have hfz14_0 := blk_frozen BK432.out 0
      have hfz14_1 := blk_frozen BK432.out 1
      go_wp2_with (first | ((with_reducible refine gate_callee (f := 21) rfl ?_); refine goesL_ (some 12) rfl rfl Try.func21 (by kernel_rfl) rfl #[.agg #[.int .i64 a0_0, .slice A0_1 l0_1.length c0_1]] rfl (by (try simp only [List.map_toArray, List.map_cons, List.map_nil]); first | done | rfl | (simp only [List.length_drop, List.length_take]; rfl)) ?_; (with_reducible refine (taskmasterlaw12_may.calls k a0_0 _ _ l0_1 false _ ?side1 ?side2 A6.out).mono ?_); (case side1 => repeat (first | exact (Kd.C_below HR0_1.out HB.out) | (with_reducible refine Kd.C_alloc ?_ _) | (with_reducible refine Kd.C_drewN ?_ _) | (with_reducible refine Kd.C_drew ?_))); (case side2 => exact HC0_1.out); rintro e w15 ⟨rfl, hb⟩; refine ⟨_, rfl, ?_⟩; have n0_ := Aside0.mk (blk_below (g := gb432) (o := .cells #[.int .i64 a0_0, .slice A0_1 l0_1.length c0_1] 24 (0, 0)) (by (with_reducible repeat (first | refine blk_drewN ?_ _ | refine blk_drew ?_ | refine blk_alloc ?_ _)); exact BK432.out) hb); have n1_ := Aside0.mk (below_step (by repeat (first | (with_reducible first | exact HB.out | apply below_alloc | apply pw_below_drewN | apply below_drew1 | refine below_set ?_ GE432.out) | exact HB.out)) hb); clear BK432; clear HB; have BK432 := n0_; have HB := n1_; clear n0_ n1_; (try clear hb); (try clear hb2); (try clear hk); (try clear hi)))
      go_meet
      case rel => exact ⟨_, (true), (by first | rfl | (simp; done) | (simp [*]; done)), H', ⟨by first | omega | exact Nat.le_refl _⟩, ⟨by (with_reducible repeat (first | refine blk_drewN ?_ _ | refine blk_drew ?_ | refine blk_alloc ?_ _)); exact BK432.out⟩, ⟨by repeat (first | (with_reducible first | exact HB.out | apply below_alloc | apply pw_below_drewN | apply below_drew1 | refine below_set ?_ GE432.out) | exact HB.out)⟩⟩
  case rest =>
    clear HC4
    try clear c1
    try clear c2
    try clear p2
    try clear c7
    try clear c8
    try clear c8b0
    try clear c10
    try clear hcz11_0
    try clear hcz11_1
    try clear hcz13_0
    try clear hcz13_1
    try clear hcz14_0
    try clear hcz14_1
    try clear hcz9_0
    try clear hcz9_1
    try clear hfz11_0
    try clear hfz11_1
    try clear hfz13_0
    try clear hfz13_1
    try clear hfz14_0
    try clear hfz14_1
    try clear hfz9_0
    try clear hfz9_1
    obtain ⟨kq, x24_3, rfl, HA, HJ3, BK432, HB⟩ := hcut
    cases kq with
    | zero => exact absurd HA.out (by simp [taskmasterlaw12_RespBusy.j0])
    | succ kj3 =>
      have H := HA.out
      clear HA
      simp only [taskmasterlaw12_RespBusy.j0] at H
      by_cases c16 : x24_3 = true
      · subst c16
        have H1 : (some true) = some r := by rw [if_pos rfl] at H; exact H
        clear H
        have H := H1
        clear H1
        obtain rfl := Option.some.inj H
        go_wp2
        go_ret
        exact ⟨by first | rfl | (simp [errW_none, errW_some] <;> rfl) | (simp [*, errW_none, errW_some] <;> rfl), by repeat (first | (with_reducible first | exact HB.out | apply below_alloc | apply pw_below_drewN | apply below_drew1 | refine below_set ?_ GE432.out) | exact HB.out)⟩
      · replace c16 := Bool.eq_false_iff.mpr c16
        subst c16
        have H1 : ((resp_With.f kj3 a0_0 l0_1 a1 a2).bind fun bt434 => ((active_Of.f kj3 a0_0 l0_1 a1 a2).bind fun bt436 => (if ((bt434.2 == 3) == (!bt436.2)) = true then (if bt434.2 = 3 then ((taskmasterlaw12_known.f kj3).bind fun t438 => (some t438)) else (if bt434.1 ≤ bt436.1 then ((taskmasterlaw12_known.f kj3).bind fun t439 => (some t439)) else (some false))) else (some false)))) = some r := by rw [if_neg (show ¬ (false = true) by decide)] at H; exact H
        clear H
        have H := H1
        clear H1
        replace H := Option.bind_eq_some_iff.mp H
        obtain ⟨⟨t434, t435⟩, A170, H⟩ := H
        replace H : ((active_Of.f kj3 a0_0 l0_1 a1 a2).bind fun bt436 => (if ((t435 == 3) == (!bt436.2)) = true then (if t435 = 3 then ((taskmasterlaw12_known.f kj3).bind fun t438 => (some t438)) else (if t434 ≤ bt436.1 then ((taskmasterlaw12_known.f kj3).bind fun t439 => (some t439)) else (some false))) else (some false))) = some r := H
        have A17 := Aside0.mk A170
        clear A170
        replace H := Option.bind_eq_some_iff.mp H
        obtain ⟨⟨t436, t437⟩, A180, H⟩ := H
        replace H : (if ((t435 == 3) == (!t437)) = true then (if t435 = 3 then ((taskmasterlaw12_known.f kj3).bind fun t438 => (some t438)) else (if t434 ≤ t436 then ((taskmasterlaw12_known.f kj3).bind fun t439 => (some t439)) else (some false))) else (some false)) = some r := H
        have A18 := Aside0.mk A180
        clear A180
        by_cases c19 : ((t435 == 3) == (!t437)) = true
        · rw [if_pos c19] at H
          have c19b0 : ((t435 == 3) == (!t437)) = true := c19
          (try (have c19b1 : decide ((t435 == 3) = (!t437)) = true := by simpa using c19))
          (try (have c19b2 : ((t435 == 3) == (!t437)) = true := by simpa using c19))
          clear c19
          by_cases c20 : t435 = 3
          · rw [if_pos c20] at H
            have c20b0 : (t435 == 3) = true := beq_iff_eq.mpr c20
            have c20b1 : (t435 != 3) = false := bne_eq_false_iff_eq.mpr c20
            clear c20
            have ct : t437 = false := by revert c19b0; rw [c20b0]; cases t437 <;> simp
            replace H := Option.bind_eq_some_iff.mp H
            obtain ⟨t438, A210, H⟩ := H
            replace H : (some t438) = some r := H
            have A21 := Aside0.mk A210
            clear A210
            obtain rfl := Option.some.inj H
            have hcz22_0 : wc.cell? ⟨gb432, 0, none⟩ = some (.int .i64 a0_0) := (blk_cell BK432.out 0).trans rfl
            have hcz22_1 : wc.cell? ⟨gb432, 1, none⟩ = some (.slice A0_1 l0_1.length c0_1) := (blk_cell BK432.out 1).trans rfl
            have hfz22_0 := blk_frozen BK432.out 0
            have hfz22_1 := blk_frozen BK432.out 1
            go_wp2_with (first | ((with_reducible refine gate_callee (f := 22) rfl ?_); refine goesL_ (some 29) rfl rfl Try.func22 (by kernel_rfl) rfl #[.agg #[.int .i64 a0_0, .slice A0_1 l0_1.length c0_1], .int .i64 a1, .int .i64 a2] rfl (by (try simp only [List.map_toArray, List.map_cons, List.map_nil]); first | done | rfl | (simp only [List.length_drop, List.length_take]; rfl)) ?_; (with_reducible refine (resp_With.calls kj3 a0_0 _ _ l0_1 a1 a2 t434 t435 _ ?side1 ?side2 A17.out).mono ?_); (case side1 => repeat (first | exact (Kd.C_below HR0_1.out HB.out) | (with_reducible refine Kd.C_alloc ?_ _) | (with_reducible refine Kd.C_drewN ?_ _) | (with_reducible refine Kd.C_drew ?_))); (case side2 => exact HC0_1.out); rintro e w23 ⟨rfl, hb⟩; refine ⟨_, rfl, ?_⟩; have n0_ := Aside0.mk (blk_below (g := gb432) (o := .cells #[.int .i64 a0_0, .slice A0_1 l0_1.length c0_1] 24 (0, 0)) (by (with_reducible repeat (first | refine blk_drewN ?_ _ | refine blk_drew ?_ | refine blk_alloc ?_ _)); exact BK432.out) hb); have n1_ := Aside0.mk (below_step (by repeat (first | (with_reducible first | exact HB.out | apply below_alloc | apply pw_below_drewN | apply below_drew1 | refine below_set ?_ GE432.out) | exact HB.out)) hb); clear BK432; clear HB; have BK432 := n0_; have HB := n1_; clear n0_ n1_; (try clear hb); (try clear hb2); (try clear hk); (try clear hi); have hcz24_0 : w23.cell? ⟨gb432, 0, none⟩ = some (.int .i64 a0_0) := (blk_cell BK432.out 0).trans rfl; have hcz24_1 : w23.cell? ⟨gb432, 1, none⟩ = some (.slice A0_1 l0_1.length c0_1) := (blk_cell BK432.out 1).trans rfl; have hfz24_0 := blk_frozen BK432.out 0; have hfz24_1 := blk_frozen BK432.out 1) | ((with_reducible refine gate_callee (f := 13) rfl ?_); refine goesL_ (some 36) rfl rfl Try.func13 (by kernel_rfl) rfl #[.agg #[.int .i64 a0_0, .slice A0_1 l0_1.length c0_1], .int .i64 a1, .int .i64 a2] rfl (by (try simp only [List.map_toArray, List.map_cons, List.map_nil]); first | done | rfl | (simp only [List.length_drop, List.length_take]; rfl)) ?_; (with_reducible refine (active_Of.calls kj3 a0_0 _ _ l0_1 a1 a2 t436 t437 _ ?side1 ?side2 A18.out).mono ?_); (case side1 => repeat (first | exact (Kd.C_below HR0_1.out HB.out) | (with_reducible refine Kd.C_alloc ?_ _) | (with_reducible refine Kd.C_drewN ?_ _) | (with_reducible refine Kd.C_drew ?_))); (case side2 => exact HC0_1.out); rintro e w25 ⟨rfl, hb⟩; refine ⟨_, rfl, ?_⟩; have n0_ := Aside0.mk (blk_below (g := gb432) (o := .cells #[.int .i64 a0_0, .slice A0_1 l0_1.length c0_1] 24 (0, 0)) (by (with_reducible repeat (first | refine blk_drewN ?_ _ | refine blk_drew ?_ | refine blk_alloc ?_ _)); exact BK432.out) hb); have n1_ := Aside0.mk (below_step (by repeat (first | (with_reducible first | exact HB.out | apply below_alloc | apply pw_below_drewN | apply below_drew1 | refine below_set ?_ GE432.out) | exact HB.out)) hb); clear BK432; clear HB; have BK432 := n0_; have HB := n1_; clear n0_ n1_; (try clear hb); (try clear hb2); (try clear hk); (try clear hi)) | (go_at_call 23; (with_reducible refine (taskmasterlaw12_known.calls kj3  t438 _ A21.out).mono ?_); rintro e w26 ⟨rfl, hb⟩; have n0_ := Aside0.mk (blk_below (g := gb432) (o := .cells #[.int .i64 a0_0, .slice A0_1 l0_1.length c0_1] 24 (0, 0)) (by (with_reducible repeat (first | refine blk_drewN ?_ _ | refine blk_drew ?_ | refine blk_alloc ?_ _)); exact BK432.out) hb); have n1_ := Aside0.mk (below_step (by repeat (first | (with_reducible first | exact HB.out | apply below_alloc | apply pw_below_drewN | apply below_drew1 | refine below_set ?_ GE432.out) | exact HB.out)) hb); clear BK432; clear HB; have BK432 := n0_; have HB := n1_; clear n0_ n1_; (try clear hb); (try clear hb2); (try clear hk); (try clear hi)))
            go_ret
            exact ⟨by first | rfl | (simp [errW_none, errW_some] <;> rfl) | (simp [*, errW_none, errW_some] <;> rfl), by repeat (first | (with_reducible first | exact HB.out | apply below_alloc | apply pw_below_drewN | apply below_drew1 | refine below_set ?_ GE432.out) | exact HB.out)⟩
          · rw [if_neg c20] at H
            have c20b0 : (t435 == 3) = false := beq_eq_false_iff_ne.mpr c20
            have c20b1 : (t435 != 3) = true := bne_iff_ne.mpr c20
            have ct : t437 = true := by revert c19b0; rw [c20b0]; cases t437 <;> simp
            by_cases c27 : t434 ≤ t436
            · rw [if_pos c27] at H
              have c27b0 : decide (t434 ≤ t436) = true := decide_eq_true c27
              clear c27
              replace H := Option.bind_eq_some_iff.mp H
              obtain ⟨t439, A280, H⟩ := H
              replace H : (some t439) = some r := H
              have A28 := Aside0.mk A280
              clear A280
              obtain rfl := Option.some.inj H
              have hcz29_0 : wc.cell? ⟨gb432, 0, none⟩ = some (.int .i64 a0_0) := (blk_cell BK432.out 0).trans rfl
              have hcz29_1 : wc.cell? ⟨gb432, 1, none⟩ = some (.slice A0_1 l0_1.length c0_1) := (blk_cell BK432.out 1).trans rfl
              have hfz29_0 := blk_frozen BK432.out 0
              have hfz29_1 := blk_frozen BK432.out 1
              go_wp2_with (first | ((with_reducible refine gate_callee (f := 22) rfl ?_); refine goesL_ (some 29) rfl rfl Try.func22 (by kernel_rfl) rfl #[.agg #[.int .i64 a0_0, .slice A0_1 l0_1.length c0_1], .int .i64 a1, .int .i64 a2] rfl (by (try simp only [List.map_toArray, List.map_cons, List.map_nil]); first | done | rfl | (simp only [List.length_drop, List.length_take]; rfl)) ?_; (with_reducible refine (resp_With.calls kj3 a0_0 _ _ l0_1 a1 a2 t434 t435 _ ?side1 ?side2 A17.out).mono ?_); (case side1 => repeat (first | exact (Kd.C_below HR0_1.out HB.out) | (with_reducible refine Kd.C_alloc ?_ _) | (with_reducible refine Kd.C_drewN ?_ _) | (with_reducible refine Kd.C_drew ?_))); (case side2 => exact HC0_1.out); rintro e w30 ⟨rfl, hb⟩; refine ⟨_, rfl, ?_⟩; have n0_ := Aside0.mk (blk_below (g := gb432) (o := .cells #[.int .i64 a0_0, .slice A0_1 l0_1.length c0_1] 24 (0, 0)) (by (with_reducible repeat (first | refine blk_drewN ?_ _ | refine blk_drew ?_ | refine blk_alloc ?_ _)); exact BK432.out) hb); have n1_ := Aside0.mk (below_step (by repeat (first | (with_reducible first | exact HB.out | apply below_alloc | apply pw_below_drewN | apply below_drew1 | refine below_set ?_ GE432.out) | exact HB.out)) hb); clear BK432; clear HB; have BK432 := n0_; have HB := n1_; clear n0_ n1_; (try clear hb); (try clear hb2); (try clear hk); (try clear hi); have hcz31_0 : w30.cell? ⟨gb432, 0, none⟩ = some (.int .i64 a0_0) := (blk_cell BK432.out 0).trans rfl; have hcz31_1 : w30.cell? ⟨gb432, 1, none⟩ = some (.slice A0_1 l0_1.length c0_1) := (blk_cell BK432.out 1).trans rfl; have hfz31_0 := blk_frozen BK432.out 0; have hfz31_1 := blk_frozen BK432.out 1) | ((with_reducible refine gate_callee (f := 13) rfl ?_); refine goesL_ (some 36) rfl rfl Try.func13 (by kernel_rfl) rfl #[.agg #[.int .i64 a0_0, .slice A0_1 l0_1.length c0_1], .int .i64 a1, .int .i64 a2] rfl (by (try simp only [List.map_toArray, List.map_cons, List.map_nil]); first | done | rfl | (simp only [List.length_drop, List.length_take]; rfl)) ?_; (with_reducible refine (active_Of.calls kj3 a0_0 _ _ l0_1 a1 a2 t436 t437 _ ?side1 ?side2 A18.out).mono ?_); (case side1 => repeat (first | exact (Kd.C_below HR0_1.out HB.out) | (with_reducible refine Kd.C_alloc ?_ _) | (with_reducible refine Kd.C_drewN ?_ _) | (with_reducible refine Kd.C_drew ?_))); (case side2 => exact HC0_1.out); rintro e w32 ⟨rfl, hb⟩; refine ⟨_, rfl, ?_⟩; have n0_ := Aside0.mk (blk_below (g := gb432) (o := .cells #[.int .i64 a0_0, .slice A0_1 l0_1.length c0_1] 24 (0, 0)) (by (with_reducible repeat (first | refine blk_drewN ?_ _ | refine blk_drew ?_ | refine blk_alloc ?_ _)); exact BK432.out) hb); have n1_ := Aside0.mk (below_step (by repeat (first | (with_reducible first | exact HB.out | apply below_alloc | apply pw_below_drewN | apply below_drew1 | refine below_set ?_ GE432.out) | exact HB.out)) hb); clear BK432; clear HB; have BK432 := n0_; have HB := n1_; clear n0_ n1_; (try clear hb); (try clear hb2); (try clear hk); (try clear hi)) | (go_at_call 23; (with_reducible refine (taskmasterlaw12_known.calls kj3  t439 _ A28.out).mono ?_); rintro e w33 ⟨rfl, hb⟩; have n0_ := Aside0.mk (blk_below (g := gb432) (o := .cells #[.int .i64 a0_0, .slice A0_1 l0_1.length c0_1] 24 (0, 0)) (by (with_reducible repeat (first | refine blk_drewN ?_ _ | refine blk_drew ?_ | refine blk_alloc ?_ _)); exact BK432.out) hb); have n1_ := Aside0.mk (below_step (by repeat (first | (with_reducible first | exact HB.out | apply below_alloc | apply pw_below_drewN | apply below_drew1 | refine below_set ?_ GE432.out) | exact HB.out)) hb); clear BK432; clear HB; have BK432 := n0_; have HB := n1_; clear n0_ n1_; (try clear hb); (try clear hb2); (try clear hk); (try clear hi)))
              go_ret
              exact ⟨by first | rfl | (simp [errW_none, errW_some] <;> rfl) | (simp [*, errW_none, errW_some] <;> rfl), by repeat (first | (with_reducible first | exact HB.out | apply below_alloc | apply pw_below_drewN | apply below_drew1 | refine below_set ?_ GE432.out) | exact HB.out)⟩
            · rw [if_neg c27] at H
              have c27b0 : decide (t434 ≤ t436) = false := decide_eq_false c27
              clear c27
              obtain rfl := Option.some.inj H
              have hcz34_0 : wc.cell? ⟨gb432, 0, none⟩ = some (.int .i64 a0_0) := (blk_cell BK432.out 0).trans rfl
              have hcz34_1 : wc.cell? ⟨gb432, 1, none⟩ = some (.slice A0_1 l0_1.length c0_1) := (blk_cell BK432.out 1).trans rfl
              have hfz34_0 := blk_frozen BK432.out 0
              have hfz34_1 := blk_frozen BK432.out 1
              go_wp2_with (first | ((with_reducible refine gate_callee (f := 22) rfl ?_); refine goesL_ (some 29) rfl rfl Try.func22 (by kernel_rfl) rfl #[.agg #[.int .i64 a0_0, .slice A0_1 l0_1.length c0_1], .int .i64 a1, .int .i64 a2] rfl (by (try simp only [List.map_toArray, List.map_cons, List.map_nil]); first | done | rfl | (simp only [List.length_drop, List.length_take]; rfl)) ?_; (with_reducible refine (resp_With.calls kj3 a0_0 _ _ l0_1 a1 a2 t434 t435 _ ?side1 ?side2 A17.out).mono ?_); (case side1 => repeat (first | exact (Kd.C_below HR0_1.out HB.out) | (with_reducible refine Kd.C_alloc ?_ _) | (with_reducible refine Kd.C_drewN ?_ _) | (with_reducible refine Kd.C_drew ?_))); (case side2 => exact HC0_1.out); rintro e w35 ⟨rfl, hb⟩; refine ⟨_, rfl, ?_⟩; have n0_ := Aside0.mk (blk_below (g := gb432) (o := .cells #[.int .i64 a0_0, .slice A0_1 l0_1.length c0_1] 24 (0, 0)) (by (with_reducible repeat (first | refine blk_drewN ?_ _ | refine blk_drew ?_ | refine blk_alloc ?_ _)); exact BK432.out) hb); have n1_ := Aside0.mk (below_step (by repeat (first | (with_reducible first | exact HB.out | apply below_alloc | apply pw_below_drewN | apply below_drew1 | refine below_set ?_ GE432.out) | exact HB.out)) hb); clear BK432; clear HB; have BK432 := n0_; have HB := n1_; clear n0_ n1_; (try clear hb); (try clear hb2); (try clear hk); (try clear hi); have hcz36_0 : w35.cell? ⟨gb432, 0, none⟩ = some (.int .i64 a0_0) := (blk_cell BK432.out 0).trans rfl; have hcz36_1 : w35.cell? ⟨gb432, 1, none⟩ = some (.slice A0_1 l0_1.length c0_1) := (blk_cell BK432.out 1).trans rfl; have hfz36_0 := blk_frozen BK432.out 0; have hfz36_1 := blk_frozen BK432.out 1) | ((with_reducible refine gate_callee (f := 13) rfl ?_); refine goesL_ (some 36) rfl rfl Try.func13 (by kernel_rfl) rfl #[.agg #[.int .i64 a0_0, .slice A0_1 l0_1.length c0_1], .int .i64 a1, .int .i64 a2] rfl (by (try simp only [List.map_toArray, List.map_cons, List.map_nil]); first | done | rfl | (simp only [List.length_drop, List.length_take]; rfl)) ?_; (with_reducible refine (active_Of.calls kj3 a0_0 _ _ l0_1 a1 a2 t436 t437 _ ?side1 ?side2 A18.out).mono ?_); (case side1 => repeat (first | exact (Kd.C_below HR0_1.out HB.out) | (with_reducible refine Kd.C_alloc ?_ _) | (with_reducible refine Kd.C_drewN ?_ _) | (with_reducible refine Kd.C_drew ?_))); (case side2 => exact HC0_1.out); rintro e w37 ⟨rfl, hb⟩; refine ⟨_, rfl, ?_⟩; have n0_ := Aside0.mk (blk_below (g := gb432) (o := .cells #[.int .i64 a0_0, .slice A0_1 l0_1.length c0_1] 24 (0, 0)) (by (with_reducible repeat (first | refine blk_drewN ?_ _ | refine blk_drew ?_ | refine blk_alloc ?_ _)); exact BK432.out) hb); have n1_ := Aside0.mk (below_step (by repeat (first | (with_reducible first | exact HB.out | apply below_alloc | apply pw_below_drewN | apply below_drew1 | refine below_set ?_ GE432.out) | exact HB.out)) hb); clear BK432; clear HB; have BK432 := n0_; have HB := n1_; clear n0_ n1_; (try clear hb); (try clear hb2); (try clear hk); (try clear hi)))
              go_ret
              exact ⟨by first | rfl | (simp [errW_none, errW_some] <;> rfl) | (simp [*, errW_none, errW_some] <;> rfl), by repeat (first | (with_reducible first | exact HB.out | apply below_alloc | apply pw_below_drewN | apply below_drew1 | refine below_set ?_ GE432.out) | exact HB.out)⟩
        · rw [if_neg c19] at H
          have c19b0 : ((t435 == 3) == (!t437)) = false := by simpa using c19
          (try (have c19b1 : decide ((t435 == 3) = (!t437)) = false := by simpa using c19))
          (try (have c19b2 : ((t435 == 3) == (!t437)) = false := by simpa using c19))
          (try (have c19b3 : ¬ ((t435 == 3) = (!t437)) := by simpa using c19))
          clear c19
          have cu : (t437 = true ∧ (t435 == 3) = true) ∨ (t437 = false ∧ (t435 == 3) = false) := by revert c19b0; cases t437 <;> cases (t435 == 3) <;> simp
          rcases cu with ⟨ct, cu⟩ | ⟨ct, cu⟩
          · obtain rfl := Option.some.inj H
            have hcz38_0 : wc.cell? ⟨gb432, 0, none⟩ = some (.int .i64 a0_0) := (blk_cell BK432.out 0).trans rfl
            have hcz38_1 : wc.cell? ⟨gb432, 1, none⟩ = some (.slice A0_1 l0_1.length c0_1) := (blk_cell BK432.out 1).trans rfl
            have hfz38_0 := blk_frozen BK432.out 0
            have hfz38_1 := blk_frozen BK432.out 1
            go_wp2_with (first | ((with_reducible refine gate_callee (f := 22) rfl ?_); refine goesL_ (some 29) rfl rfl Try.func22 (by kernel_rfl) rfl #[.agg #[.int .i64 a0_0, .slice A0_1 l0_1.length c0_1], .int .i64 a1, .int .i64 a2] rfl (by (try simp only [List.map_toArray, List.map_cons, List.map_nil]); first | done | rfl | (simp only [List.length_drop, List.length_take]; rfl)) ?_; (with_reducible refine (resp_With.calls kj3 a0_0 _ _ l0_1 a1 a2 t434 t435 _ ?side1 ?side2 A17.out).mono ?_); (case side1 => repeat (first | exact (Kd.C_below HR0_1.out HB.out) | (with_reducible refine Kd.C_alloc ?_ _) | (with_reducible refine Kd.C_drewN ?_ _) | (with_reducible refine Kd.C_drew ?_))); (case side2 => exact HC0_1.out); rintro e w39 ⟨rfl, hb⟩; refine ⟨_, rfl, ?_⟩; have n0_ := Aside0.mk (blk_below (g := gb432) (o := .cells #[.int .i64 a0_0, .slice A0_1 l0_1.length c0_1] 24 (0, 0)) (by (with_reducible repeat (first | refine blk_drewN ?_ _ | refine blk_drew ?_ | refine blk_alloc ?_ _)); exact BK432.out) hb); have n1_ := Aside0.mk (below_step (by repeat (first | (with_reducible first | exact HB.out | apply below_alloc | apply pw_below_drewN | apply below_drew1 | refine below_set ?_ GE432.out) | exact HB.out)) hb); clear BK432; clear HB; have BK432 := n0_; have HB := n1_; clear n0_ n1_; (try clear hb); (try clear hb2); (try clear hk); (try clear hi); have hcz40_0 : w39.cell? ⟨gb432, 0, none⟩ = some (.int .i64 a0_0) := (blk_cell BK432.out 0).trans rfl; have hcz40_1 : w39.cell? ⟨gb432, 1, none⟩ = some (.slice A0_1 l0_1.length c0_1) := (blk_cell BK432.out 1).trans rfl; have hfz40_0 := blk_frozen BK432.out 0; have hfz40_1 := blk_frozen BK432.out 1) | ((with_reducible refine gate_callee (f := 13) rfl ?_); refine goesL_ (some 36) rfl rfl Try.func13 (by kernel_rfl) rfl #[.agg #[.int .i64 a0_0, .slice A0_1 l0_1.length c0_1], .int .i64 a1, .int .i64 a2] rfl (by (try simp only [List.map_toArray, List.map_cons, List.map_nil]); first | done | rfl | (simp only [List.length_drop, List.length_take]; rfl)) ?_; (with_reducible refine (active_Of.calls kj3 a0_0 _ _ l0_1 a1 a2 t436 t437 _ ?side1 ?side2 A18.out).mono ?_); (case side1 => repeat (first | exact (Kd.C_below HR0_1.out HB.out) | (with_reducible refine Kd.C_alloc ?_ _) | (with_reducible refine Kd.C_drewN ?_ _) | (with_reducible refine Kd.C_drew ?_))); (case side2 => exact HC0_1.out); rintro e w41 ⟨rfl, hb⟩; refine ⟨_, rfl, ?_⟩; have n0_ := Aside0.mk (blk_below (g := gb432) (o := .cells #[.int .i64 a0_0, .slice A0_1 l0_1.length c0_1] 24 (0, 0)) (by (with_reducible repeat (first | refine blk_drewN ?_ _ | refine blk_drew ?_ | refine blk_alloc ?_ _)); exact BK432.out) hb); have n1_ := Aside0.mk (below_step (by repeat (first | (with_reducible first | exact HB.out | apply below_alloc | apply pw_below_drewN | apply below_drew1 | refine below_set ?_ GE432.out) | exact HB.out)) hb); clear BK432; clear HB; have BK432 := n0_; have HB := n1_; clear n0_ n1_; (try clear hb); (try clear hb2); (try clear hk); (try clear hi)))
            go_ret
            exact ⟨by first | rfl | (simp [errW_none, errW_some] <;> rfl) | (simp [*, errW_none, errW_some] <;> rfl), by repeat (first | (with_reducible first | exact HB.out | apply below_alloc | apply pw_below_drewN | apply below_drew1 | refine below_set ?_ GE432.out) | exact HB.out)⟩
          · obtain rfl := Option.some.inj H
            have hcz38_0 : wc.cell? ⟨gb432, 0, none⟩ = some (.int .i64 a0_0) := (blk_cell BK432.out 0).trans rfl
            have hcz38_1 : wc.cell? ⟨gb432, 1, none⟩ = some (.slice A0_1 l0_1.length c0_1) := (blk_cell BK432.out 1).trans rfl
            have hfz38_0 := blk_frozen BK432.out 0
            have hfz38_1 := blk_frozen BK432.out 1
            go_wp2_with (first | ((with_reducible refine gate_callee (f := 22) rfl ?_); refine goesL_ (some 29) rfl rfl Try.func22 (by kernel_rfl) rfl #[.agg #[.int .i64 a0_0, .slice A0_1 l0_1.length c0_1], .int .i64 a1, .int .i64 a2] rfl (by (try simp only [List.map_toArray, List.map_cons, List.map_nil]); first | done | rfl | (simp only [List.length_drop, List.length_take]; rfl)) ?_; (with_reducible refine (resp_With.calls kj3 a0_0 _ _ l0_1 a1 a2 t434 t435 _ ?side1 ?side2 A17.out).mono ?_); (case side1 => repeat (first | exact (Kd.C_below HR0_1.out HB.out) | (with_reducible refine Kd.C_alloc ?_ _) | (with_reducible refine Kd.C_drewN ?_ _) | (with_reducible refine Kd.C_drew ?_))); (case side2 => exact HC0_1.out); rintro e w39 ⟨rfl, hb⟩; refine ⟨_, rfl, ?_⟩; have n0_ := Aside0.mk (blk_below (g := gb432) (o := .cells #[.int .i64 a0_0, .slice A0_1 l0_1.length c0_1] 24 (0, 0)) (by (with_reducible repeat (first | refine blk_drewN ?_ _ | refine blk_drew ?_ | refine blk_alloc ?_ _)); exact BK432.out) hb); have n1_ := Aside0.mk (below_step (by repeat (first | (with_reducible first | exact HB.out | apply below_alloc | apply pw_below_drewN | apply below_drew1 | refine below_set ?_ GE432.out) | exact HB.out)) hb); clear BK432; clear HB; have BK432 := n0_; have HB := n1_; clear n0_ n1_; (try clear hb); (try clear hb2); (try clear hk); (try clear hi); have hcz40_0 : w39.cell? ⟨gb432, 0, none⟩ = some (.int .i64 a0_0) := (blk_cell BK432.out 0).trans rfl; have hcz40_1 : w39.cell? ⟨gb432, 1, none⟩ = some (.slice A0_1 l0_1.length c0_1) := (blk_cell BK432.out 1).trans rfl; have hfz40_0 := blk_frozen BK432.out 0; have hfz40_1 := blk_frozen BK432.out 1) | ((with_reducible refine gate_callee (f := 13) rfl ?_); refine goesL_ (some 36) rfl rfl Try.func13 (by kernel_rfl) rfl #[.agg #[.int .i64 a0_0, .slice A0_1 l0_1.length c0_1], .int .i64 a1, .int .i64 a2] rfl (by (try simp only [List.map_toArray, List.map_cons, List.map_nil]); first | done | rfl | (simp only [List.length_drop, List.length_take]; rfl)) ?_; (with_reducible refine (active_Of.calls kj3 a0_0 _ _ l0_1 a1 a2 t436 t437 _ ?side1 ?side2 A18.out).mono ?_); (case side1 => repeat (first | exact (Kd.C_below HR0_1.out HB.out) | (with_reducible refine Kd.C_alloc ?_ _) | (with_reducible refine Kd.C_drewN ?_ _) | (with_reducible refine Kd.C_drew ?_))); (case side2 => exact HC0_1.out); rintro e w41 ⟨rfl, hb⟩; refine ⟨_, rfl, ?_⟩; have n0_ := Aside0.mk (blk_below (g := gb432) (o := .cells #[.int .i64 a0_0, .slice A0_1 l0_1.length c0_1] 24 (0, 0)) (by (with_reducible repeat (first | refine blk_drewN ?_ _ | refine blk_drew ?_ | refine blk_alloc ?_ _)); exact BK432.out) hb); have n1_ := Aside0.mk (below_step (by repeat (first | (with_reducible first | exact HB.out | apply below_alloc | apply pw_below_drewN | apply below_drew1 | refine below_set ?_ GE432.out) | exact HB.out)) hb); clear BK432; clear HB; have BK432 := n0_; have HB := n1_; clear n0_ n1_; (try clear hb); (try clear hb2); (try clear hk); (try clear hi)))
            go_ret
            exact ⟨by first | rfl | (simp [errW_none, errW_some] <;> rfl) | (simp [*, errW_none, errW_some] <;> rfl), by repeat (first | (with_reducible first | exact HB.out | apply below_alloc | apply pw_below_drewN | apply below_drew1 | refine below_set ?_ GE432.out) | exact HB.out)⟩
end Go.Proofs.Ytllnlmcofaomlaa.QAc
namespace Go.Proofs.Ytllnlmcofaomlaa.Pure
open Go.RowKit Go.Proofs.Ytllnlmcofaomlaa.QAc Go.Proofs.YtllnlmcofaomlaaW.PrintWords Go.Proofs.YtllnlmcofaomlaaW.PrintLast Go.Proofs.YtllnlmcofaomlaaW.PrintMore Go.Proofs.Ytllnlmcofaomlaa.RefSet Go.Proofs.Ytllnlmcofaomlaa.AgainPure Go.Proofs.Ytllnlmcofaomlaa.FixMath Go.Proofs.Ytllnlmcofaomlaa.ActivePure Go.Proofs.Ytllnlmcofaomlaa.RespPure
open Go.Proofs.Ytllnlmcofaomlaa.FixPure (prs leastV prs_length)
set_option linter.unusedVariables false
theorem RespBusy (a0 : S24) (a1 : Int) (a2 : Int) (w0 : wf24 a0) (w1 : (Lit.int .i64 a1).wf = true) (w2 : (Lit.int .i64 a2).wf = true) : ∃ k : Nat, taskmasterlaw12_RespBusy.f k a0.f0 a0.f1 a1 a2 = some true := by
  refine Ev.rounds ?_
  have hS := sets_of w0.2
  obtain ⟨b, hb, hok⟩ := may_ends a0.f0 a0.f1 (sizes_of w0.2)
  generalize a0.f0 = r at *
  generalize a0.f1 = l at *
  have no : Ev (fun k => taskmasterlaw12_RespBusy.j0 k a1 a2 true r l) true := Ev.step (fun k => by rw [taskmasterlaw12_RespBusy.j0, if_pos rfl]) (Ev.now true)
  unfold taskmasterlaw12_RespBusy.f
  refine Ev.bind hb ?_
  by_cases c1 : b = true
  · have ok := hok c1
    refine evp c1 ?_
    by_cases c2 : a1 < 0
    · exact evp c2 no
    refine evn c2 ?_
    by_cases c3 : a1 ≥ (l.length : Int)
    · rw [decide_eq_true c3]; exact no
    rw [decide_eq_false c3]
    refine Ev.step (fun k => by rw [taskmasterlaw12_RespBusy.j0, if_neg (by simp)]) (Ev.bind (with_ev ok hS a1 a2) (Ev.bind (of_ev ok hS a1 a2) ?_))
    rcases with_tells ok a1 a2 with ⟨q, e1, e2, e3, e4⟩ | ⟨q, e⟩
    · rw [← e1] at e2 e3
      have hH : (withV r l a1 a2).2 ≠ 3 := by omega
      refine evp (by rw [q]; simpa using hH) (evn hH (evp e3 (Ev.bind known12 (Ev.now true))))
    · rw [e]
      exact evp (by rw [q]; rfl) (evp rfl (Ev.bind known12 (Ev.now true)))
  · exact evn c1 no
end Go.Proofs.Ytllnlmcofaomlaa.Pure
namespace Go.Proofs.Ytllnlmcofaomlaa.respBusy
open Go.ChangeShapes Go.WideShapes Go.ChangeAt Go.RowKit
open Go.ChangeMaps (open_string shut_string)
open Go.Proofs.YtllnlmcofaomlaaW.PrintWords Go.Proofs.YtllnlmcofaomlaaW.PrintLast Go.Proofs.Ytllnlmcofaomlaa.QAc Go.Proofs.Ytllnlmcofaomlaa.Open
set_option linter.unusedVariables false
theorem own : ownKnob Try.prog.godebug = none := by kernel_rfl
theorem laidOut : laidOutB Try.prog = true := by kernel_rfl
set_option maxRecDepth 100000 in
theorem lifted (os : Os) (started : os.Started) (H : Type) (enc : TypeId × Value → H) :
    ReturnsInHanded {} Try.checked os 10 .any (Rows.respBusySpec.pre6 enc Try.prog Try.f10 Rows.respBusyRow.domain false) (Rows.respBusySpec.post enc Try.prog Try.f10 false true false false) := by
  refine returnsInHanded_of_change_sized (C := Try.checked) own started (by kernel_rfl) Try.func10
    (ChangeSpec.witness6 (enc := enc) (C := Try.checked) false ⟨#[], #[.agg #[.int .i64 0, .slice none 0 0], .int .i64 0, .int .i64 0], []⟩ 8 (by kernel_rfl) (by kernel_rfl) (by kernel_rfl) (by kernel_rfl)) ?_
  intro W base args ds gs before hval0 hW hcnd hsz0 _
  have hsz : (DataW.weightsEach Try.prog (Try.f10.params.toList ++ Rows.respBusySpec.plain.varTypes Try.prog) (ds ++ gs)).all (· ≤ reachBytes) = true := hsz0
  have hval : ∀ (j : Nat) t v, Try.f10.params[j]? = some t → args[j]? = some v → Value.okWide Try.prog W .any base t v := hval0
  have hW' := hW
  obtain ⟨p, q, hA0, hV, rfl, hfz, hnd⟩ := hW
  have hA : DataW.TrodAll enc Try.prog W 0 (fun _ => true) true Try.f10.params.toList args.toList ds p := hA0
  rw [Try.params10] at hA hval hsz
  obtain ⟨v0, vs0, d0, ds0, p0, q0, hargs, rfl, rfl, h0, r0⟩ := trodAll_cons hA
  obtain ⟨v1, vs1, d1, ds1, p1, q1, rfl, rfl, rfl, h1, r1⟩ := trodAll_cons r0
  obtain ⟨v2, vs2, d2, ds2, p2, q2, rfl, rfl, rfl, h2, r2⟩ := trodAll_cons r1
  obtain ⟨rfl, rfl, rfl⟩ := trodAll_nil r2
  obtain rfl : args = #[v0, v1, v2] := by cases args; simp_all
  obtain ⟨rfl, rfl⟩ := trodVars_none hV
  have k0 := h0
  have lt0 : ∀ x ∈ p0, x.block < W.heap.size := by obtain ⟨m, hm⟩ := k0; exact DataW.trod_lt m _ _ _ hm
  obtain ⟨a0, cs0, rfl, hk0, hw0⟩ := arg_struct Try.underlying24 (hval 0 24 v0 rfl rfl) opens24 h0
  obtain ⟨A0_1, c0_1, rfl, hc0_1, hr0_1⟩ := k24_open hk0
  obtain ⟨a1, rfl, rfl, rfl, w1⟩ := open_int Try.underlying3 (hval 1 3 v1 rfl rfl) h1
  obtain ⟨a2, rfl, rfl, rfl, w2⟩ := open_int Try.underlying2 (hval 2 2 v2 rfl rfl) h2
  clear hA0 hval0 hsz0 hsz
  obtain ⟨k, hk⟩ := Pure.RespBusy a0 a1 a2 hw0 w1 w2
  refine (taskmasterlaw12_RespBusy.calls (w := W) (h := hk) (hc0_1 := hc0_1) (hr0_1 := hr0_1)).mono fun e W' ⟨he, bel0⟩ => ?_
  have bel : Below W.heap.size W W' := bel0
  subst he
  exact ⟨_, rfl, _, _, _, [], _, [], hW', trodAll_mk1 (shut_bool Try.underlying4 _), (trodAll_cons_mk (Below.trod laidOut (by kernel_rfl) (of_decide_eq_true (by kernel_rfl)) k0 bel lt0) (trodAll_cons_mk (shut_int Try.underlying3 w1) (trodAll_cons_mk (shut_int Try.underlying2 w2) trodAll_mk0))), rfl, bel.frame _, fun h => by cases h⟩
theorem over : Rows.respBusyRow.holds Try.pinned (OpenSpec.ofChange Rows.respBusySpec) :=
  OpenClaim.holds_of_wide 10 Try.f10 rfl rfl rfl rfl rfl rfl rfl ⟨rfl, rfl, rfl, rfl, rfl⟩ rfl rfl rfl rfl rfl (by kernel_rfl) Try.func10 (by kernel_rfl)
    (of_decide_eq_true (by kernel_rfl)) (by unfold Func.isWrapper; first | (rw [if_pos (by decide +kernel)]; kernel_rfl) | (rw [if_neg (by decide +kernel)]; exact ⟨rfl, rfl⟩))
    (fun os started H enc _ => lifted os started H enc)
theorem proved : Rows.RespBusySaid := over
end Go.Proofs.Ytllnlmcofaomlaa.respBusy
namespace Go.Proofs.Ytllnlmcofaomlaa
theorem respBusy_holds : Rows.RespBusySaid := respBusy.proved
end Go.Proofs.Ytllnlmcofaomlaa

/- What is proved: contracts and plain facts on the way to the row RowRespLess,RowRespWork,RowRespBusy, and, in the last text, the row itself; conditions as each theorem names them. -/
import Derived.Laws.BitsLemmas
import Derived.Laws.Entries
import Derived.ChangeArms
import Derived.Deep.Slices
import Derived.DataReads
import Derived.WideShapes
import Derived.KernelRfl
import Derived.Test.YtllnlmcofaomlaaSkRespB1
import Derived.Test.YtllnlmcofaomlaaSkRespB2
import Derived.Test.YtllnlmcofaomlaaSkRespB3
import Derived.Test.YtllnlmcofaomlaaSkRespB4
namespace Go.Proofs.Ytllnlmcofaomlaa.QAc
open Go.RowKit Go.Proofs.YtllnlmcofaomlaaW.PrintWords Go.Proofs.YtllnlmcofaomlaaW.PrintLast Go.Proofs.YtllnlmcofaomlaaW.PrintMore
attribute [local go_sem] max2_int min2_int max_two min_two max_three min_three max_four min_four   -- for this text's walks alone
set_option linter.unusedVariables false
set_option linter.unusedSimpArgs false
def block_Of.j0 : Nat → Int → Int → Bool → Int → List (S38) → Option (Int)
  | 0, _, _, _, _, _ => none
  | k + 1, x1, x2, x23, x341000, x341001 => if x23 = true then (some 0) else (if 0 ≤ x1 then (if x1 < (x341001.length : Int) then ((again_Own.f x341000 x341001 x1).bind fun t342 => ((task_Work.f k ((rd_T38 x341001 x1).f0) ((rd_T38 x341001 x1).f1) ((rd_T38 x341001 x1).f2) ((rd_T38 x341001 x1).f3) ((rd_T38 x341001 x1).f4) ((rd_T38 x341001 x1).f5) ((rd_T38 x341001 x1).f6) ((rd_T38 x341001 x1).f7) ((rd_T38 x341001 x1).f8)).bind fun t344 => (if ((rd_T38 x341001 x1).f3) = 0 then ((slices_Max_int64_int64.f ((rd_T38 x341001 x1).f6)).bind fun t345 => (some (wrap64 ((wrap64 (t345 + t342)) - 1)))) else (if ((rd_T38 x341001 x1).f3) = 1 then (some (mn ((rd_T38 x341001 x1).f4) (wrap64 ((wrap64 (t344 + t342)) - 1)))) else (if ((rd_T38 x341001 x1).f5) ≤ x2 then (some (wrap64 ((wrap64 (t344 + t342)) - 1))) else (some 0)))))) else (none)) else (none))
def block_Of.f (k : Nat) (a0_0 : Int) (l0_1 : List (S38)) (a1 : Int) (a2 : Int) : Option (Int) := if a2 < 0 then (block_Of.j0 k a1 a2 true a0_0 l0_1) else (if a1 ≤ a2 then (block_Of.j0 k a1 a2 true a0_0 l0_1) else (block_Of.j0 k a1 a2 (decide (a1 ≥ (l0_1.length : Int))) a0_0 l0_1))
def block_Of.T3 : Bool × List (List Nat × List Nat) := (true, [([], []), ([0], [0]), ([], []), ([1, 2], [1, 2]), ([3], [3]), ([], []), ([], []), ([5, 6], [5, 6]), ([], []), ([8, 4, 7, 0, 1, 2, 3, 4, 8], [4, 8]), ([7, 9, 0, 1, 2, 3, 4, 5, 6, 7, 8, 9], [7])])
def block_Of.B3 : List Nat := [0, 1, 0, 7, 15, 0, 0, 96, 0, 511, 1023]
theorem block_Of.tab3 : rtab .any (opsOf Try.f51 3) = block_Of.T3 := by kernel_rfl
theorem block_Of.bits3 : waitsOk block_Of.T3.2 block_Of.B3 = true := by kernel_rfl
set_option maxHeartbeats 8000000 in
set_option maxRecDepth 100000 in
theorem block_Of.calls (k : Nat) (a0_0 : Int) (A0_1 : Option Addr) (c0_1 : Nat) (l0_1 : List (S38)) (a1 : Int) (a2 : Int) (r : Int) (w : World) (hr0_1 : Kd.C k38 w A0_1 l0_1.length l0_1) (hc0_1 : l0_1.length ≤ c0_1) (h : block_Of.f k a0_0 l0_1 a1 a2 = some r) :
    Calls Try.prog 51 #[.agg #[.int .i64 a0_0, .slice A0_1 l0_1.length c0_1], .int .i64 a1, .int .i64 a2] w fun e w' => e = .returned (.int .i64 r) ∧ Below w.heap.size w w' := by
  have hu24 := Try.underlying24
  have hu38 := Try.underlying38
  have HR0_1 := Aside0.mk hr0_1
  have HC0_1 := Aside0.mk hc0_1
  clear hr0_1 hc0_1
  have HB := Aside0.mk (Below.refl w.heap.size w)
  have H : (if a2 < 0 then (block_Of.j0 k a1 a2 true a0_0 l0_1) else (if a1 ≤ a2 then (block_Of.j0 k a1 a2 true a0_0 l0_1) else (block_Of.j0 k a1 a2 (decide (a1 ≥ (l0_1.length : Int))) a0_0 l0_1))) = some r := h
  clear h
  have HC4 := Aside0.mk H
  clear H
  go_enter Try.func51, Try.ntmps51
  go_upto_region 1 with (first | ((with_reducible refine gate_dst (N := 3) rfl ?_); (try (refine gate_guard (by rfl) ?_; dsimp only)); refine box_event ?hg (N := 3) ?hd (cs := #[.int .i64 a0_0, .slice A0_1 l0_1.length c0_1]) (t := 24) ?hr ?_; (case hd => rfl); (case hg => rfl); (case hr => first | (go_simp; done) | (go_simp; rfl)); intro gb340 hg w5 hbox hb; have n0_ := Aside0.mk (below_step (by repeat (first | (with_reducible first | exact HB.out | apply below_alloc | apply pw_below_drewN | apply below_drew1) | exact HB.out)) hb); have n1_ := Aside0.mk (hbox); have n2_ := Aside0.mk ((by rw [hg]; exact (below_size (by repeat (first | (with_reducible first | exact HB.out | apply below_alloc | apply pw_below_drewN | apply below_drew1) | exact HB.out))) : w.heap.size ≤ gb340)); have n3_ := Aside0.mk ((by rw [hg]; exact (below_size (by repeat (first | (with_reducible first | exact HB.out | apply below_alloc | apply pw_below_drewN | apply below_drew1) | exact HB.out))) : w.heap.size ≤ gb340)); clear HB; have HB := n0_; have BK340 := n1_; have GW340 := n2_; have GE340 := n3_; clear n0_ n1_ n2_ n3_; clear hb hbox hg))
  (try simp only [Act.put, List.setIfInBounds_toArray, List.set_cons_zero, List.set_cons_succ])
  go_cut [23] (fun v23 wc => ∃ (kq : Nat) (x23_3 : Bool), v23 = .bool x23_3 ∧ Aside0 (block_Of.j0 kq a1 a2 x23_3 a0_0 l0_1 = some r) ∧ Aside0 (kq ≤ k) ∧ Aside0 (wc.heap[gb340]? = some (.cells #[.int .i64 a0_0, (.slice A0_1 l0_1.length c0_1)] 24 (0, 0))) ∧ Aside0 (Below w.heap.size w wc))
  case first =>
    have H := HC4.out
    clear HC4
    by_cases c6 : a2 < 0
    · rw [if_pos c6] at H
      have c6b0 : decide (a2 < 0) = true := decide_eq_true c6
      clear c6
      (first | rw [c6b0] | (simp only [i64_w, i32_w]; rw [c6b0]) | skip)
      have H' := Aside0.mk H
      clear H; go_wp2
      go_meet
      case rel => exact ⟨_, (true), (by first | rfl | (simp; done) | (simp [*]; done)), H', ⟨by first | omega | exact Nat.le_refl _⟩, ⟨by (with_reducible repeat (first | refine blk_drewN ?_ _ | refine blk_drew ?_ | refine blk_alloc ?_ _)); exact BK340.out⟩, ⟨by repeat (first | (with_reducible first | exact HB.out | apply below_alloc | apply pw_below_drewN | apply below_drew1 | refine below_set ?_ GE340.out) | exact HB.out)⟩⟩
    · rw [if_neg c6] at H
      have c6b0 : decide (a2 < 0) = false := decide_eq_false c6
      clear c6
      (first | rw [c6b0] | (simp only [i64_w, i32_w]; rw [c6b0]) | skip)
      by_cases c7 : a1 ≤ a2
      · rw [if_pos c7] at H
        have c7b0 : decide (a1 ≤ a2) = true := decide_eq_true c7
        clear c7
        have H' := Aside0.mk H
        clear H; go_wp2
        go_meet
        case rel => exact ⟨_, (true), (by first | rfl | (simp; done) | (simp [*]; done)), H', ⟨by first | omega | exact Nat.le_refl _⟩, ⟨by (with_reducible repeat (first | refine blk_drewN ?_ _ | refine blk_drew ?_ | refine blk_alloc ?_ _)); exact BK340.out⟩, ⟨by repeat (first | (with_reducible first | exact HB.out | apply below_alloc | apply pw_below_drewN | apply below_drew1 | refine below_set ?_ GE340.out) | exact HB.out)⟩⟩
      · rw [if_neg c7] at H
        have c7b0 : decide (a1 ≤ a2) = false := decide_eq_false c7
        clear c7
        have H' := Aside0.mk H
        clear H
        have hcz8_0 : w5.cell? ⟨gb340, 0, none⟩ = some (.int .i64 a0_0) := (blk_cell BK340.out 0).trans rfl
        have hcz8_1 : w5.cell? ⟨gb340, 1, none⟩ = some (.slice A0_1 l0_1.length c0_1) := (blk_cell BK340.out 1).trans rfl
        have hfz8_0 := blk_frozen BK340.out 0
        have hfz8_1 := blk_frozen BK340.out 1
        go_wp2
        go_meet
        case rel => exact ⟨_, (decide (a1 ≥ (l0_1.length : Int))), (by first | rfl | (simp; done) | (simp [*]; done)), H', ⟨by first | omega | exact Nat.le_refl _⟩, ⟨by (with_reducible repeat (first | refine blk_drewN ?_ _ | refine blk_drew ?_ | refine blk_alloc ?_ _)); exact BK340.out⟩, ⟨by repeat (first | (with_reducible first | exact HB.out | apply below_alloc | apply pw_below_drewN | apply below_drew1 | refine below_set ?_ GE340.out) | exact HB.out)⟩⟩
  case rest =>
    clear HC4
    try clear p2
    try clear c5
    try clear c6
    try clear c6b0
    try clear c7
    try clear c7b0
    try clear hcz8_0
    try clear hcz8_1
    try clear hfz8_0
    try clear hfz8_1
    obtain ⟨kq, x23_3, rfl, HA, HJ3, BK340, HB⟩ := hcut
    cases kq with
    | zero => exact absurd HA.out (by simp [block_Of.j0])
    | succ kj3 =>
      have H := HA.out
      clear HA
      simp only [block_Of.j0] at H
      by_cases c9 : x23_3 = true
      · subst c9
        have H1 : (some 0) = some r := by rw [if_pos rfl] at H; exact H
        clear H
        have H := H1
        clear H1
        obtain rfl := Option.some.inj H
        go_wp2; go_ret
        exact ⟨by first | rfl | (simp [errW_none, errW_some] <;> rfl) | (simp [*, errW_none, errW_some] <;> rfl), by repeat (first | (with_reducible first | exact HB.out | apply below_alloc | apply pw_below_drewN | apply below_drew1 | refine below_set ?_ GE340.out) | exact HB.out)⟩
      · replace c9 := Bool.eq_false_iff.mpr c9
        subst c9
        have H1 : (if 0 ≤ a1 then (if a1 < (l0_1.length : Int) then ((again_Own.f a0_0 l0_1 a1).bind fun t342 => ((task_Work.f kj3 ((rd_T38 l0_1 a1).f0) ((rd_T38 l0_1 a1).f1) ((rd_T38 l0_1 a1).f2) ((rd_T38 l0_1 a1).f3) ((rd_T38 l0_1 a1).f4) ((rd_T38 l0_1 a1).f5) ((rd_T38 l0_1 a1).f6) ((rd_T38 l0_1 a1).f7) ((rd_T38 l0_1 a1).f8)).bind fun t344 => (if ((rd_T38 l0_1 a1).f3) = 0 then ((slices_Max_int64_int64.f ((rd_T38 l0_1 a1).f6)).bind fun t345 => (some (wrap64 ((wrap64 (t345 + t342)) - 1)))) else (if ((rd_T38 l0_1 a1).f3) = 1 then (some (mn ((rd_T38 l0_1 a1).f4) (wrap64 ((wrap64 (t344 + t342)) - 1)))) else (if ((rd_T38 l0_1 a1).f5) ≤ a2 then (some (wrap64 ((wrap64 (t344 + t342)) - 1))) else (some 0)))))) else (none)) else (none)) = some r := by rw [if_neg (show ¬ (false = true) by decide)] at H; exact H
        clear H
        have H := H1
        clear H1
        by_cases c10 : 0 ≤ a1
        · rw [if_pos c10] at H
          have c10b0 : decide (0 ≤ a1) = true := decide_eq_true c10
          clear c10
          by_cases c11 : a1 < (l0_1.length : Int)
          · rw [if_pos c11] at H
            have c11b0 : decide (a1 < (l0_1.length : Int)) = true := decide_eq_true c11
            clear c11
            replace H := Option.bind_eq_some_iff.mp H
            obtain ⟨t342, A120, H⟩ := H
            replace H : ((task_Work.f kj3 ((rd_T38 l0_1 a1).f0) ((rd_T38 l0_1 a1).f1) ((rd_T38 l0_1 a1).f2) ((rd_T38 l0_1 a1).f3) ((rd_T38 l0_1 a1).f4) ((rd_T38 l0_1 a1).f5) ((rd_T38 l0_1 a1).f6) ((rd_T38 l0_1 a1).f7) ((rd_T38 l0_1 a1).f8)).bind fun t344 => (if ((rd_T38 l0_1 a1).f3) = 0 then ((slices_Max_int64_int64.f ((rd_T38 l0_1 a1).f6)).bind fun t345 => (some (wrap64 ((wrap64 (t345 + t342)) - 1)))) else (if ((rd_T38 l0_1 a1).f3) = 1 then (some (mn ((rd_T38 l0_1 a1).f4) (wrap64 ((wrap64 (t344 + t342)) - 1)))) else (if ((rd_T38 l0_1 a1).f5) ≤ a2 then (some (wrap64 ((wrap64 (t344 + t342)) - 1))) else (some 0))))) = some r := H
            have A12 := Aside0.mk A120
            clear A120
            replace H := Option.bind_eq_some_iff.mp H
            obtain ⟨t344, A130, H⟩ := H
            replace H : (if ((rd_T38 l0_1 a1).f3) = 0 then ((slices_Max_int64_int64.f ((rd_T38 l0_1 a1).f6)).bind fun t345 => (some (wrap64 ((wrap64 (t345 + t342)) - 1)))) else (if ((rd_T38 l0_1 a1).f3) = 1 then (some (mn ((rd_T38 l0_1 a1).f4) (wrap64 ((wrap64 (t344 + t342)) - 1)))) else (if ((rd_T38 l0_1 a1).f5) ≤ a2 then (some (wrap64 ((wrap64 (t344 + t342)) - 1))) else (some 0)))) = some r := H
            have A13 := Aside0.mk A130
            clear A130
            try go_wp2
            have n0_ := Aside0.mk (blk_drew BK340.out)
            have n1_ := Aside0.mk (below_drew1 HB.out)
            clear BK340; clear HB
            have BK340 := n0_
            have HB := n1_
            clear n0_ n1_
            have p341 : 0 ≤ (a1 : Int) := of_decide_eq_true (by first | (with_reducible assumption) | assumption)
            have q341 : a1 < (l0_1.length : Int) := of_decide_eq_true (by first | (with_reducible assumption) | assumption)
            obtain ⟨ad341, A341_6, c341_6, e341, hx341_0, hx341_1, hx341_2, hx341_3, hx341_4, hx341_5, hx341_6, hx341_7, hx341_8, hl341_6, hi341_6⟩ := at_T38 HR0_1.out a1 p341 q341
            have hw341_8 := hx341_8
            have hw341_7 := hx341_7
            have hw341_6 := hx341_6
            have hw341_5 := hx341_5
            have hw341_4 := hx341_4
            have hw341_3 := hx341_3
            have hw341_2 := hx341_2
            have hw341_1 := hx341_1
            have hw341_0 := hx341_0
            cases e341
            replace hx341_0 := (HB.out.cell (World.block_lt_of_cell? w _ hx341_0)).trans hx341_0
            replace hx341_1 := (HB.out.cell (World.block_lt_of_cell? w _ hx341_1)).trans hx341_1
            replace hx341_2 := (HB.out.cell (World.block_lt_of_cell? w _ hx341_2)).trans hx341_2
            replace hx341_3 := (HB.out.cell (World.block_lt_of_cell? w _ hx341_3)).trans hx341_3
            replace hx341_4 := (HB.out.cell (World.block_lt_of_cell? w _ hx341_4)).trans hx341_4
            replace hx341_5 := (HB.out.cell (World.block_lt_of_cell? w _ hx341_5)).trans hx341_5
            replace hx341_6 := (HB.out.cell (World.block_lt_of_cell? w _ hx341_6)).trans hx341_6
            replace hx341_7 := (HB.out.cell (World.block_lt_of_cell? w _ hx341_7)).trans hx341_7
            replace hx341_8 := (HB.out.cell (World.block_lt_of_cell? w _ hx341_8)).trans hx341_8
            have HR341_6 := Aside0.mk hi341_6
            have HC341_6 := Aside0.mk hl341_6
            clear hi341_6 hl341_6
            replace p341 := eq_true p341
            replace q341 := eq_true q341
            refine start_ (n := 11) (S := fun w' => w'.cell? ⟨gb340, 0, none⟩ = some (.int .i64 a0_0) ∧ w'.cell? ⟨gb340, 1, none⟩ = some (.slice (some ad341) l0_1.length c0_1) ∧ w'.cell? (ad341.add ((a1).toNat * 9)) = some (.string ((rd_T38 l0_1 a1).f0)) ∧ w'.cell? ⟨(ad341.add ((a1).toNat * 9)).block, (ad341.add ((a1).toNat * 9)).off + 1, none⟩ = some (.int .i64 ((rd_T38 l0_1 a1).f1)) ∧ w'.cell? ⟨(ad341.add ((a1).toNat * 9)).block, (ad341.add ((a1).toNat * 9)).off + 2, none⟩ = some (.int .i64 ((rd_T38 l0_1 a1).f2)) ∧ w'.cell? ⟨(ad341.add ((a1).toNat * 9)).block, (ad341.add ((a1).toNat * 9)).off + 3, none⟩ = some (.int .i64 ((rd_T38 l0_1 a1).f3)) ∧ w'.cell? ⟨(ad341.add ((a1).toNat * 9)).block, (ad341.add ((a1).toNat * 9)).off + 4, none⟩ = some (.int .i64 ((rd_T38 l0_1 a1).f4)) ∧ w'.cell? ⟨(ad341.add ((a1).toNat * 9)).block, (ad341.add ((a1).toNat * 9)).off + 5, none⟩ = some (.int .i64 ((rd_T38 l0_1 a1).f5)) ∧ w'.cell? ⟨(ad341.add ((a1).toNat * 9)).block, (ad341.add ((a1).toNat * 9)).off + 6, none⟩ = some (.slice A341_6 ((rd_T38 l0_1 a1).f6).length c341_6) ∧ w'.cell? ⟨(ad341.add ((a1).toNat * 9)).block, (ad341.add ((a1).toNat * 9)).off + 7, none⟩ = some (.int .u64 ((rd_T38 l0_1 a1).f7)) ∧ w'.cell? ⟨(ad341.add ((a1).toNat * 9)).block, (ad341.add ((a1).toNat * 9)).off + 8, none⟩ = some (.int .u64 ((rd_T38 l0_1 a1).f8))) (ds := []) #[false, false, false, false, false, false, false, false, false, false, false] (by kernel_rfl) rfl rfl ⟨(blk_cell BK340.out 0).trans rfl, (blk_cell BK340.out 1).trans rfl, ((HB.out.cell (World.block_lt_of_cell? w _ hw341_0)).trans hw341_0), ((HB.out.cell (World.block_lt_of_cell? w _ hw341_1)).trans hw341_1), ((HB.out.cell (World.block_lt_of_cell? w _ hw341_2)).trans hw341_2), ((HB.out.cell (World.block_lt_of_cell? w _ hw341_3)).trans hw341_3), ((HB.out.cell (World.block_lt_of_cell? w _ hw341_4)).trans hw341_4), ((HB.out.cell (World.block_lt_of_cell? w _ hw341_5)).trans hw341_5), ((HB.out.cell (World.block_lt_of_cell? w _ hw341_6)).trans hw341_6), ((HB.out.cell (World.block_lt_of_cell? w _ hw341_7)).trans hw341_7), ((HB.out.cell (World.block_lt_of_cell? w _ hw341_8)).trans hw341_8)⟩ (fun hHeld => ?_); refine with_tabW block_Of.tab3 block_Of.bits3 (fun HT_ HW_ => ?_)
            generalize wc.drew = w16 at BK340 HB HR341_6 hx341_0 hx341_1 hx341_2 hx341_3 hx341_4 hx341_5 hx341_6 hx341_7 hx341_8 hHeld ⊢
            refine pure_ (i := 0) (N := some 24) (v := ?_) (a' := ?_) #[true, false, false, false, false, false, false, false, false, false, false] rfl rfl (any_of HT_.out (by kernel_rfl)) (fun _ _ _ h => h) (Or.inl ⟨by rfl, ?_⟩) ?_ ?_
            rotate_left; · intro w'; go_simp; with_reducible rfl
            rotate_left; · simp only [Act.put, List.setIfInBounds_toArray, List.set_cons_zero, List.set_cons_succ, i64_w, i32_w]; rfl
            refine pure_ (i := 2) (N := some 26) (v := ?_) (a' := ?_) #[true, false, true, false, false, false, false, false, false, false, false] rfl rfl (any_of HT_.out (by kernel_rfl)) (fun _ _ _ h => h) (Or.inl ⟨by rfl, ?_⟩) ?_ ?_
            rotate_left; · intro w'; go_simp; with_reducible rfl
            rotate_left; · simp only [Act.put, List.setIfInBounds_toArray, List.set_cons_zero, List.set_cons_succ, i64_w, i32_w]; rfl
            refine pure_ (i := 6) (N := some 30) (v := ?_) (a' := ?_) #[true, false, true, false, false, false, true, false, false, false, false] rfl rfl (any_of HT_.out (by kernel_rfl)) (fun _ _ _ h => h) (Or.inl ⟨by rfl, ?_⟩) ?_ ?_
            rotate_left; · intro w'; go_simp; with_reducible rfl
            rotate_left; · simp only [Act.put, List.setIfInBounds_toArray, List.set_cons_zero, List.set_cons_succ, i64_w, i32_w]; rfl
            refine take_ (i := 1) (N := some 25) (v := ?_) (a' := ?_) #[true, true, true, false, false, false, true, false, false, false, false] rfl rfl (take_ofW HT_.out HW_.out (by kernel_rfl)) (fun _ _ _ h => h) (Or.inl ⟨by rfl, ?_⟩) hHeld ?_ ?_
            rotate_left
            · rintro w' ⟨s0, s1, s2, s3, s4, s5, s6, s7, s8, s9, s10⟩
              go_simp; with_reducible rfl
            rotate_left; · simp only [Act.put, List.setIfInBounds_toArray, List.set_cons_zero, List.set_cons_succ, i64_w, i32_w]; rfl
            refine pure_ (i := 3) (N := some 27) (v := ?_) (a' := ?_) #[true, true, true, true, false, false, true, false, false, false, false] rfl rfl (any_of HT_.out (by kernel_rfl)) (fun _ _ _ h => h) (Or.inl ⟨by rfl, ?_⟩) ?_ ?_
            rotate_left; · intro w'; go_simp; with_reducible rfl
            rotate_left; · simp only [Act.put, List.setIfInBounds_toArray, List.set_cons_zero, List.set_cons_succ, i64_w, i32_w]; rfl
            refine take_ (i := 4) (N := some 28) (v := ?_) (a' := ?_) #[true, true, true, true, true, false, true, false, false, false, false] rfl rfl (take_ofW HT_.out HW_.out (by kernel_rfl)) (fun _ _ _ h => h) (Or.inl ⟨by rfl, ?_⟩) hHeld ?_ ?_
            rotate_left
            · rintro w' ⟨s0, s1, s2, s3, s4, s5, s6, s7, s8, s9, s10⟩
              go_simp; with_reducible rfl
            rotate_left; · simp only [Act.put, List.setIfInBounds_toArray, List.set_cons_zero, List.set_cons_succ, i64_w, i32_w]; rfl
            refine take_ (i := 5) (N := some 29) (v := ?_) (a' := ?_) #[true, true, true, true, true, true, true, false, false, false, false] rfl rfl (take_ofW HT_.out HW_.out (by kernel_rfl)) (fun _ _ _ h => h) (Or.inl ⟨by rfl, ?_⟩) hHeld ?_ ?_
            rotate_left
            · rintro w' ⟨s0, s1, s2, s3, s4, s5, s6, s7, s8, s9, s10⟩
              go_simp; with_reducible rfl
            rotate_left; · simp only [Act.put, List.setIfInBounds_toArray, List.set_cons_zero, List.set_cons_succ, i64_w, i32_w]; rfl
            refine join_ (σ := Nat) 2 #[true, true, true, true, true, true, true, true, true, false, false] (fun s_ => [(31, .int .i64 t342), (7, .pointer (some ⟨s_, 0, none⟩))]) (fun s_ w' => (w'.cell? ⟨gb340, 0, none⟩ = some (.int .i64 a0_0) ∧ w'.cell? ⟨gb340, 1, none⟩ = some (.slice (some ad341) l0_1.length c0_1) ∧ w'.cell? (ad341.add ((a1).toNat * 9)) = some (.string ((rd_T38 l0_1 a1).f0)) ∧ w'.cell? ⟨(ad341.add ((a1).toNat * 9)).block, (ad341.add ((a1).toNat * 9)).off + 1, none⟩ = some (.int .i64 ((rd_T38 l0_1 a1).f1)) ∧ w'.cell? ⟨(ad341.add ((a1).toNat * 9)).block, (ad341.add ((a1).toNat * 9)).off + 2, none⟩ = some (.int .i64 ((rd_T38 l0_1 a1).f2)) ∧ w'.cell? ⟨(ad341.add ((a1).toNat * 9)).block, (ad341.add ((a1).toNat * 9)).off + 3, none⟩ = some (.int .i64 ((rd_T38 l0_1 a1).f3)) ∧ w'.cell? ⟨(ad341.add ((a1).toNat * 9)).block, (ad341.add ((a1).toNat * 9)).off + 4, none⟩ = some (.int .i64 ((rd_T38 l0_1 a1).f4)) ∧ w'.cell? ⟨(ad341.add ((a1).toNat * 9)).block, (ad341.add ((a1).toNat * 9)).off + 5, none⟩ = some (.int .i64 ((rd_T38 l0_1 a1).f5)) ∧ w'.cell? ⟨(ad341.add ((a1).toNat * 9)).block, (ad341.add ((a1).toNat * 9)).off + 6, none⟩ = some (.slice A341_6 ((rd_T38 l0_1 a1).f6).length c341_6) ∧ w'.cell? ⟨(ad341.add ((a1).toNat * 9)).block, (ad341.add ((a1).toNat * 9)).off + 7, none⟩ = some (.int .u64 ((rd_T38 l0_1 a1).f7)) ∧ w'.cell? ⟨(ad341.add ((a1).toNat * 9)).block, (ad341.add ((a1).toNat * 9)).off + 8, none⟩ = some (.int .u64 ((rd_T38 l0_1 a1).f8))) ∧ (w'.heap[gb340]? = some (.cells #[.int .i64 a0_0, .slice (some ad341) l0_1.length c0_1] 24 (0, 0))) ∧ (w'.heap[s_]? = some (.cells #[.string (⟨#[]⟩ : ByteArray), .int .i64 0, .int .i64 0, .int .i64 0, .int .i64 0, .int .i64 0, .slice none 0 0, .int .u64 0, .int .u64 0] 38 (0, 0))) ∧ (w.heap.size ≤ s_) ∧ (w.heap.size ≤ s_) ∧ (gb340 ≠ s_) ∧ (s_ ≠ gb340) ∧ (Below w.heap.size w w')) ?_ ?_
            rotate_left
            · intro hCont
              refine two_ (i := 7) (j := 8) (Ni := some 31) (Nj := some 7) #[true, true, true, true, true, true, true, true, false, false, false] #[true, true, true, true, true, true, true, false, true, false, false] rfl rfl rfl rfl (two_of HT_.out (by kernel_rfl)) (by decide) (by decide) (fun K hK => ?_) (fun K hK => ?_)
              · skip
                refine goes_ Try.func64 (by kernel_rfl) rfl #[.agg #[.int .i64 a0_0, .slice (some ad341) l0_1.length c0_1], .int .i64 a1] (by rfl) rfl rfl (by (try simp only [List.map_toArray, List.map_cons, List.map_nil]); first | done | rfl | (simp only [List.length_drop, List.length_take]; rfl)) ?_
                with_reducible refine (again_Own.calls a0_0 _ _ l0_1 a1 t342 _ ?side1 ?side2 A12.out).mono ?_
                (case side1 => repeat (first | exact (Kd.C_below HR0_1.out HB.out) | (with_reducible refine Kd.C_alloc ?_ _) | (with_reducible refine Kd.C_drewN ?_ _) | (with_reducible refine Kd.C_drew ?_)))
                (case side2 => exact HC0_1.out)
                rintro e w17 ⟨rfl, hb⟩
                refine ⟨_, rfl, ?_⟩
                have n0_ := Aside0.mk (blk_below (g := gb340) (o := .cells #[.int .i64 a0_0, .slice (some ad341) l0_1.length c0_1] 24 (0, 0)) (by (with_reducible repeat (first | refine blk_drewN ?_ _ | refine blk_drew ?_ | refine blk_alloc ?_ _)); exact BK340.out) hb)
                have n1_ := Aside0.mk (below_step (by repeat (first | (with_reducible first | exact HB.out | apply below_alloc | apply pw_below_drewN | apply below_drew1 | refine below_set ?_ GE340.out) | exact HB.out)) hb)
                clear BK340; clear HB
                have BK340 := n0_
                have HB := n1_
                clear n0_ n1_
                (try clear hb)
                (try clear hb2)
                (try clear hk)
                (try clear hi)
                refine hK.out _ _ ⟨(blk_cell BK340.out 0).trans rfl, (blk_cell BK340.out 1).trans rfl, ((HB.out.cell (World.block_lt_of_cell? w _ hw341_0)).trans hw341_0), ((HB.out.cell (World.block_lt_of_cell? w _ hw341_1)).trans hw341_1), ((HB.out.cell (World.block_lt_of_cell? w _ hw341_2)).trans hw341_2), ((HB.out.cell (World.block_lt_of_cell? w _ hw341_3)).trans hw341_3), ((HB.out.cell (World.block_lt_of_cell? w _ hw341_4)).trans hw341_4), ((HB.out.cell (World.block_lt_of_cell? w _ hw341_5)).trans hw341_5), ((HB.out.cell (World.block_lt_of_cell? w _ hw341_6)).trans hw341_6), ((HB.out.cell (World.block_lt_of_cell? w _ hw341_7)).trans hw341_7), ((HB.out.cell (World.block_lt_of_cell? w _ hw341_8)).trans hw341_8)⟩ (fun hHeld => ?_)
                clear hK K
                refine norm_ (a' := ?_) ?_ ?_
                rotate_left
                · show Act.put _ (some 31) _ = _
                  simp only [Act.put, List.setIfInBounds_toArray, List.set_cons_zero, List.set_cons_succ, i64_w, i32_w]; rfl
                refine one_ (i := 8) (N := some 7) #[true, true, true, true, true, true, true, true, true, false, false] rfl rfl (one_of HT_.out (by kernel_rfl)) (by decide) (fun K hK => ?_)
                refine box_step ?hg (N := 7) ?hd (cs := #[.string (⟨#[]⟩ : ByteArray), .int .i64 0, .int .i64 0, .int .i64 0, .int .i64 0, .int .i64 0, .slice none 0 0, .int .u64 0, .int .u64 0]) (t := 38) ?hr ?_; (case hd => rfl); (case hg => rfl); (case hr => first | (go_simp; done) | (go_simp; rfl))
                intro gb343 hg w18 hbox hb
                have n0_ := Aside0.mk (blk_below (g := gb340) (o := .cells #[.int .i64 a0_0, .slice (some ad341) l0_1.length c0_1] 24 (0, 0)) (by (with_reducible repeat (first | refine blk_drewN ?_ _ | refine blk_drew ?_ | refine blk_alloc ?_ _)); exact BK340.out) hb)
                have n1_ := Aside0.mk (below_step (by repeat (first | (with_reducible first | exact HB.out | apply below_alloc | apply pw_below_drewN | apply below_drew1 | refine below_set ?_ GE340.out) | exact HB.out)) hb)
                have n2_ := Aside0.mk (hbox)
                have n3_ := Aside0.mk ((by rw [hg]; exact (below_size (by repeat (first | (with_reducible first | exact HB.out | apply below_alloc | apply pw_below_drewN | apply below_drew1 | refine below_set ?_ GE340.out) | exact HB.out))) : w.heap.size ≤ gb343))
                have n4_ := Aside0.mk ((by rw [hg]; exact (below_size (by repeat (first | (with_reducible first | exact HB.out | apply below_alloc | apply pw_below_drewN | apply below_drew1 | refine below_set ?_ GE340.out) | exact HB.out))) : w.heap.size ≤ gb343))
                have n5_ := Aside0.mk ((by rw [hg]; exact Nat.ne_of_lt (blk_lt (g := gb340) (o := .cells #[.int .i64 a0_0, .slice (some ad341) l0_1.length c0_1] 24 (0, 0)) (by (with_reducible repeat (first | refine blk_drewN ?_ _ | refine blk_drew ?_ | refine blk_alloc ?_ _)); exact BK340.out)) : gb340 ≠ gb343))
                have n6_ := Aside0.mk ((by rw [hg]; exact Nat.ne_of_gt (blk_lt (g := gb340) (o := .cells #[.int .i64 a0_0, .slice (some ad341) l0_1.length c0_1] 24 (0, 0)) (by (with_reducible repeat (first | refine blk_drewN ?_ _ | refine blk_drew ?_ | refine blk_alloc ?_ _)); exact BK340.out)) : gb343 ≠ gb340))
                clear BK340; clear HB
                have BK340 := n0_
                have HB := n1_
                have BK343 := n2_
                have GW343 := n3_
                have GE343 := n4_
                have NB340_343 := n5_
                have NB343_340 := n6_
                clear n0_ n1_ n2_ n3_ n4_ n5_ n6_; clear hb hbox hg
                refine hK.out _ _ ⟨(blk_cell BK340.out 0).trans rfl, (blk_cell BK340.out 1).trans rfl, ((HB.out.cell (World.block_lt_of_cell? w _ hw341_0)).trans hw341_0), ((HB.out.cell (World.block_lt_of_cell? w _ hw341_1)).trans hw341_1), ((HB.out.cell (World.block_lt_of_cell? w _ hw341_2)).trans hw341_2), ((HB.out.cell (World.block_lt_of_cell? w _ hw341_3)).trans hw341_3), ((HB.out.cell (World.block_lt_of_cell? w _ hw341_4)).trans hw341_4), ((HB.out.cell (World.block_lt_of_cell? w _ hw341_5)).trans hw341_5), ((HB.out.cell (World.block_lt_of_cell? w _ hw341_6)).trans hw341_6), ((HB.out.cell (World.block_lt_of_cell? w _ hw341_7)).trans hw341_7), ((HB.out.cell (World.block_lt_of_cell? w _ hw341_8)).trans hw341_8)⟩ (fun hHeld => ?_)
                clear hK K
                refine norm_ (a' := ?_) ?_ ?_
                rotate_left
                · show Act.put _ (some 7) _ = _
                  simp only [Act.put, List.setIfInBounds_toArray, List.set_cons_zero, List.set_cons_succ, i64_w, i32_w]; rfl
                exact norm_ (by simp only [putAll, Act.put, List.setIfInBounds_toArray, List.set_cons_zero, List.set_cons_succ]) (hCont (gb343) _ ⟨hHeld, (by (with_reducible repeat (first | refine blk_drewN ?_ _ | refine blk_drew ?_ | refine blk_alloc ?_ _)); exact BK340.out), (by (with_reducible repeat (first | refine blk_drewN ?_ _ | refine blk_drew ?_ | refine blk_alloc ?_ _)); exact BK343.out), GW343.out, GE343.out, NB340_343.out, NB343_340.out, (by repeat (first | (with_reducible first | exact HB.out | apply below_alloc | apply pw_below_drewN | apply below_drew1 | refine below_set ?_ GE340.out | refine below_set ?_ GE343.out) | exact HB.out))⟩)
              · skip
                refine box_step ?hg (N := 7) ?hd (cs := #[.string (⟨#[]⟩ : ByteArray), .int .i64 0, .int .i64 0, .int .i64 0, .int .i64 0, .int .i64 0, .slice none 0 0, .int .u64 0, .int .u64 0]) (t := 38) ?hr ?_; (case hd => rfl); (case hg => rfl); (case hr => first | (go_simp; done) | (go_simp; rfl))
                intro gb343 hg w17 hbox hb
                have n0_ := Aside0.mk (blk_below (g := gb340) (o := .cells #[.int .i64 a0_0, .slice (some ad341) l0_1.length c0_1] 24 (0, 0)) (by (with_reducible repeat (first | refine blk_drewN ?_ _ | refine blk_drew ?_ | refine blk_alloc ?_ _)); exact BK340.out) hb)
                have n1_ := Aside0.mk (below_step (by repeat (first | (with_reducible first | exact HB.out | apply below_alloc | apply pw_below_drewN | apply below_drew1 | refine below_set ?_ GE340.out) | exact HB.out)) hb)
                have n2_ := Aside0.mk (hbox)
                have n3_ := Aside0.mk ((by rw [hg]; exact (below_size (by repeat (first | (with_reducible first | exact HB.out | apply below_alloc | apply pw_below_drewN | apply below_drew1 | refine below_set ?_ GE340.out) | exact HB.out))) : w.heap.size ≤ gb343))
                have n4_ := Aside0.mk ((by rw [hg]; exact (below_size (by repeat (first | (with_reducible first | exact HB.out | apply below_alloc | apply pw_below_drewN | apply below_drew1 | refine below_set ?_ GE340.out) | exact HB.out))) : w.heap.size ≤ gb343))
                have n5_ := Aside0.mk ((by rw [hg]; exact Nat.ne_of_lt (blk_lt (g := gb340) (o := .cells #[.int .i64 a0_0, .slice (some ad341) l0_1.length c0_1] 24 (0, 0)) (by (with_reducible repeat (first | refine blk_drewN ?_ _ | refine blk_drew ?_ | refine blk_alloc ?_ _)); exact BK340.out)) : gb340 ≠ gb343))
                have n6_ := Aside0.mk ((by rw [hg]; exact Nat.ne_of_gt (blk_lt (g := gb340) (o := .cells #[.int .i64 a0_0, .slice (some ad341) l0_1.length c0_1] 24 (0, 0)) (by (with_reducible repeat (first | refine blk_drewN ?_ _ | refine blk_drew ?_ | refine blk_alloc ?_ _)); exact BK340.out)) : gb343 ≠ gb340))
                clear BK340; clear HB
                have BK340 := n0_
                have HB := n1_
                have BK343 := n2_
                have GW343 := n3_
                have GE343 := n4_
                have NB340_343 := n5_
                have NB343_340 := n6_
                clear n0_ n1_ n2_ n3_ n4_ n5_ n6_; clear hb hbox hg
                refine hK.out _ _ ⟨(blk_cell BK340.out 0).trans rfl, (blk_cell BK340.out 1).trans rfl, ((HB.out.cell (World.block_lt_of_cell? w _ hw341_0)).trans hw341_0), ((HB.out.cell (World.block_lt_of_cell? w _ hw341_1)).trans hw341_1), ((HB.out.cell (World.block_lt_of_cell? w _ hw341_2)).trans hw341_2), ((HB.out.cell (World.block_lt_of_cell? w _ hw341_3)).trans hw341_3), ((HB.out.cell (World.block_lt_of_cell? w _ hw341_4)).trans hw341_4), ((HB.out.cell (World.block_lt_of_cell? w _ hw341_5)).trans hw341_5), ((HB.out.cell (World.block_lt_of_cell? w _ hw341_6)).trans hw341_6), ((HB.out.cell (World.block_lt_of_cell? w _ hw341_7)).trans hw341_7), ((HB.out.cell (World.block_lt_of_cell? w _ hw341_8)).trans hw341_8)⟩ (fun hHeld => ?_)
                clear hK K
                refine norm_ (a' := ?_) ?_ ?_
                rotate_left
                · show Act.put _ (some 7) _ = _
                  simp only [Act.put, List.setIfInBounds_toArray, List.set_cons_zero, List.set_cons_succ, i64_w, i32_w]; rfl
                refine one_ (i := 7) (N := some 31) #[true, true, true, true, true, true, true, true, true, false, false] rfl rfl (one_of HT_.out (by kernel_rfl)) (by decide) (fun K hK => ?_)
                refine goes_ Try.func64 (by kernel_rfl) rfl #[.agg #[.int .i64 a0_0, .slice (some ad341) l0_1.length c0_1], .int .i64 a1] (by rfl) rfl rfl (by (try simp only [List.map_toArray, List.map_cons, List.map_nil]); first | done | rfl | (simp only [List.length_drop, List.length_take]; rfl)) ?_
                with_reducible refine (again_Own.calls a0_0 _ _ l0_1 a1 t342 _ ?side1 ?side2 A12.out).mono ?_
                (case side1 => repeat (first | exact (Kd.C_below HR0_1.out HB.out) | (with_reducible refine Kd.C_alloc ?_ _) | (with_reducible refine Kd.C_drewN ?_ _) | (with_reducible refine Kd.C_drew ?_)))
                (case side2 => exact HC0_1.out)
                rintro e w18 ⟨rfl, hb⟩
                refine ⟨_, rfl, ?_⟩
                have n0_ := Aside0.mk (blk_below (g := gb340) (o := .cells #[.int .i64 a0_0, .slice (some ad341) l0_1.length c0_1] 24 (0, 0)) (by (with_reducible repeat (first | refine blk_drewN ?_ _ | refine blk_drew ?_ | refine blk_alloc ?_ _)); exact BK340.out) hb)
                have n1_ := Aside0.mk (blk_below (g := gb343) (o := .cells #[.string (⟨#[]⟩ : ByteArray), .int .i64 0, .int .i64 0, .int .i64 0, .int .i64 0, .int .i64 0, .slice none 0 0, .int .u64 0, .int .u64 0] 38 (0, 0)) (by (with_reducible repeat (first | refine blk_drewN ?_ _ | refine blk_drew ?_ | refine blk_alloc ?_ _)); exact BK343.out) hb)
                have n2_ := Aside0.mk (below_step (by repeat (first | (with_reducible first | exact HB.out | apply below_alloc | apply pw_below_drewN | apply below_drew1 | refine below_set ?_ GE340.out | refine below_set ?_ GE343.out) | exact HB.out)) hb)
                clear BK340; clear BK343; clear HB
                have BK340 := n0_
                have BK343 := n1_
                have HB := n2_
                clear n0_ n1_ n2_
                (try clear hb)
                (try clear hb2)
                (try clear hk)
                (try clear hi)
                refine hK.out _ _ ⟨(blk_cell BK340.out 0).trans rfl, (blk_cell BK340.out 1).trans rfl, ((HB.out.cell (World.block_lt_of_cell? w _ hw341_0)).trans hw341_0), ((HB.out.cell (World.block_lt_of_cell? w _ hw341_1)).trans hw341_1), ((HB.out.cell (World.block_lt_of_cell? w _ hw341_2)).trans hw341_2), ((HB.out.cell (World.block_lt_of_cell? w _ hw341_3)).trans hw341_3), ((HB.out.cell (World.block_lt_of_cell? w _ hw341_4)).trans hw341_4), ((HB.out.cell (World.block_lt_of_cell? w _ hw341_5)).trans hw341_5), ((HB.out.cell (World.block_lt_of_cell? w _ hw341_6)).trans hw341_6), ((HB.out.cell (World.block_lt_of_cell? w _ hw341_7)).trans hw341_7), ((HB.out.cell (World.block_lt_of_cell? w _ hw341_8)).trans hw341_8)⟩ (fun hHeld => ?_)
                clear hK K
                refine norm_ (a' := ?_) ?_ ?_
                rotate_left
                · show Act.put _ (some 31) _ = _
                  simp only [Act.put, List.setIfInBounds_toArray, List.set_cons_zero, List.set_cons_succ, i64_w, i32_w]; rfl
                exact norm_ (by simp only [putAll, Act.put, List.setIfInBounds_toArray, List.set_cons_zero, List.set_cons_succ]) (hCont (gb343) _ ⟨hHeld, (by (with_reducible repeat (first | refine blk_drewN ?_ _ | refine blk_drew ?_ | refine blk_alloc ?_ _)); exact BK340.out), (by (with_reducible repeat (first | refine blk_drewN ?_ _ | refine blk_drew ?_ | refine blk_alloc ?_ _)); exact BK343.out), GW343.out, GE343.out, NB340_343.out, NB343_340.out, (by repeat (first | (with_reducible first | exact HB.out | apply below_alloc | apply pw_below_drewN | apply below_drew1 | refine below_set ?_ GE340.out | refine below_set ?_ GE343.out) | exact HB.out))⟩)
            rintro gb343 w19 ⟨hS_, h0_, h1_, h2_, h3_, h4_, h5_, h6_⟩
            have n0_ : Aside0 (w19.heap[gb340]? = some (.cells #[.int .i64 a0_0, .slice (some ad341) l0_1.length c0_1] 24 (0, 0))) := ⟨h0_⟩
            have n1_ : Aside0 (w19.heap[gb343]? = some (.cells #[.string (⟨#[]⟩ : ByteArray), .int .i64 0, .int .i64 0, .int .i64 0, .int .i64 0, .int .i64 0, .slice none 0 0, .int .u64 0, .int .u64 0] 38 (0, 0))) := ⟨h1_⟩
            have n2_ : Aside0 (w.heap.size ≤ gb343) := ⟨h2_⟩
            have n3_ : Aside0 (w.heap.size ≤ gb343) := ⟨h3_⟩
            have n4_ : Aside0 (gb340 ≠ gb343) := ⟨h4_⟩
            have n5_ : Aside0 (gb343 ≠ gb340) := ⟨h5_⟩
            have n6_ : Aside0 (Below w.heap.size w w19) := ⟨h6_⟩
            clear BK340; clear HB; clear h0_ h1_ h2_ h3_ h4_ h5_ h6_
            have BK340 := n0_
            have BK343 := n1_
            have GW343 := n2_
            have GE343 := n3_
            have NB340_343 := n4_
            have NB343_340 := n5_
            have HB := n6_
            clear n0_ n1_ n2_ n3_ n4_ n5_ n6_
            have hHeld : w19.cell? ⟨gb340, 0, none⟩ = some (.int .i64 a0_0) ∧ w19.cell? ⟨gb340, 1, none⟩ = some (.slice (some ad341) l0_1.length c0_1) ∧ w19.cell? (ad341.add ((a1).toNat * 9)) = some (.string ((rd_T38 l0_1 a1).f0)) ∧ w19.cell? ⟨(ad341.add ((a1).toNat * 9)).block, (ad341.add ((a1).toNat * 9)).off + 1, none⟩ = some (.int .i64 ((rd_T38 l0_1 a1).f1)) ∧ w19.cell? ⟨(ad341.add ((a1).toNat * 9)).block, (ad341.add ((a1).toNat * 9)).off + 2, none⟩ = some (.int .i64 ((rd_T38 l0_1 a1).f2)) ∧ w19.cell? ⟨(ad341.add ((a1).toNat * 9)).block, (ad341.add ((a1).toNat * 9)).off + 3, none⟩ = some (.int .i64 ((rd_T38 l0_1 a1).f3)) ∧ w19.cell? ⟨(ad341.add ((a1).toNat * 9)).block, (ad341.add ((a1).toNat * 9)).off + 4, none⟩ = some (.int .i64 ((rd_T38 l0_1 a1).f4)) ∧ w19.cell? ⟨(ad341.add ((a1).toNat * 9)).block, (ad341.add ((a1).toNat * 9)).off + 5, none⟩ = some (.int .i64 ((rd_T38 l0_1 a1).f5)) ∧ w19.cell? ⟨(ad341.add ((a1).toNat * 9)).block, (ad341.add ((a1).toNat * 9)).off + 6, none⟩ = some (.slice A341_6 ((rd_T38 l0_1 a1).f6).length c341_6) ∧ w19.cell? ⟨(ad341.add ((a1).toNat * 9)).block, (ad341.add ((a1).toNat * 9)).off + 7, none⟩ = some (.int .u64 ((rd_T38 l0_1 a1).f7)) ∧ w19.cell? ⟨(ad341.add ((a1).toNat * 9)).block, (ad341.add ((a1).toNat * 9)).off + 8, none⟩ = some (.int .u64 ((rd_T38 l0_1 a1).f8)) := hS_
            refine norm_ (a' := ?_) ?_ ?_
            rotate_left; · simp only [putAll, Act.put, List.setIfInBounds_toArray, List.set_cons_zero, List.set_cons_succ]; rfl
            refine one_ (i := 9) (N := none) #[true, true, true, true, true, true, true, true, true, true, false] rfl rfl (one_of HT_.out (by kernel_rfl)) (by decide) (fun K hK => ?_)
            have hs20 : w19.cell? ⟨gb343, 0, none⟩ = some (.string (⟨#[]⟩ : ByteArray)) := (blk_cell BK343.out 0).trans rfl
            have hfs20 := blk_frozen BK343.out 0
            have hns20_0 := NB340_343.out
            have hms20_0 := NB343_340.out
            have hs21 : w19.cell? ⟨gb343, 1, none⟩ = some (.int .i64 0) := (blk_cell BK343.out 1).trans rfl
            have hfs21 := blk_frozen BK343.out 1
            have hns21_0 := NB340_343.out
            have hms21_0 := NB343_340.out
            have hs22 : w19.cell? ⟨gb343, 2, none⟩ = some (.int .i64 0) := (blk_cell BK343.out 2).trans rfl
            have hfs22 := blk_frozen BK343.out 2
            have hns22_0 := NB340_343.out
            have hms22_0 := NB343_340.out
            have hs23 : w19.cell? ⟨gb343, 3, none⟩ = some (.int .i64 0) := (blk_cell BK343.out 3).trans rfl
            have hfs23 := blk_frozen BK343.out 3
            have hns23_0 := NB340_343.out
            have hms23_0 := NB343_340.out
            have hs24 : w19.cell? ⟨gb343, 4, none⟩ = some (.int .i64 0) := (blk_cell BK343.out 4).trans rfl
            have hfs24 := blk_frozen BK343.out 4
            have hns24_0 := NB340_343.out
            have hms24_0 := NB343_340.out
            have hs25 : w19.cell? ⟨gb343, 5, none⟩ = some (.int .i64 0) := (blk_cell BK343.out 5).trans rfl
            have hfs25 := blk_frozen BK343.out 5
            have hns25_0 := NB340_343.out
            have hms25_0 := NB343_340.out
            have hs26 : w19.cell? ⟨gb343, 6, none⟩ = some (.slice none 0 0) := (blk_cell BK343.out 6).trans rfl
            have hfs26 := blk_frozen BK343.out 6
            have hns26_0 := NB340_343.out
            have hms26_0 := NB343_340.out
            have hs27 : w19.cell? ⟨gb343, 7, none⟩ = some (.int .u64 0) := (blk_cell BK343.out 7).trans rfl
            have hfs27 := blk_frozen BK343.out 7
            have hns27_0 := NB340_343.out
            have hms27_0 := NB343_340.out
            have hs28 : w19.cell? ⟨gb343, 8, none⟩ = some (.int .u64 0) := (blk_cell BK343.out 8).trans rfl
            have hfs28 := blk_frozen BK343.out 8
            have hns28_0 := NB340_343.out
            have hms28_0 := NB343_340.out
            refine skip_ (w1 := ?_) (by rfl) rfl ?_ ?_
            rotate_left; · go_simp; rfl
            refine hK.out _ _ ⟨((cell_far (p := ⟨gb343, _, none⟩) NB340_343.out _).trans (((cell_far (p := ⟨gb343, _, none⟩) NB340_343.out _).trans (((cell_far (p := ⟨gb343, _, none⟩) NB340_343.out _).trans (((cell_far (p := ⟨gb343, _, none⟩) NB340_343.out _).trans (((cell_far (p := ⟨gb343, _, none⟩) NB340_343.out _).trans (((cell_far (p := ⟨gb343, _, none⟩) NB340_343.out _).trans (((cell_far (p := ⟨gb343, _, none⟩) NB340_343.out _).trans (((cell_far (p := ⟨gb343, _, none⟩) NB340_343.out _).trans (((cell_far (p := ⟨gb343, _, none⟩) NB340_343.out _).trans (hHeld.1)))))))))))))))))), ((cell_far (p := ⟨gb343, _, none⟩) NB340_343.out _).trans (((cell_far (p := ⟨gb343, _, none⟩) NB340_343.out _).trans (((cell_far (p := ⟨gb343, _, none⟩) NB340_343.out _).trans (((cell_far (p := ⟨gb343, _, none⟩) NB340_343.out _).trans (((cell_far (p := ⟨gb343, _, none⟩) NB340_343.out _).trans (((cell_far (p := ⟨gb343, _, none⟩) NB340_343.out _).trans (((cell_far (p := ⟨gb343, _, none⟩) NB340_343.out _).trans (((cell_far (p := ⟨gb343, _, none⟩) NB340_343.out _).trans (((cell_far (p := ⟨gb343, _, none⟩) NB340_343.out _).trans (hHeld.2.1)))))))))))))))))), ((cell_far (p := ⟨gb343, _, none⟩) (by first | exact Nat.ne_of_lt (Nat.lt_of_lt_of_le (by have := World.block_lt_of_cell? _ _ hw341_0; first | rwa [add_block] at this | exact this) GW343.out) | (rw [add_block]; exact Nat.ne_of_lt (Nat.lt_of_lt_of_le (by have := World.block_lt_of_cell? _ _ hw341_0; first | rwa [add_block] at this | exact this) GW343.out)) | (show (Addr.add _ _).block ≠ _; rw [add_block]; exact Nat.ne_of_lt (Nat.lt_of_lt_of_le (by have := World.block_lt_of_cell? _ _ hw341_0; first | rwa [add_block] at this | exact this) GW343.out)) | (dsimp only; exact Nat.ne_of_lt (Nat.lt_of_lt_of_le (by have := World.block_lt_of_cell? _ _ hw341_0; first | rwa [add_block] at this | exact this) GW343.out))) _).trans (((cell_far (p := ⟨gb343, _, none⟩) (by first | exact Nat.ne_of_lt (Nat.lt_of_lt_of_le (by have := World.block_lt_of_cell? _ _ hw341_0; first | rwa [add_block] at this | exact this) GW343.out) | (rw [add_block]; exact Nat.ne_of_lt (Nat.lt_of_lt_of_le (by have := World.block_lt_of_cell? _ _ hw341_0; first | rwa [add_block] at this | exact this) GW343.out)) | (show (Addr.add _ _).block ≠ _; rw [add_block]; exact Nat.ne_of_lt (Nat.lt_of_lt_of_le (by have := World.block_lt_of_cell? _ _ hw341_0; first | rwa [add_block] at this | exact this) GW343.out)) | (dsimp only; exact Nat.ne_of_lt (Nat.lt_of_lt_of_le (by have := World.block_lt_of_cell? _ _ hw341_0; first | rwa [add_block] at this | exact this) GW343.out))) _).trans (((cell_far (p := ⟨gb343, _, none⟩) (by first | exact Nat.ne_of_lt (Nat.lt_of_lt_of_le (by have := World.block_lt_of_cell? _ _ hw341_0; first | rwa [add_block] at this | exact this) GW343.out) | (rw [add_block]; exact Nat.ne_of_lt (Nat.lt_of_lt_of_le (by have := World.block_lt_of_cell? _ _ hw341_0; first | rwa [add_block] at this | exact this) GW343.out)) | (show (Addr.add _ _).block ≠ _; rw [add_block]; exact Nat.ne_of_lt (Nat.lt_of_lt_of_le (by have := World.block_lt_of_cell? _ _ hw341_0; first | rwa [add_block] at this | exact this) GW343.out)) | (dsimp only; exact Nat.ne_of_lt (Nat.lt_of_lt_of_le (by have := World.block_lt_of_cell? _ _ hw341_0; first | rwa [add_block] at this | exact this) GW343.out))) _).trans (((cell_far (p := ⟨gb343, _, none⟩) (by first | exact Nat.ne_of_lt (Nat.lt_of_lt_of_le (by have := World.block_lt_of_cell? _ _ hw341_0; first | rwa [add_block] at this | exact this) GW343.out) | (rw [add_block]; exact Nat.ne_of_lt (Nat.lt_of_lt_of_le (by have := World.block_lt_of_cell? _ _ hw341_0; first | rwa [add_block] at this | exact this) GW343.out)) | (show (Addr.add _ _).block ≠ _; rw [add_block]; exact Nat.ne_of_lt (Nat.lt_of_lt_of_le (by have := World.block_lt_of_cell? _ _ hw341_0; first | rwa [add_block] at this | exact this) GW343.out)) | (dsimp only; exact Nat.ne_of_lt (Nat.lt_of_lt_of_le (by have := World.block_lt_of_cell? _ _ hw341_0; first | rwa [add_block] at this | exact this) GW343.out))) _).trans (((cell_far (p := ⟨gb343, _, none⟩) (by first | exact Nat.ne_of_lt (Nat.lt_of_lt_of_le (by have := World.block_lt_of_cell? _ _ hw341_0; first | rwa [add_block] at this | exact this) GW343.out) | (rw [add_block]; exact Nat.ne_of_lt (Nat.lt_of_lt_of_le (by have := World.block_lt_of_cell? _ _ hw341_0; first | rwa [add_block] at this | exact this) GW343.out)) | (show (Addr.add _ _).block ≠ _; rw [add_block]; exact Nat.ne_of_lt (Nat.lt_of_lt_of_le (by have := World.block_lt_of_cell? _ _ hw341_0; first | rwa [add_block] at this | exact this) GW343.out)) | (dsimp only; exact Nat.ne_of_lt (Nat.lt_of_lt_of_le (by have := World.block_lt_of_cell? _ _ hw341_0; first | rwa [add_block] at this | exact this) GW343.out))) _).trans (((cell_far (p := ⟨gb343, _, none⟩) (by first | exact Nat.ne_of_lt (Nat.lt_of_lt_of_le (by have := World.block_lt_of_cell? _ _ hw341_0; first | rwa [add_block] at this | exact this) GW343.out) | (rw [add_block]; exact Nat.ne_of_lt (Nat.lt_of_lt_of_le (by have := World.block_lt_of_cell? _ _ hw341_0; first | rwa [add_block] at this | exact this) GW343.out)) | (show (Addr.add _ _).block ≠ _; rw [add_block]; exact Nat.ne_of_lt (Nat.lt_of_lt_of_le (by have := World.block_lt_of_cell? _ _ hw341_0; first | rwa [add_block] at this | exact this) GW343.out)) | (dsimp only; exact Nat.ne_of_lt (Nat.lt_of_lt_of_le (by have := World.block_lt_of_cell? _ _ hw341_0; first | rwa [add_block] at this | exact this) GW343.out))) _).trans (((cell_far (p := ⟨gb343, _, none⟩) (by first | exact Nat.ne_of_lt (Nat.lt_of_lt_of_le (by have := World.block_lt_of_cell? _ _ hw341_0; first | rwa [add_block] at this | exact this) GW343.out) | (rw [add_block]; exact Nat.ne_of_lt (Nat.lt_of_lt_of_le (by have := World.block_lt_of_cell? _ _ hw341_0; first | rwa [add_block] at this | exact this) GW343.out)) | (show (Addr.add _ _).block ≠ _; rw [add_block]; exact Nat.ne_of_lt (Nat.lt_of_lt_of_le (by have := World.block_lt_of_cell? _ _ hw341_0; first | rwa [add_block] at this | exact this) GW343.out)) | (dsimp only; exact Nat.ne_of_lt (Nat.lt_of_lt_of_le (by have := World.block_lt_of_cell? _ _ hw341_0; first | rwa [add_block] at this | exact this) GW343.out))) _).trans (((cell_far (p := ⟨gb343, _, none⟩) (by first | exact Nat.ne_of_lt (Nat.lt_of_lt_of_le (by have := World.block_lt_of_cell? _ _ hw341_0; first | rwa [add_block] at this | exact this) GW343.out) | (rw [add_block]; exact Nat.ne_of_lt (Nat.lt_of_lt_of_le (by have := World.block_lt_of_cell? _ _ hw341_0; first | rwa [add_block] at this | exact this) GW343.out)) | (show (Addr.add _ _).block ≠ _; rw [add_block]; exact Nat.ne_of_lt (Nat.lt_of_lt_of_le (by have := World.block_lt_of_cell? _ _ hw341_0; first | rwa [add_block] at this | exact this) GW343.out)) | (dsimp only; exact Nat.ne_of_lt (Nat.lt_of_lt_of_le (by have := World.block_lt_of_cell? _ _ hw341_0; first | rwa [add_block] at this | exact this) GW343.out))) _).trans (((cell_far (p := ⟨gb343, _, none⟩) (by first | exact Nat.ne_of_lt (Nat.lt_of_lt_of_le (by have := World.block_lt_of_cell? _ _ hw341_0; first | rwa [add_block] at this | exact this) GW343.out) | (rw [add_block]; exact Nat.ne_of_lt (Nat.lt_of_lt_of_le (by have := World.block_lt_of_cell? _ _ hw341_0; first | rwa [add_block] at this | exact this) GW343.out)) | (show (Addr.add _ _).block ≠ _; rw [add_block]; exact Nat.ne_of_lt (Nat.lt_of_lt_of_le (by have := World.block_lt_of_cell? _ _ hw341_0; first | rwa [add_block] at this | exact this) GW343.out)) | (dsimp only; exact Nat.ne_of_lt (Nat.lt_of_lt_of_le (by have := World.block_lt_of_cell? _ _ hw341_0; first | rwa [add_block] at this | exact this) GW343.out))) _).trans (hHeld.2.2.1)))))))))))))))))), ((cell_far (p := ⟨gb343, _, none⟩) (by first | exact Nat.ne_of_lt (Nat.lt_of_lt_of_le (by have := World.block_lt_of_cell? _ _ hw341_1; first | rwa [add_block] at this | exact this) GW343.out) | (rw [add_block]; exact Nat.ne_of_lt (Nat.lt_of_lt_of_le (by have := World.block_lt_of_cell? _ _ hw341_1; first | rwa [add_block] at this | exact this) GW343.out)) | (show (Addr.add _ _).block ≠ _; rw [add_block]; exact Nat.ne_of_lt (Nat.lt_of_lt_of_le (by have := World.block_lt_of_cell? _ _ hw341_1; first | rwa [add_block] at this | exact this) GW343.out)) | (dsimp only; exact Nat.ne_of_lt (Nat.lt_of_lt_of_le (by have := World.block_lt_of_cell? _ _ hw341_1; first | rwa [add_block] at this | exact this) GW343.out))) _).trans (((cell_far (p := ⟨gb343, _, none⟩) (by first | exact Nat.ne_of_lt (Nat.lt_of_lt_of_le (by have := World.block_lt_of_cell? _ _ hw341_1; first | rwa [add_block] at this | exact this) GW343.out) | (rw [add_block]; exact Nat.ne_of_lt (Nat.lt_of_lt_of_le (by have := World.block_lt_of_cell? _ _ hw341_1; first | rwa [add_block] at this | exact this) GW343.out)) | (show (Addr.add _ _).block ≠ _; rw [add_block]; exact Nat.ne_of_lt (Nat.lt_of_lt_of_le (by have := World.block_lt_of_cell? _ _ hw341_1; first | rwa [add_block] at this | exact this) GW343.out)) | (dsimp only; exact Nat.ne_of_lt (Nat.lt_of_lt_of_le (by have := World.block_lt_of_cell? _ _ hw341_1; first | rwa [add_block] at this | exact this) GW343.out))) _).trans (((cell_far (p := ⟨gb343, _, none⟩) (by first | exact Nat.ne_of_lt (Nat.lt_of_lt_of_le (by have := World.block_lt_of_cell? _ _ hw341_1; first | rwa [add_block] at this | exact this) GW343.out) | (rw [add_block]; exact Nat.ne_of_lt (Nat.lt_of_lt_of_le (by have := World.block_lt_of_cell? _ _ hw341_1; first | rwa [add_block] at this | exact this) GW343.out)) | (show (Addr.add _ _).block ≠ _; rw [add_block]; exact Nat.ne_of_lt (Nat.lt_of_lt_of_le (by have := World.block_lt_of_cell? _ _ hw341_1; first | rwa [add_block] at this | exact this) GW343.out)) | (dsimp only; exact Nat.ne_of_lt (Nat.lt_of_lt_of_le (by have := World.block_lt_of_cell? _ _ hw341_1; first | rwa [add_block] at this | exact this) GW343.out))) _).trans (((cell_far (p := ⟨gb343, _, none⟩) (by first | exact Nat.ne_of_lt (Nat.lt_of_lt_of_le (by have := World.block_lt_of_cell? _ _ hw341_1; first | rwa [add_block] at this | exact this) GW343.out) | (rw [add_block]; exact Nat.ne_of_lt (Nat.lt_of_lt_of_le (by have := World.block_lt_of_cell? _ _ hw341_1; first | rwa [add_block] at this | exact this) GW343.out)) | (show (Addr.add _ _).block ≠ _; rw [add_block]; exact Nat.ne_of_lt (Nat.lt_of_lt_of_le (by have := World.block_lt_of_cell? _ _ hw341_1; first | rwa [add_block] at this | exact this) GW343.out)) | (dsimp only; exact Nat.ne_of_lt (Nat.lt_of_lt_of_le (by have := World.block_lt_of_cell? _ _ hw341_1; first | rwa [add_block] at this | exact this) GW343.out))) _).trans (((cell_far (p := ⟨gb343, _, none⟩) (by first | exact Nat.ne_of_lt (Nat.lt_of_lt_of_le (by have := World.block_lt_of_cell? _ _ hw341_1; first | rwa [add_block] at this | exact this) GW343.out) | (rw [add_block]; exact Nat.ne_of_lt (Nat.lt_of_lt_of_le (by have := World.block_lt_of_cell? _ _ hw341_1; first | rwa [add_block] at this | exact this) GW343.out)) | (show (Addr.add _ _).block ≠ _; rw [add_block]; exact Nat.ne_of_lt (Nat.lt_of_lt_of_le (by have := World.block_lt_of_cell? _ _ hw341_1; first | rwa [add_block] at this | exact this) GW343.out)) | (dsimp only; exact Nat.ne_of_lt (Nat.lt_of_lt_of_le (by have := World.block_lt_of_cell? _ _ hw341_1; first | rwa [add_block] at this | exact this) GW343.out))) _).trans (((cell_far (p := ⟨gb343, _, none⟩) (by first | exact Nat.ne_of_lt (Nat.lt_of_lt_of_le (by have := World.block_lt_of_cell? _ _ hw341_1; first | rwa [add_block] at this | exact this) GW343.out) | (rw [add_block]; exact Nat.ne_of_lt (Nat.lt_of_lt_of_le (by have := World.block_lt_of_cell? _ _ hw341_1; first | rwa [add_block] at this | exact this) GW343.out)) | (show (Addr.add _ _).block ≠ _; rw [add_block]; exact Nat.ne_of_lt (Nat.lt_of_lt_of_le (by have := World.block_lt_of_cell? _ _ hw341_1; first | rwa [add_block] at this | exact this) GW343.out)) | (dsimp only; exact Nat.ne_of_lt (Nat.lt_of_lt_of_le (by have := World.block_lt_of_cell? _ _ hw341_1; first | rwa [add_block] at this | exact this) GW343.out))) _).trans (((cell_far (p := ⟨gb343, _, none⟩) (by first | exact Nat.ne_of_lt (Nat.lt_of_lt_of_le (by have := World.block_lt_of_cell? _ _ hw341_1; first | rwa [add_block] at this | exact this) GW343.out) | (rw [add_block]; exact Nat.ne_of_lt (Nat.lt_of_lt_of_le (by have := World.block_lt_of_cell? _ _ hw341_1; first | rwa [add_block] at this | exact this) GW343.out)) | (show (Addr.add _ _).block ≠ _; rw [add_block]; exact Nat.ne_of_lt (Nat.lt_of_lt_of_le (by have := World.block_lt_of_cell? _ _ hw341_1; first | rwa [add_block] at this | exact this) GW343.out)) | (dsimp only; exact Nat.ne_of_lt (Nat.lt_of_lt_of_le (by have := World.block_lt_of_cell? _ _ hw341_1; first | rwa [add_block] at this | exact this) GW343.out))) _).trans (((cell_far (p := ⟨gb343, _, none⟩) (by first | exact Nat.ne_of_lt (Nat.lt_of_lt_of_le (by have := World.block_lt_of_cell? _ _ hw341_1; first | rwa [add_block] at this | exact this) GW343.out) | (rw [add_block]; exact Nat.ne_of_lt (Nat.lt_of_lt_of_le (by have := World.block_lt_of_cell? _ _ hw341_1; first | rwa [add_block] at this | exact this) GW343.out)) | (show (Addr.add _ _).block ≠ _; rw [add_block]; exact Nat.ne_of_lt (Nat.lt_of_lt_of_le (by have := World.block_lt_of_cell? _ _ hw341_1; first | rwa [add_block] at this | exact this) GW343.out)) | (dsimp only; exact Nat.ne_of_lt (Nat.lt_of_lt_of_le (by have := World.block_lt_of_cell? _ _ hw341_1; first | rwa [add_block] at this | exact this) GW343.out))) _).trans (((cell_far (p := ⟨gb343, _, none⟩) (by first | exact Nat.ne_of_lt (Nat.lt_of_lt_of_le (by have := World.block_lt_of_cell? _ _ hw341_1; first | rwa [add_block] at this | exact this) GW343.out) | (rw [add_block]; exact Nat.ne_of_lt (Nat.lt_of_lt_of_le (by have := World.block_lt_of_cell? _ _ hw341_1; first | rwa [add_block] at this | exact this) GW343.out)) | (show (Addr.add _ _).block ≠ _; rw [add_block]; exact Nat.ne_of_lt (Nat.lt_of_lt_of_le (by have := World.block_lt_of_cell? _ _ hw341_1; first | rwa [add_block] at this | exact this) GW343.out)) | (dsimp only; exact Nat.ne_of_lt (Nat.lt_of_lt_of_le (by have := World.block_lt_of_cell? _ _ hw341_1; first | rwa [add_block] at this | exact this) GW343.out))) _).trans (hHeld.2.2.2.1)))))))))))))))))), ((cell_far (p := ⟨gb343, _, none⟩) (by first | exact Nat.ne_of_lt (Nat.lt_of_lt_of_le (by have := World.block_lt_of_cell? _ _ hw341_2; first | rwa [add_block] at this | exact this) GW343.out) | (rw [add_block]; exact Nat.ne_of_lt (Nat.lt_of_lt_of_le (by have := World.block_lt_of_cell? _ _ hw341_2; first | rwa [add_block] at this | exact this) GW343.out)) | (show (Addr.add _ _).block ≠ _; rw [add_block]; exact Nat.ne_of_lt (Nat.lt_of_lt_of_le (by have := World.block_lt_of_cell? _ _ hw341_2; first | rwa [add_block] at this | exact this) GW343.out)) | (dsimp only; exact Nat.ne_of_lt (Nat.lt_of_lt_of_le (by have := World.block_lt_of_cell? _ _ hw341_2; first | rwa [add_block] at this | exact this) GW343.out))) _).trans (((cell_far (p := ⟨gb343, _, none⟩) (by first | exact Nat.ne_of_lt (Nat.lt_of_lt_of_le (by have := World.block_lt_of_cell? _ _ hw341_2; first | rwa [add_block] at this | exact this) GW343.out) | (rw [add_block]; exact Nat.ne_of_lt (Nat.lt_of_lt_of_le (by have := World.block_lt_of_cell? _ _ hw341_2; first | rwa [add_block] at this | exact this) GW343.out)) | (show (Addr.add _ _).block ≠ _; rw [add_block]; exact Nat.ne_of_lt (Nat.lt_of_lt_of_le (by have := World.block_lt_of_cell? _ _ hw341_2; first | rwa [add_block] at this | exact this) GW343.out)) | (dsimp only; exact Nat.ne_of_lt (Nat.lt_of_lt_of_le (by have := World.block_lt_of_cell? _ _ hw341_2; first | rwa [add_block] at this | exact this) GW343.out))) _).trans (((cell_far (p := ⟨gb343, _, none⟩) (by first | exact Nat.ne_of_lt (Nat.lt_of_lt_of_le (by have := World.block_lt_of_cell? _ _ hw341_2; first | rwa [add_block] at this | exact this) GW343.out) | (rw [add_block]; exact Nat.ne_of_lt (Nat.lt_of_lt_of_le (by have := World.block_lt_of_cell? _ _ hw341_2; first | rwa [add_block] at this | exact this) GW343.out)) | (show (Addr.add _ _).block ≠ _; rw [add_block]; exact Nat.ne_of_lt (Nat.lt_of_lt_of_le (by have := World.block_lt_of_cell? _ _ hw341_2; first | rwa [add_block] at this | exact this) GW343.out)) | (dsimp only; exact Nat.ne_of_lt (Nat.lt_of_lt_of_le (by have := World.block_lt_of_cell? _ _ hw341_2; first | rwa [add_block] at this | exact this) GW343.out))) _).trans (((cell_far (p := ⟨gb343, _, none⟩) (by first | exact Nat.ne_of_lt (Nat.lt_of_lt_of_le (by have := World.block_lt_of_cell? _ _ hw341_2; first | rwa [add_block] at this | exact this) GW343.out) | (rw [add_block]; exact Nat.ne_of_lt (Nat.lt_of_lt_of_le (by have := World.block_lt_of_cell? _ _ hw341_2; first | rwa [add_block] at this | exact this) GW343.out)) | (show (Addr.add _ _).block ≠ _; rw [add_block]; exact Nat.ne_of_lt (Nat.lt_of_lt_of_le (by have := World.block_lt_of_cell? _ _ hw341_2; first | rwa [add_block] at this | exact this) GW343.out)) | (dsimp only; exact Nat.ne_of_lt (Nat.lt_of_lt_of_le (by have := World.block_lt_of_cell? _ _ hw341_2; first | rwa [add_block] at this | exact this) GW343.out))) _).trans (((cell_far (p := ⟨gb343, _, none⟩) (by first | exact Nat.ne_of_lt (Nat.lt_of_lt_of_le (by have := World.block_lt_of_cell? _ _ hw341_2; first | rwa [add_block] at this | exact this) GW343.out) | (rw [add_block]; exact Nat.ne_of_lt (Nat.lt_of_lt_of_le (by have := World.block_lt_of_cell? _ _ hw341_2; first | rwa [add_block] at this | exact this) GW343.out)) | (show (Addr.add _ _).block ≠ _; rw [add_block]; exact Nat.ne_of_lt (Nat.lt_of_lt_of_le (by have := World.block_lt_of_cell? _ _ hw341_2; first | rwa [add_block] at this | exact this) GW343.out)) | (dsimp only; exact Nat.ne_of_lt (Nat.lt_of_lt_of_le (by have := World.block_lt_of_cell? _ _ hw341_2; first | rwa [add_block] at this | exact this) GW343.out))) _).trans (((cell_far (p := ⟨gb343, _, none⟩) (by first | exact Nat.ne_of_lt (Nat.lt_of_lt_of_le (by have := World.block_lt_of_cell? _ _ hw341_2; first | rwa [add_block] at this | exact this) GW343.out) | (rw [add_block]; exact Nat.ne_of_lt (Nat.lt_of_lt_of_le (by have := World.block_lt_of_cell? _ _ hw341_2; first | rwa [add_block] at this | exact this) GW343.out)) | (show (Addr.add _ _).block ≠ _; rw [add_block]; exact Nat.ne_of_lt (Nat.lt_of_lt_of_le (by have := World.block_lt_of_cell? _ _ hw341_2; first | rwa [add_block] at this | exact this) GW343.out)) | (dsimp only; exact Nat.ne_of_lt (Nat.lt_of_lt_of_le (by have := World.block_lt_of_cell? _ _ hw341_2; first | rwa [add_block] at this | exact this) GW343.out))) _).trans (((cell_far (p := ⟨gb343, _, none⟩) (by first | exact Nat.ne_of_lt (Nat.lt_of_lt_of_le (by have := World.block_lt_of_cell? _ _ hw341_2; first | rwa [add_block] at this | exact this) GW343.out) | (rw [add_block]; exact Nat.ne_of_lt (Nat.lt_of_lt_of_le (by have := World.block_lt_of_cell? _ _ hw341_2; first | rwa [add_block] at this | exact this) GW343.out)) | (show (Addr.add _ _).block ≠ _; rw [add_block]; exact Nat.ne_of_lt (Nat.lt_of_lt_of_le (by have := World.block_lt_of_cell? _ _ hw341_2; first | rwa [add_block] at this | exact this) GW343.out)) | (dsimp only; exact Nat.ne_of_lt (Nat.lt_of_lt_of_le (by have := World.block_lt_of_cell? _ _ hw341_2; first | rwa [add_block] at this | exact this) GW343.out))) _).trans (((cell_far (p := ⟨gb343, _, none⟩) (by first | exact Nat.ne_of_lt (Nat.lt_of_lt_of_le (by have := World.block_lt_of_cell? _ _ hw341_2; first | rwa [add_block] at this | exact this) GW343.out) | (rw [add_block]; exact Nat.ne_of_lt (Nat.lt_of_lt_of_le (by have := World.block_lt_of_cell? _ _ hw341_2; first | rwa [add_block] at this | exact this) GW343.out)) | (show (Addr.add _ _).block ≠ _; rw [add_block]; exact Nat.ne_of_lt (Nat.lt_of_lt_of_le (by have := World.block_lt_of_cell? _ _ hw341_2; first | rwa [add_block] at this | exact this) GW343.out)) | (dsimp only; exact Nat.ne_of_lt (Nat.lt_of_lt_of_le (by have := World.block_lt_of_cell? _ _ hw341_2; first | rwa [add_block] at this | exact this) GW343.out))) _).trans (((cell_far (p := ⟨gb343, _, none⟩) (by first | exact Nat.ne_of_lt (Nat.lt_of_lt_of_le (by have := World.block_lt_of_cell? _ _ hw341_2; first | rwa [add_block] at this | exact this) GW343.out) | (rw [add_block]; exact Nat.ne_of_lt (Nat.lt_of_lt_of_le (by have := World.block_lt_of_cell? _ _ hw341_2; first | rwa [add_block] at this | exact this) GW343.out)) | (show (Addr.add _ _).block ≠ _; rw [add_block]; exact Nat.ne_of_lt (Nat.lt_of_lt_of_le (by have := World.block_lt_of_cell? _ _ hw341_2; first | rwa [add_block] at this | exact this) GW343.out)) | (dsimp only; exact Nat.ne_of_lt (Nat.lt_of_lt_of_le (by have := World.block_lt_of_cell? _ _ hw341_2; first | rwa [add_block] at this | exact this) GW343.out))) _).trans (hHeld.2.2.2.2.1)))))))))))))))))), ((cell_far (p := ⟨gb343, _, none⟩) (by first | exact Nat.ne_of_lt (Nat.lt_of_lt_of_le (by have := World.block_lt_of_cell? _ _ hw341_3; first | rwa [add_block] at this | exact this) GW343.out) | (rw [add_block]; exact Nat.ne_of_lt (Nat.lt_of_lt_of_le (by have := World.block_lt_of_cell? _ _ hw341_3; first | rwa [add_block] at this | exact this) GW343.out)) | (show (Addr.add _ _).block ≠ _; rw [add_block]; exact Nat.ne_of_lt (Nat.lt_of_lt_of_le (by have := World.block_lt_of_cell? _ _ hw341_3; first | rwa [add_block] at this | exact this) GW343.out)) | (dsimp only; exact Nat.ne_of_lt (Nat.lt_of_lt_of_le (by have := World.block_lt_of_cell? _ _ hw341_3; first | rwa [add_block] at this | exact this) GW343.out))) _).trans (((cell_far (p := ⟨gb343, _, none⟩) (by first | exact Nat.ne_of_lt (Nat.lt_of_lt_of_le (by have := World.block_lt_of_cell? _ _ hw341_3; first | rwa [add_block] at this | exact this) GW343.out) | (rw [add_block]; exact Nat.ne_of_lt (Nat.lt_of_lt_of_le (by have := World.block_lt_of_cell? _ _ hw341_3; first | rwa [add_block] at this | exact this) GW343.out)) | (show (Addr.add _ _).block ≠ _; rw [add_block]; exact Nat.ne_of_lt (Nat.lt_of_lt_of_le (by have := World.block_lt_of_cell? _ _ hw341_3; first | rwa [add_block] at this | exact this) GW343.out)) | (dsimp only; exact Nat.ne_of_lt (Nat.lt_of_lt_of_le (by have := World.block_lt_of_cell? _ _ hw341_3; first | rwa [add_block] at this | exact this) GW343.out))) _).trans (((cell_far (p := ⟨gb343, _, none⟩) (by first | exact Nat.ne_of_lt (Nat.lt_of_lt_of_le (by have := World.block_lt_of_cell? _ _ hw341_3; first | rwa [add_block] at this | exact this) GW343.out) | (rw [add_block]; exact Nat.ne_of_lt (Nat.lt_of_lt_of_le (by have := World.block_lt_of_cell? _ _ hw341_3; first | rwa [add_block] at this | exact this) GW343.out)) | (show (Addr.add _ _).block ≠ _; rw [add_block]; exact Nat.ne_of_lt (Nat.lt_of_lt_of_le (by have := World.block_lt_of_cell? _ _ hw341_3; first | rwa [add_block] at this | exact this) GW343.out)) | (dsimp only; exact Nat.ne_of_lt (Nat.lt_of_lt_of_le (by have := World.block_lt_of_cell? _ _ hw341_3; first | rwa [add_block] at this | exact this) GW343.out))) _).trans (((cell_far (p := ⟨gb343, _, none⟩) (by first | exact Nat.ne_of_lt (Nat.lt_of_lt_of_le (by have := World.block_lt_of_cell? _ _ hw341_3; first | rwa [add_block] at this | exact this) GW343.out) | (rw [add_block]; exact Nat.ne_of_lt (Nat.lt_of_lt_of_le (by have := World.block_lt_of_cell? _ _ hw341_3; first | rwa [add_block] at this | exact this) GW343.out)) | (show (Addr.add _ _).block ≠ _; rw [add_block]; exact Nat.ne_of_lt (Nat.lt_of_lt_of_le (by have := World.block_lt_of_cell? _ _ hw341_3; first | rwa [add_block] at this | exact this) GW343.out)) | (dsimp only; exact Nat.ne_of_lt (Nat.lt_of_lt_of_le (by have := World.block_lt_of_cell? _ _ hw341_3; first | rwa [add_block] at this | exact this) GW343.out))) _).trans (((cell_far (p := ⟨gb343, _, none⟩) (by first | exact Nat.ne_of_lt (Nat.lt_of_lt_of_le (by have := World.block_lt_of_cell? _ _ hw341_3; first | rwa [add_block] at this | exact this) GW343.out) | (rw [add_block]; exact Nat.ne_of_lt (Nat.lt_of_lt_of_le (by have := World.block_lt_of_cell? _ _ hw341_3; first | rwa [add_block] at this | exact this) GW343.out)) | (show (Addr.add _ _).block ≠ _; rw [add_block]; exact Nat.ne_of_lt (Nat.lt_of_lt_of_le (by have := World.block_lt_of_cell? _ _ hw341_3; first | rwa [add_block] at this | exact this) GW343.out)) | (dsimp only; exact Nat.ne_of_lt (Nat.lt_of_lt_of_le (by have := World.block_lt_of_cell? _ _ hw341_3; first | rwa [add_block] at this | exact this) GW343.out))) _).trans (((cell_far (p := ⟨gb343, _, none⟩) (by first | exact Nat.ne_of_lt (Nat.lt_of_lt_of_le (by have := World.block_lt_of_cell? _ _ hw341_3; first | rwa [add_block] at this | exact this) GW343.out) | (rw [add_block]; exact Nat.ne_of_lt (Nat.lt_of_lt_of_le (by have := World.block_lt_of_cell? _ _ hw341_3; first | rwa [add_block] at this | exact this) GW343.out)) | (show (Addr.add _ _).block ≠ _; rw [add_block]; exact Nat.ne_of_lt (Nat.lt_of_lt_of_le (by have := World.block_lt_of_cell? _ _ hw341_3; first | rwa [add_block] at this | exact this) GW343.out)) | (dsimp only; exact Nat.ne_of_lt (Nat.lt_of_lt_of_le (by have := World.block_lt_of_cell? _ _ hw341_3; first | rwa [add_block] at this | exact this) GW343.out))) _).trans (((cell_far (p := ⟨gb343, _, none⟩) (by first | exact Nat.ne_of_lt (Nat.lt_of_lt_of_le (by have := World.block_lt_of_cell? _ _ hw341_3; first | rwa [add_block] at this | exact this) GW343.out) | (rw [add_block]; exact Nat.ne_of_lt (Nat.lt_of_lt_of_le (by have := World.block_lt_of_cell? _ _ hw341_3; first | rwa [add_block] at this | exact this) GW343.out)) | (show (Addr.add _ _).block ≠ _; rw [add_block]; exact Nat.ne_of_lt (Nat.lt_of_lt_of_le (by have := World.block_lt_of_cell? _ _ hw341_3; first | rwa [add_block] at this | exact this) GW343.out)) | (dsimp only; exact Nat.ne_of_lt (Nat.lt_of_lt_of_le (by have := World.block_lt_of_cell? _ _ hw341_3; first | rwa [add_block] at this | exact this) GW343.out))) _).trans (((cell_far (p := ⟨gb343, _, none⟩) (by first | exact Nat.ne_of_lt (Nat.lt_of_lt_of_le (by have := World.block_lt_of_cell? _ _ hw341_3; first | rwa [add_block] at this | exact this) GW343.out) | (rw [add_block]; exact Nat.ne_of_lt (Nat.lt_of_lt_of_le (by have := World.block_lt_of_cell? _ _ hw341_3; first | rwa [add_block] at this | exact this) GW343.out)) | (show (Addr.add _ _).block ≠ _; rw [add_block]; exact Nat.ne_of_lt (Nat.lt_of_lt_of_le (by have := World.block_lt_of_cell? _ _ hw341_3; first | rwa [add_block] at this | exact this) GW343.out)) | (dsimp only; exact Nat.ne_of_lt (Nat.lt_of_lt_of_le (by have := World.block_lt_of_cell? _ _ hw341_3; first | rwa [add_block] at this | exact this) GW343.out))) _).trans (((cell_far (p := ⟨gb343, _, none⟩) (by first | exact Nat.ne_of_lt (Nat.lt_of_lt_of_le (by have := World.block_lt_of_cell? _ _ hw341_3; first | rwa [add_block] at this | exact this) GW343.out) | (rw [add_block]; exact Nat.ne_of_lt (Nat.lt_of_lt_of_le (by have := World.block_lt_of_cell? _ _ hw341_3; first | rwa [add_block] at this | exact this) GW343.out)) | (show (Addr.add _ _).block ≠ _; rw [add_block]; exact Nat.ne_of_lt (Nat.lt_of_lt_of_le (by have := World.block_lt_of_cell? _ _ hw341_3; first | rwa [add_block] at this | exact this) GW343.out)) | (dsimp only; exact Nat.ne_of_lt (Nat.lt_of_lt_of_le (by have := World.block_lt_of_cell? _ _ hw341_3; first | rwa [add_block] at this | exact this) GW343.out))) _).trans (hHeld.2.2.2.2.2.1)))))))))))))))))), ((cell_far (p := ⟨gb343, _, none⟩) (by first | exact Nat.ne_of_lt (Nat.lt_of_lt_of_le (by have := World.block_lt_of_cell? _ _ hw341_4; first | rwa [add_block] at this | exact this) GW343.out) | (rw [add_block]; exact Nat.ne_of_lt (Nat.lt_of_lt_of_le (by have := World.block_lt_of_cell? _ _ hw341_4; first | rwa [add_block] at this | exact this) GW343.out)) | (show (Addr.add _ _).block ≠ _; rw [add_block]; exact Nat.ne_of_lt (Nat.lt_of_lt_of_le (by have := World.block_lt_of_cell? _ _ hw341_4; first | rwa [add_block] at this | exact this) GW343.out)) | (dsimp only; exact Nat.ne_of_lt (Nat.lt_of_lt_of_le (by have := World.block_lt_of_cell? _ _ hw341_4; first | rwa [add_block] at this | exact this) GW343.out))) _).trans (((cell_far (p := ⟨gb343, _, none⟩) (by first | exact Nat.ne_of_lt (Nat.lt_of_lt_of_le (by have := World.block_lt_of_cell? _ _ hw341_4; first | rwa [add_block] at this | exact this) GW343.out) | (rw [add_block]; exact Nat.ne_of_lt (Nat.lt_of_lt_of_le (by have := World.block_lt_of_cell? _ _ hw341_4; first | rwa [add_block] at this | exact this) GW343.out)) | (show (Addr.add _ _).block ≠ _; rw [add_block]; exact Nat.ne_of_lt (Nat.lt_of_lt_of_le (by have := World.block_lt_of_cell? _ _ hw341_4; first | rwa [add_block] at this | exact this) GW343.out)) | (dsimp only; exact Nat.ne_of_lt (Nat.lt_of_lt_of_le (by have := World.block_lt_of_cell? _ _ hw341_4; first | rwa [add_block] at this | exact this) GW343.out))) _).trans (((cell_far (p := ⟨gb343, _, none⟩) (by first | exact Nat.ne_of_lt (Nat.lt_of_lt_of_le (by have := World.block_lt_of_cell? _ _ hw341_4; first | rwa [add_block] at this | exact this) GW343.out) | (rw [add_block]; exact Nat.ne_of_lt (Nat.lt_of_lt_of_le (by have := World.block_lt_of_cell? _ _ hw341_4; first | rwa [add_block] at this | exact this) GW343.out)) | (show (Addr.add _ _).block ≠ _; rw [add_block]; exact Nat.ne_of_lt (Nat.lt_of_lt_of_le (by have := World.block_lt_of_cell? _ _ hw341_4; first | rwa [add_block] at this | exact this) GW343.out)) | (dsimp only; exact Nat.ne_of_lt (Nat.lt_of_lt_of_le (by have := World.block_lt_of_cell? _ _ hw341_4; first | rwa [add_block] at this | exact this) GW343.out))) _).trans (((cell_far (p := ⟨gb343, _, none⟩) (by first | exact Nat.ne_of_lt (Nat.lt_of_lt_of_le (by have := World.block_lt_of_cell? _ _ hw341_4; first | rwa [add_block] at this | exact this) GW343.out) | (rw [add_block]; exact Nat.ne_of_lt (Nat.lt_of_lt_of_le (by have := World.block_lt_of_cell? _ _ hw341_4; first | rwa [add_block] at this | exact this) GW343.out)) | (show (Addr.add _ _).block ≠ _; rw [add_block]; exact Nat.ne_of_lt (Nat.lt_of_lt_of_le (by have := World.block_lt_of_cell? _ _ hw341_4; first | rwa [add_block] at this | exact this) GW343.out)) | (dsimp only; exact Nat.ne_of_lt (Nat.lt_of_lt_of_le (by have := World.block_lt_of_cell? _ _ hw341_4; first | rwa [add_block] at this | exact this) GW343.out))) _).trans (((cell_far (p := ⟨gb343, _, none⟩) (by first | exact Nat.ne_of_lt (Nat.lt_of_lt_of_le (by have := World.block_lt_of_cell? _ _ hw341_4; first | rwa [add_block] at this | exact this) GW343.out) | (rw [add_block]; exact Nat.ne_of_lt (Nat.lt_of_lt_of_le (by have := World.block_lt_of_cell? _ _ hw341_4; first | rwa [add_block] at this | exact this) GW343.out)) | (show (Addr.add _ _).block ≠ _; rw [add_block]; exact Nat.ne_of_lt (Nat.lt_of_lt_of_le (by have := World.block_lt_of_cell? _ _ hw341_4; first | rwa [add_block] at this | exact this) GW343.out)) | (dsimp only; exact Nat.ne_of_lt (Nat.lt_of_lt_of_le (by have := World.block_lt_of_cell? _ _ hw341_4; first | rwa [add_block] at this | exact this) GW343.out))) _).trans (((cell_far (p := ⟨gb343, _, none⟩) (by first | exact Nat.ne_of_lt (Nat.lt_of_lt_of_le (by have := World.block_lt_of_cell? _ _ hw341_4; first | rwa [add_block] at this | exact this) GW343.out) | (rw [add_block]; exact Nat.ne_of_lt (Nat.lt_of_lt_of_le (by have := World.block_lt_of_cell? _ _ hw341_4; first | rwa [add_block] at this | exact this) GW343.out)) | (show (Addr.add _ _).block ≠ _; rw [add_block]; exact Nat.ne_of_lt (Nat.lt_of_lt_of_le (by have := World.block_lt_of_cell? _ _ hw341_4; first | rwa [add_block] at this | exact this) GW343.out)) | (dsimp only; exact Nat.ne_of_lt (Nat.lt_of_lt_of_le (by have := World.block_lt_of_cell? _ _ hw341_4; first | rwa [add_block] at this | exact this) GW343.out))) _).trans (((cell_far (p := ⟨gb343, _, none⟩) (by first | exact Nat.ne_of_lt (Nat.lt_of_lt_of_le (by have := World.block_lt_of_cell? _ _ hw341_4; first | rwa [add_block] at this | exact this) GW343.out) | (rw [add_block]; exact Nat.ne_of_lt (Nat.lt_of_lt_of_le (by have := World.block_lt_of_cell? _ _ hw341_4; first | rwa [add_block] at this | exact this) GW343.out)) | (show (Addr.add _ _).block ≠ _; rw [add_block]; exact Nat.ne_of_lt (Nat.lt_of_lt_of_le (by have := World.block_lt_of_cell? _ _ hw341_4; first | rwa [add_block] at this | exact this) GW343.out)) | (dsimp only; exact Nat.ne_of_lt (Nat.lt_of_lt_of_le (by have := World.block_lt_of_cell? _ _ hw341_4; first | rwa [add_block] at this | exact this) GW343.out))) _).trans (((cell_far (p := ⟨gb343, _, none⟩) (by first | exact Nat.ne_of_lt (Nat.lt_of_lt_of_le (by have := World.block_lt_of_cell? _ _ hw341_4; first | rwa [add_block] at this | exact this) GW343.out) | (rw [add_block]; exact Nat.ne_of_lt (Nat.lt_of_lt_of_le (by have := World.block_lt_of_cell? _ _ hw341_4; first | rwa [add_block] at this | exact this) GW343.out)) | (show (Addr.add _ _).block ≠ _; rw [add_block]; exact Nat.ne_of_lt (Nat.lt_of_lt_of_le (by have := World.block_lt_of_cell? _ _ hw341_4; first | rwa [add_block] at this | exact this) GW343.out)) | (dsimp only; exact Nat.ne_of_lt (Nat.lt_of_lt_of_le (by have := World.block_lt_of_cell? _ _ hw341_4; first | rwa [add_block] at this | exact this) GW343.out))) _).trans (((cell_far (p := ⟨gb343, _, none⟩) (by first | exact Nat.ne_of_lt (Nat.lt_of_lt_of_le (by have := World.block_lt_of_cell? _ _ hw341_4; first | rwa [add_block] at this | exact this) GW343.out) | (rw [add_block]; exact Nat.ne_of_lt (Nat.lt_of_lt_of_le (by have := World.block_lt_of_cell? _ _ hw341_4; first | rwa [add_block] at this | exact this) GW343.out)) | (show (Addr.add _ _).block ≠ _; rw [add_block]; exact Nat.ne_of_lt (Nat.lt_of_lt_of_le (by have := World.block_lt_of_cell? _ _ hw341_4; first | rwa [add_block] at this | exact this) GW343.out)) | (dsimp only; exact Nat.ne_of_lt (Nat.lt_of_lt_of_le (by have := World.block_lt_of_cell? _ _ hw341_4; first | rwa [add_block] at this | exact this) GW343.out))) _).trans (hHeld.2.2.2.2.2.2.1)))))))))))))))))), ((cell_far (p := ⟨gb343, _, none⟩) (by first | exact Nat.ne_of_lt (Nat.lt_of_lt_of_le (by have := World.block_lt_of_cell? _ _ hw341_5; first | rwa [add_block] at this | exact this) GW343.out) | (rw [add_block]; exact Nat.ne_of_lt (Nat.lt_of_lt_of_le (by have := World.block_lt_of_cell? _ _ hw341_5; first | rwa [add_block] at this | exact this) GW343.out)) | (show (Addr.add _ _).block ≠ _; rw [add_block]; exact Nat.ne_of_lt (Nat.lt_of_lt_of_le (by have := World.block_lt_of_cell? _ _ hw341_5; first | rwa [add_block] at this | exact this) GW343.out)) | (dsimp only; exact Nat.ne_of_lt (Nat.lt_of_lt_of_le (by have := World.block_lt_of_cell? _ _ hw341_5; first | rwa [add_block] at this | exact this) GW343.out))) _).trans (((cell_far (p := ⟨gb343, _, none⟩) (by first | exact Nat.ne_of_lt (Nat.lt_of_lt_of_le (by have := World.block_lt_of_cell? _ _ hw341_5; first | rwa [add_block] at this | exact this) GW343.out) | (rw [add_block]; exact Nat.ne_of_lt (Nat.lt_of_lt_of_le (by have := World.block_lt_of_cell? _ _ hw341_5; first | rwa [add_block] at this | exact this) GW343.out)) | (show (Addr.add _ _).block ≠ _; rw [add_block]; exact Nat.ne_of_lt (Nat.lt_of_lt_of_le (by have := World.block_lt_of_cell? _ _ hw341_5; first | rwa [add_block] at this | exact this) GW343.out)) | (dsimp only; exact Nat.ne_of_lt (Nat.lt_of_lt_of_le (by have := World.block_lt_of_cell? _ _ hw341_5; first | rwa [add_block] at this | exact this) GW343.out))) _).trans (((cell_far (p := ⟨gb343, _, none⟩) (by first | exact Nat.ne_of_lt (Nat.lt_of_lt_of_le (by have := World.block_lt_of_cell? _ _ hw341_5; first | rwa [add_block] at this | exact this) GW343.out) | (rw [add_block]; exact Nat.ne_of_lt (Nat.lt_of_lt_of_le (by have := World.block_lt_of_cell? _ _ hw341_5; first | rwa [add_block] at this | exact this) GW343.out)) | (show (Addr.add _ _).block ≠ _; rw [add_block]; exact Nat.ne_of_lt (Nat.lt_of_lt_of_le (by have := World.block_lt_of_cell? _ _ hw341_5; first | rwa [add_block] at this | exact this) GW343.out)) | (dsimp only; exact Nat.ne_of_lt (Nat.lt_of_lt_of_le (by have := World.block_lt_of_cell? _ _ hw341_5; first | rwa [add_block] at this | exact this) GW343.out))) _).trans (((cell_far (p := ⟨gb343, _, none⟩) (by first | exact Nat.ne_of_lt (Nat.lt_of_lt_of_le (by have := World.block_lt_of_cell? _ _ hw341_5; first | rwa [add_block] at this | exact this) GW343.out) | (rw [add_block]; exact Nat.ne_of_lt (Nat.lt_of_lt_of_le (by have := World.block_lt_of_cell? _ _ hw341_5; first | rwa [add_block] at this | exact this) GW343.out)) | (show (Addr.add _ _).block ≠ _; rw [add_block]; exact Nat.ne_of_lt (Nat.lt_of_lt_of_le (by have := World.block_lt_of_cell? _ _ hw341_5; first | rwa [add_block] at this | exact this) GW343.out)) | (dsimp only; exact Nat.ne_of_lt (Nat.lt_of_lt_of_le (by have := World.block_lt_of_cell? _ _ hw341_5; first | rwa [add_block] at this | exact this) GW343.out))) _).trans (((cell_far (p := ⟨gb343, _, none⟩) (by first | exact Nat.ne_of_lt (Nat.lt_of_lt_of_le (by have := World.block_lt_of_cell? _ _ hw341_5; first | rwa [add_block] at this | exact this) GW343.out) | (rw [add_block]; exact Nat.ne_of_lt (Nat.lt_of_lt_of_le (by have := World.block_lt_of_cell? _ _ hw341_5; first | rwa [add_block] at this | exact this) GW343.out)) | (show (Addr.add _ _).block ≠ _; rw [add_block]; exact Nat.ne_of_lt (Nat.lt_of_lt_of_le (by have := World.block_lt_of_cell? _ _ hw341_5; first | rwa [add_block] at this | exact this) GW343.out)) | (dsimp only; exact Nat.ne_of_lt (Nat.lt_of_lt_of_le (by have := World.block_lt_of_cell? _ _ hw341_5; first | rwa [add_block] at this | exact this) GW343.out))) _).trans (((cell_far (p := ⟨gb343, _, none⟩) (by first | exact Nat.ne_of_lt (Nat.lt_of_lt_of_le (by have := World.block_lt_of_cell? _ _ hw341_5; first | rwa [add_block] at this | exact this) GW343.out) | (rw [add_block]; exact Nat.ne_of_lt (Nat.lt_of_lt_of_le (by have := World.block_lt_of_cell? _ _ hw341_5; first | rwa [add_block] at this | exact this) GW343.out)) | (show (Addr.add _ _).block ≠ _; rw [add_block]; exact Nat.ne_of_lt (Nat.lt_of_lt_of_le (by have := World.block_lt_of_cell? _ _ hw341_5; first | rwa [add_block] at this | exact this) GW343.out)) | (dsimp only; exact Nat.ne_of_lt (Nat.lt_of_lt_of_le (by have := World.block_lt_of_cell? _ _ hw341_5; first | rwa [add_block] at this | exact this) GW343.out))) _).trans (((cell_far (p := ⟨gb343, _, none⟩) (by first | exact Nat.ne_of_lt (Nat.lt_of_lt_of_le (by have := World.block_lt_of_cell? _ _ hw341_5; first | rwa [add_block] at this | exact this) GW343.out) | (rw [add_block]; exact Nat.ne_of_lt (Nat.lt_of_lt_of_le (by have := World.block_lt_of_cell? _ _ hw341_5; first | rwa [add_block] at this | exact this) GW343.out)) | (show (Addr.add _ _).block ≠ _; rw [add_block]; exact Nat.ne_of_lt (Nat.lt_of_lt_of_le (by have := World.block_lt_of_cell? _ _ hw341_5; first | rwa [add_block] at this | exact this) GW343.out)) | (dsimp only; exact Nat.ne_of_lt (Nat.lt_of_lt_of_le (by have := World.block_lt_of_cell? _ _ hw341_5; first | rwa [add_block] at this | exact this) GW343.out))) _).trans (((cell_far (p := ⟨gb343, _, none⟩) (by first | exact Nat.ne_of_lt (Nat.lt_of_lt_of_le (by have := World.block_lt_of_cell? _ _ hw341_5; first | rwa [add_block] at this | exact this) GW343.out) | (rw [add_block]; exact Nat.ne_of_lt (Nat.lt_of_lt_of_le (by have := World.block_lt_of_cell? _ _ hw341_5; first | rwa [add_block] at this | exact this) GW343.out)) | (show (Addr.add _ _).block ≠ _; rw [add_block]; exact Nat.ne_of_lt (Nat.lt_of_lt_of_le (by have := World.block_lt_of_cell? _ _ hw341_5; first | rwa [add_block] at this | exact this) GW343.out)) | (dsimp only; exact Nat.ne_of_lt (Nat.lt_of_lt_of_le (by have := World.block_lt_of_cell? _ _ hw341_5; first | rwa [add_block] at this | exact this) GW343.out))) _).trans (((cell_far (p := ⟨gb343, _, none⟩) (by first | exact Nat.ne_of_lt (Nat.lt_of_lt_of_le (by have := World.block_lt_of_cell? _ _ hw341_5; first | rwa [add_block] at this | exact this) GW343.out) | (rw [add_block]; exact Nat.ne_of_lt (Nat.lt_of_lt_of_le (by have := World.block_lt_of_cell? _ _ hw341_5; first | rwa [add_block] at this | exact this) GW343.out)) | (show (Addr.add _ _).block ≠ _; rw [add_block]; exact Nat.ne_of_lt (Nat.lt_of_lt_of_le (by have := World.block_lt_of_cell? _ _ hw341_5; first | rwa [add_block] at this | exact this) GW343.out)) | (dsimp only; exact Nat.ne_of_lt (Nat.lt_of_lt_of_le (by have := World.block_lt_of_cell? _ _ hw341_5; first | rwa [add_block] at this | exact this) GW343.out))) _).trans (hHeld.2.2.2.2.2.2.2.1)))))))))))))))))), ((cell_far (p := ⟨gb343, _, none⟩) (by first | exact Nat.ne_of_lt (Nat.lt_of_lt_of_le (by have := World.block_lt_of_cell? _ _ hw341_6; first | rwa [add_block] at this | exact this) GW343.out) | (rw [add_block]; exact Nat.ne_of_lt (Nat.lt_of_lt_of_le (by have := World.block_lt_of_cell? _ _ hw341_6; first | rwa [add_block] at this | exact this) GW343.out)) | (show (Addr.add _ _).block ≠ _; rw [add_block]; exact Nat.ne_of_lt (Nat.lt_of_lt_of_le (by have := World.block_lt_of_cell? _ _ hw341_6; first | rwa [add_block] at this | exact this) GW343.out)) | (dsimp only; exact Nat.ne_of_lt (Nat.lt_of_lt_of_le (by have := World.block_lt_of_cell? _ _ hw341_6; first | rwa [add_block] at this | exact this) GW343.out))) _).trans (((cell_far (p := ⟨gb343, _, none⟩) (by first | exact Nat.ne_of_lt (Nat.lt_of_lt_of_le (by have := World.block_lt_of_cell? _ _ hw341_6; first | rwa [add_block] at this | exact this) GW343.out) | (rw [add_block]; exact Nat.ne_of_lt (Nat.lt_of_lt_of_le (by have := World.block_lt_of_cell? _ _ hw341_6; first | rwa [add_block] at this | exact this) GW343.out)) | (show (Addr.add _ _).block ≠ _; rw [add_block]; exact Nat.ne_of_lt (Nat.lt_of_lt_of_le (by have := World.block_lt_of_cell? _ _ hw341_6; first | rwa [add_block] at this | exact this) GW343.out)) | (dsimp only; exact Nat.ne_of_lt (Nat.lt_of_lt_of_le (by have := World.block_lt_of_cell? _ _ hw341_6; first | rwa [add_block] at this | exact this) GW343.out))) _).trans (((cell_far (p := ⟨gb343, _, none⟩) (by first | exact Nat.ne_of_lt (Nat.lt_of_lt_of_le (by have := World.block_lt_of_cell? _ _ hw341_6; first | rwa [add_block] at this | exact this) GW343.out) | (rw [add_block]; exact Nat.ne_of_lt (Nat.lt_of_lt_of_le (by have := World.block_lt_of_cell? _ _ hw341_6; first | rwa [add_block] at this | exact this) GW343.out)) | (show (Addr.add _ _).block ≠ _; rw [add_block]; exact Nat.ne_of_lt (Nat.lt_of_lt_of_le (by have := World.block_lt_of_cell? _ _ hw341_6; first | rwa [add_block] at this | exact this) GW343.out)) | (dsimp only; exact Nat.ne_of_lt (Nat.lt_of_lt_of_le (by have := World.block_lt_of_cell? _ _ hw341_6; first | rwa [add_block] at this | exact this) GW343.out))) _).trans (((cell_far (p := ⟨gb343, _, none⟩) (by first | exact Nat.ne_of_lt (Nat.lt_of_lt_of_le (by have := World.block_lt_of_cell? _ _ hw341_6; first | rwa [add_block] at this | exact this) GW343.out) | (rw [add_block]; exact Nat.ne_of_lt (Nat.lt_of_lt_of_le (by have := World.block_lt_of_cell? _ _ hw341_6; first | rwa [add_block] at this | exact this) GW343.out)) | (show (Addr.add _ _).block ≠ _; rw [add_block]; exact Nat.ne_of_lt (Nat.lt_of_lt_of_le (by have := World.block_lt_of_cell? _ _ hw341_6; first | rwa [add_block] at this | exact this) GW343.out)) | (dsimp only; exact Nat.ne_of_lt (Nat.lt_of_lt_of_le (by have := World.block_lt_of_cell? _ _ hw341_6; first | rwa [add_block] at this | exact this) GW343.out))) _).trans (((cell_far (p := ⟨gb343, _, none⟩) (by first | exact Nat.ne_of_lt (Nat.lt_of_lt_of_le (by have := World.block_lt_of_cell? _ _ hw341_6; first | rwa [add_block] at this | exact this) GW343.out) | (rw [add_block]; exact Nat.ne_of_lt (Nat.lt_of_lt_of_le (by have := World.block_lt_of_cell? _ _ hw341_6; first | rwa [add_block] at this | exact this) GW343.out)) | (show (Addr.add _ _).block ≠ _; rw [add_block]; exact Nat.ne_of_lt (Nat.lt_of_lt_of_le (by have := World.block_lt_of_cell? _ _ hw341_6; first | rwa [add_block] at this | exact this) GW343.out)) | (dsimp only; exact Nat.ne_of_lt (Nat.lt_of_lt_of_le (by have := World.block_lt_of_cell? _ _ hw341_6; first | rwa [add_block] at this | exact this) GW343.out))) _).trans (((cell_far (p := ⟨gb343, _, none⟩) (by first | exact Nat.ne_of_lt (Nat.lt_of_lt_of_le (by have := World.block_lt_of_cell? _ _ hw341_6; first | rwa [add_block] at this | exact this) GW343.out) | (rw [add_block]; exact Nat.ne_of_lt (Nat.lt_of_lt_of_le (by have := World.block_lt_of_cell? _ _ hw341_6; first | rwa [add_block] at this | exact this) GW343.out)) | (show (Addr.add _ _).block ≠ _; rw [add_block]; exact Nat.ne_of_lt (Nat.lt_of_lt_of_le (by have := World.block_lt_of_cell? _ _ hw341_6; first | rwa [add_block] at this | exact this) GW343.out)) | (dsimp only; exact Nat.ne_of_lt (Nat.lt_of_lt_of_le (by have := World.block_lt_of_cell? _ _ hw341_6; first | rwa [add_block] at this | exact this) GW343.out))) _).trans (((cell_far (p := ⟨gb343, _, none⟩) (by first | exact Nat.ne_of_lt (Nat.lt_of_lt_of_le (by have := World.block_lt_of_cell? _ _ hw341_6; first | rwa [add_block] at this | exact this) GW343.out) | (rw [add_block]; exact Nat.ne_of_lt (Nat.lt_of_lt_of_le (by have := World.block_lt_of_cell? _ _ hw341_6; first | rwa [add_block] at this | exact this) GW343.out)) | (show (Addr.add _ _).block ≠ _; rw [add_block]; exact Nat.ne_of_lt (Nat.lt_of_lt_of_le (by have := World.block_lt_of_cell? _ _ hw341_6; first | rwa [add_block] at this | exact this) GW343.out)) | (dsimp only; exact Nat.ne_of_lt (Nat.lt_of_lt_of_le (by have := World.block_lt_of_cell? _ _ hw341_6; first | rwa [add_block] at this | exact this) GW343.out))) _).trans (((cell_far (p := ⟨gb343, _, none⟩) (by first | exact Nat.ne_of_lt (Nat.lt_of_lt_of_le (by have := World.block_lt_of_cell? _ _ hw341_6; first | rwa [add_block] at this | exact this) GW343.out) | (rw [add_block]; exact Nat.ne_of_lt (Nat.lt_of_lt_of_le (by have := World.block_lt_of_cell? _ _ hw341_6; first | rwa [add_block] at this | exact this) GW343.out)) | (show (Addr.add _ _).block ≠ _; rw [add_block]; exact Nat.ne_of_lt (Nat.lt_of_lt_of_le (by have := World.block_lt_of_cell? _ _ hw341_6; first | rwa [add_block] at this | exact this) GW343.out)) | (dsimp only; exact Nat.ne_of_lt (Nat.lt_of_lt_of_le (by have := World.block_lt_of_cell? _ _ hw341_6; first | rwa [add_block] at this | exact this) GW343.out))) _).trans (((cell_far (p := ⟨gb343, _, none⟩) (by first | exact Nat.ne_of_lt (Nat.lt_of_lt_of_le (by have := World.block_lt_of_cell? _ _ hw341_6; first | rwa [add_block] at this | exact this) GW343.out) | (rw [add_block]; exact Nat.ne_of_lt (Nat.lt_of_lt_of_le (by have := World.block_lt_of_cell? _ _ hw341_6; first | rwa [add_block] at this | exact this) GW343.out)) | (show (Addr.add _ _).block ≠ _; rw [add_block]; exact Nat.ne_of_lt (Nat.lt_of_lt_of_le (by have := World.block_lt_of_cell? _ _ hw341_6; first | rwa [add_block] at this | exact this) GW343.out)) | (dsimp only; exact Nat.ne_of_lt (Nat.lt_of_lt_of_le (by have := World.block_lt_of_cell? _ _ hw341_6; first | rwa [add_block] at this | exact this) GW343.out))) _).trans (hHeld.2.2.2.2.2.2.2.2.1)))))))))))))))))), ((cell_far (p := ⟨gb343, _, none⟩) (by first | exact Nat.ne_of_lt (Nat.lt_of_lt_of_le (by have := World.block_lt_of_cell? _ _ hw341_7; first | rwa [add_block] at this | exact this) GW343.out) | (rw [add_block]; exact Nat.ne_of_lt (Nat.lt_of_lt_of_le (by have := World.block_lt_of_cell? _ _ hw341_7; first | rwa [add_block] at this | exact this) GW343.out)) | (show (Addr.add _ _).block ≠ _; rw [add_block]; exact Nat.ne_of_lt (Nat.lt_of_lt_of_le (by have := World.block_lt_of_cell? _ _ hw341_7; first | rwa [add_block] at this | exact this) GW343.out)) | (dsimp only; exact Nat.ne_of_lt (Nat.lt_of_lt_of_le (by have := World.block_lt_of_cell? _ _ hw341_7; first | rwa [add_block] at this | exact this) GW343.out))) _).trans (((cell_far (p := ⟨gb343, _, none⟩) (by first | exact Nat.ne_of_lt (Nat.lt_of_lt_of_le (by have := World.block_lt_of_cell? _ _ hw341_7; first | rwa [add_block] at this | exact this) GW343.out) | (rw [add_block]; exact Nat.ne_of_lt (Nat.lt_of_lt_of_le (by have := World.block_lt_of_cell? _ _ hw341_7; first | rwa [add_block] at this | exact this) GW343.out)) | (show (Addr.add _ _).block ≠ _; rw [add_block]; exact Nat.ne_of_lt (Nat.lt_of_lt_of_le (by have := World.block_lt_of_cell? _ _ hw341_7; first | rwa [add_block] at this | exact this) GW343.out)) | (dsimp only; exact Nat.ne_of_lt (Nat.lt_of_lt_of_le (by have := World.block_lt_of_cell? _ _ hw341_7; first | rwa [add_block] at this | exact this) GW343.out))) _).trans (((cell_far (p := ⟨gb343, _, none⟩) (by first | exact Nat.ne_of_lt (Nat.lt_of_lt_of_le (by have := World.block_lt_of_cell? _ _ hw341_7; first | rwa [add_block] at this | exact this) GW343.out) | (rw [add_block]; exact Nat.ne_of_lt (Nat.lt_of_lt_of_le (by have := World.block_lt_of_cell? _ _ hw341_7; first | rwa [add_block] at this | exact this) GW343.out)) | (show (Addr.add _ _).block ≠ _; rw [add_block]; exact Nat.ne_of_lt (Nat.lt_of_lt_of_le (by have := World.block_lt_of_cell? _ _ hw341_7; first | rwa [add_block] at this | exact this) GW343.out)) | (dsimp only; exact Nat.ne_of_lt (Nat.lt_of_lt_of_le (by have := World.block_lt_of_cell? _ _ hw341_7; first | rwa [add_block] at this | exact this) GW343.out))) _).trans (((cell_far (p := ⟨gb343, _, none⟩) (by first | exact Nat.ne_of_lt (Nat.lt_of_lt_of_le (by have := World.block_lt_of_cell? _ _ hw341_7; first | rwa [add_block] at this | exact this) GW343.out) | (rw [add_block]; exact Nat.ne_of_lt (Nat.lt_of_lt_of_le (by have := World.block_lt_of_cell? _ _ hw341_7; first | rwa [add_block] at this | exact this) GW343.out)) | (show (Addr.add _ _).block ≠ _; rw [add_block]; exact Nat.ne_of_lt (Nat.lt_of_lt_of_le (by have := World.block_lt_of_cell? _ _ hw341_7; first | rwa [add_block] at this | exact this) GW343.out)) | (dsimp only; exact Nat.ne_of_lt (Nat.lt_of_lt_of_le (by have := World.block_lt_of_cell? _ _ hw341_7; first | rwa [add_block] at this | exact this) GW343.out))) _).trans (((cell_far (p := ⟨gb343, _, none⟩) (by first | exact Nat.ne_of_lt (Nat.lt_of_lt_of_le (by have := World.block_lt_of_cell? _ _ hw341_7; first | rwa [add_block] at this | exact this) GW343.out) | (rw [add_block]; exact Nat.ne_of_lt (Nat.lt_of_lt_of_le (by have := World.block_lt_of_cell? _ _ hw341_7; first | rwa [add_block] at this | exact this) GW343.out)) | (show (Addr.add _ _).block ≠ _; rw [add_block]; exact Nat.ne_of_lt (Nat.lt_of_lt_of_le (by have := World.block_lt_of_cell? _ _ hw341_7; first | rwa [add_block] at this | exact this) GW343.out)) | (dsimp only; exact Nat.ne_of_lt (Nat.lt_of_lt_of_le (by have := World.block_lt_of_cell? _ _ hw341_7; first | rwa [add_block] at this | exact this) GW343.out))) _).trans (((cell_far (p := ⟨gb343, _, none⟩) (by first | exact Nat.ne_of_lt (Nat.lt_of_lt_of_le (by have := World.block_lt_of_cell? _ _ hw341_7; first | rwa [add_block] at this | exact this) GW343.out) | (rw [add_block]; exact Nat.ne_of_lt (Nat.lt_of_lt_of_le (by have := World.block_lt_of_cell? _ _ hw341_7; first | rwa [add_block] at this | exact this) GW343.out)) | (show (Addr.add _ _).block ≠ _; rw [add_block]; exact Nat.ne_of_lt (Nat.lt_of_lt_of_le (by have := World.block_lt_of_cell? _ _ hw341_7; first | rwa [add_block] at this | exact this) GW343.out)) | (dsimp only; exact Nat.ne_of_lt (Nat.lt_of_lt_of_le (by have := World.block_lt_of_cell? _ _ hw341_7; first | rwa [add_block] at this | exact this) GW343.out))) _).trans (((cell_far (p := ⟨gb343, _, none⟩) (by first | exact Nat.ne_of_lt (Nat.lt_of_lt_of_le (by have := World.block_lt_of_cell? _ _ hw341_7; first | rwa [add_block] at this | exact this) GW343.out) | (rw [add_block]; exact Nat.ne_of_lt (Nat.lt_of_lt_of_le (by have := World.block_lt_of_cell? _ _ hw341_7; first | rwa [add_block] at this | exact this) GW343.out)) | (show (Addr.add _ _).block ≠ _; rw [add_block]; exact Nat.ne_of_lt (Nat.lt_of_lt_of_le (by have := World.block_lt_of_cell? _ _ hw341_7; first | rwa [add_block] at this | exact this) GW343.out)) | (dsimp only; exact Nat.ne_of_lt (Nat.lt_of_lt_of_le (by have := World.block_lt_of_cell? _ _ hw341_7; first | rwa [add_block] at this | exact this) GW343.out))) _).trans (((cell_far (p := ⟨gb343, _, none⟩) (by first | exact Nat.ne_of_lt (Nat.lt_of_lt_of_le (by have := World.block_lt_of_cell? _ _ hw341_7; first | rwa [add_block] at this | exact this) GW343.out) | (rw [add_block]; exact Nat.ne_of_lt (Nat.lt_of_lt_of_le (by have := World.block_lt_of_cell? _ _ hw341_7; first | rwa [add_block] at this | exact this) GW343.out)) | (show (Addr.add _ _).block ≠ _; rw [add_block]; exact Nat.ne_of_lt (Nat.lt_of_lt_of_le (by have := World.block_lt_of_cell? _ _ hw341_7; first | rwa [add_block] at this | exact this) GW343.out)) | (dsimp only; exact Nat.ne_of_lt (Nat.lt_of_lt_of_le (by have := World.block_lt_of_cell? _ _ hw341_7; first | rwa [add_block] at this | exact this) GW343.out))) _).trans (((cell_far (p := ⟨gb343, _, none⟩) (by first | exact Nat.ne_of_lt (Nat.lt_of_lt_of_le (by have := World.block_lt_of_cell? _ _ hw341_7; first | rwa [add_block] at this | exact this) GW343.out) | (rw [add_block]; exact Nat.ne_of_lt (Nat.lt_of_lt_of_le (by have := World.block_lt_of_cell? _ _ hw341_7; first | rwa [add_block] at this | exact this) GW343.out)) | (show (Addr.add _ _).block ≠ _; rw [add_block]; exact Nat.ne_of_lt (Nat.lt_of_lt_of_le (by have := World.block_lt_of_cell? _ _ hw341_7; first | rwa [add_block] at this | exact this) GW343.out)) | (dsimp only; exact Nat.ne_of_lt (Nat.lt_of_lt_of_le (by have := World.block_lt_of_cell? _ _ hw341_7; first | rwa [add_block] at this | exact this) GW343.out))) _).trans (hHeld.2.2.2.2.2.2.2.2.2.1)))))))))))))))))), ((cell_far (p := ⟨gb343, _, none⟩) (by first | exact Nat.ne_of_lt (Nat.lt_of_lt_of_le (by have := World.block_lt_of_cell? _ _ hw341_8; first | rwa [add_block] at this | exact this) GW343.out) | (rw [add_block]; exact Nat.ne_of_lt (Nat.lt_of_lt_of_le (by have := World.block_lt_of_cell? _ _ hw341_8; first | rwa [add_block] at this | exact this) GW343.out)) | (show (Addr.add _ _).block ≠ _; rw [add_block]; exact Nat.ne_of_lt (Nat.lt_of_lt_of_le (by have := World.block_lt_of_cell? _ _ hw341_8; first | rwa [add_block] at this | exact this) GW343.out)) | (dsimp only; exact Nat.ne_of_lt (Nat.lt_of_lt_of_le (by have := World.block_lt_of_cell? _ _ hw341_8; first | rwa [add_block] at this | exact this) GW343.out))) _).trans (((cell_far (p := ⟨gb343, _, none⟩) (by first | exact Nat.ne_of_lt (Nat.lt_of_lt_of_le (by have := World.block_lt_of_cell? _ _ hw341_8; first | rwa [add_block] at this | exact this) GW343.out) | (rw [add_block]; exact Nat.ne_of_lt (Nat.lt_of_lt_of_le (by have := World.block_lt_of_cell? _ _ hw341_8; first | rwa [add_block] at this | exact this) GW343.out)) | (show (Addr.add _ _).block ≠ _; rw [add_block]; exact Nat.ne_of_lt (Nat.lt_of_lt_of_le (by have := World.block_lt_of_cell? _ _ hw341_8; first | rwa [add_block] at this | exact this) GW343.out)) | (dsimp only; exact Nat.ne_of_lt (Nat.lt_of_lt_of_le (by have := World.block_lt_of_cell? _ _ hw341_8; first | rwa [add_block] at this | exact this) GW343.out))) _).trans (((cell_far (p := ⟨gb343, _, none⟩) (by first | exact Nat.ne_of_lt (Nat.lt_of_lt_of_le (by have := World.block_lt_of_cell? _ _ hw341_8; first | rwa [add_block] at this | exact this) GW343.out) | (rw [add_block]; exact Nat.ne_of_lt (Nat.lt_of_lt_of_le (by have := World.block_lt_of_cell? _ _ hw341_8; first | rwa [add_block] at this | exact this) GW343.out)) | (show (Addr.add _ _).block ≠ _; rw [add_block]; exact Nat.ne_of_lt (Nat.lt_of_lt_of_le (by have := World.block_lt_of_cell? _ _ hw341_8; first | rwa [add_block] at this | exact this) GW343.out)) | (dsimp only; exact Nat.ne_of_lt (Nat.lt_of_lt_of_le (by have := World.block_lt_of_cell? _ _ hw341_8; first | rwa [add_block] at this | exact this) GW343.out))) _).trans (((cell_far (p := ⟨gb343, _, none⟩) (by first | exact Nat.ne_of_lt (Nat.lt_of_lt_of_le (by have := World.block_lt_of_cell? _ _ hw341_8; first | rwa [add_block] at this | exact this) GW343.out) | (rw [add_block]; exact Nat.ne_of_lt (Nat.lt_of_lt_of_le (by have := World.block_lt_of_cell? _ _ hw341_8; first | rwa [add_block] at this | exact this) GW343.out)) | (show (Addr.add _ _).block ≠ _; rw [add_block]; exact Nat.ne_of_lt (Nat.lt_of_lt_of_le (by have := World.block_lt_of_cell? _ _ hw341_8; first | rwa [add_block] at this | exact this) GW343.out)) | (dsimp only; exact Nat.ne_of_lt (Nat.lt_of_lt_of_le (by have := World.block_lt_of_cell? _ _ hw341_8; first | rwa [add_block] at this | exact this) GW343.out))) _).trans (((cell_far (p := ⟨gb343, _, none⟩) (by first | exact Nat.ne_of_lt (Nat.lt_of_lt_of_le (by have := World.block_lt_of_cell? _ _ hw341_8; first | rwa [add_block] at this | exact this) GW343.out) | (rw [add_block]; exact Nat.ne_of_lt (Nat.lt_of_lt_of_le (by have := World.block_lt_of_cell? _ _ hw341_8; first | rwa [add_block] at this | exact this) GW343.out)) | (show (Addr.add _ _).block ≠ _; rw [add_block]; exact Nat.ne_of_lt (Nat.lt_of_lt_of_le (by have := World.block_lt_of_cell? _ _ hw341_8; first | rwa [add_block] at this | exact this) GW343.out)) | (dsimp only; exact Nat.ne_of_lt (Nat.lt_of_lt_of_le (by have := World.block_lt_of_cell? _ _ hw341_8; first | rwa [add_block] at this | exact this) GW343.out))) _).trans (((cell_far (p := ⟨gb343, _, none⟩) (by first | exact Nat.ne_of_lt (Nat.lt_of_lt_of_le (by have := World.block_lt_of_cell? _ _ hw341_8; first | rwa [add_block] at this | exact this) GW343.out) | (rw [add_block]; exact Nat.ne_of_lt (Nat.lt_of_lt_of_le (by have := World.block_lt_of_cell? _ _ hw341_8; first | rwa [add_block] at this | exact this) GW343.out)) | (show (Addr.add _ _).block ≠ _; rw [add_block]; exact Nat.ne_of_lt (Nat.lt_of_lt_of_le (by have := World.block_lt_of_cell? _ _ hw341_8; first | rwa [add_block] at this | exact this) GW343.out)) | (dsimp only; exact Nat.ne_of_lt (Nat.lt_of_lt_of_le (by have := World.block_lt_of_cell? _ _ hw341_8; first | rwa [add_block] at this | exact this) GW343.out))) _).trans (((cell_far (p := ⟨gb343, _, none⟩) (by first | exact Nat.ne_of_lt (Nat.lt_of_lt_of_le (by have := World.block_lt_of_cell? _ _ hw341_8; first | rwa [add_block] at this | exact this) GW343.out) | (rw [add_block]; exact Nat.ne_of_lt (Nat.lt_of_lt_of_le (by have := World.block_lt_of_cell? _ _ hw341_8; first | rwa [add_block] at this | exact this) GW343.out)) | (show (Addr.add _ _).block ≠ _; rw [add_block]; exact Nat.ne_of_lt (Nat.lt_of_lt_of_le (by have := World.block_lt_of_cell? _ _ hw341_8; first | rwa [add_block] at this | exact this) GW343.out)) | (dsimp only; exact Nat.ne_of_lt (Nat.lt_of_lt_of_le (by have := World.block_lt_of_cell? _ _ hw341_8; first | rwa [add_block] at this | exact this) GW343.out))) _).trans (((cell_far (p := ⟨gb343, _, none⟩) (by first | exact Nat.ne_of_lt (Nat.lt_of_lt_of_le (by have := World.block_lt_of_cell? _ _ hw341_8; first | rwa [add_block] at this | exact this) GW343.out) | (rw [add_block]; exact Nat.ne_of_lt (Nat.lt_of_lt_of_le (by have := World.block_lt_of_cell? _ _ hw341_8; first | rwa [add_block] at this | exact this) GW343.out)) | (show (Addr.add _ _).block ≠ _; rw [add_block]; exact Nat.ne_of_lt (Nat.lt_of_lt_of_le (by have := World.block_lt_of_cell? _ _ hw341_8; first | rwa [add_block] at this | exact this) GW343.out)) | (dsimp only; exact Nat.ne_of_lt (Nat.lt_of_lt_of_le (by have := World.block_lt_of_cell? _ _ hw341_8; first | rwa [add_block] at this | exact this) GW343.out))) _).trans (((cell_far (p := ⟨gb343, _, none⟩) (by first | exact Nat.ne_of_lt (Nat.lt_of_lt_of_le (by have := World.block_lt_of_cell? _ _ hw341_8; first | rwa [add_block] at this | exact this) GW343.out) | (rw [add_block]; exact Nat.ne_of_lt (Nat.lt_of_lt_of_le (by have := World.block_lt_of_cell? _ _ hw341_8; first | rwa [add_block] at this | exact this) GW343.out)) | (show (Addr.add _ _).block ≠ _; rw [add_block]; exact Nat.ne_of_lt (Nat.lt_of_lt_of_le (by have := World.block_lt_of_cell? _ _ hw341_8; first | rwa [add_block] at this | exact this) GW343.out)) | (dsimp only; exact Nat.ne_of_lt (Nat.lt_of_lt_of_le (by have := World.block_lt_of_cell? _ _ hw341_8; first | rwa [add_block] at this | exact this) GW343.out))) _).trans (hHeld.2.2.2.2.2.2.2.2.2.2))))))))))))))))))⟩ (fun hHeld => ?_)
            clear hK K
            refine pure_ (i := 10) (N := some 8) (v := ?_) (a' := ?_) #[true, true, true, true, true, true, true, true, true, true, true] rfl rfl (any_of HT_.out (by kernel_rfl)) (fun _ _ _ h => h) (Or.inl ⟨by rfl, ?_⟩) ?_ ?_
            rotate_left; · intro w'; go_simp; with_reducible rfl
            rotate_left; · simp only [Act.put, List.setIfInBounds_toArray, List.set_cons_zero, List.set_cons_succ, i64_w, i32_w]; rfl
            refine done_ (done_of HT_.out (by kernel_rfl)) ?_
            have hnb29 := NB343_340.out
            have hnc29 := NB340_343.out
            have hcz30_0 : w19.cell? ⟨gb343, 0, none⟩ = some (.string (⟨#[]⟩ : ByteArray)) := (blk_cell BK343.out 0).trans rfl
            have hcz30_1 : w19.cell? ⟨gb343, 1, none⟩ = some (.int .i64 0) := (blk_cell BK343.out 1).trans rfl
            have hcz30_2 : w19.cell? ⟨gb343, 2, none⟩ = some (.int .i64 0) := (blk_cell BK343.out 2).trans rfl
            have hcz30_3 : w19.cell? ⟨gb343, 3, none⟩ = some (.int .i64 0) := (blk_cell BK343.out 3).trans rfl
            have hcz30_4 : w19.cell? ⟨gb343, 4, none⟩ = some (.int .i64 0) := (blk_cell BK343.out 4).trans rfl
            have hcz30_5 : w19.cell? ⟨gb343, 5, none⟩ = some (.int .i64 0) := (blk_cell BK343.out 5).trans rfl
            have hcz30_6 : w19.cell? ⟨gb343, 6, none⟩ = some (.slice none 0 0) := (blk_cell BK343.out 6).trans rfl
            have hcz30_7 : w19.cell? ⟨gb343, 7, none⟩ = some (.int .u64 0) := (blk_cell BK343.out 7).trans rfl
            have hcz30_8 : w19.cell? ⟨gb343, 8, none⟩ = some (.int .u64 0) := (blk_cell BK343.out 8).trans rfl
            have hfz30_0 := blk_frozen BK343.out 0
            have hfz30_1 := blk_frozen BK343.out 1
            have hfz30_2 := blk_frozen BK343.out 2
            have hfz30_3 := blk_frozen BK343.out 3
            have hfz30_4 := blk_frozen BK343.out 4
            have hfz30_5 := blk_frozen BK343.out 5
            have hfz30_6 := blk_frozen BK343.out 6
            have hfz30_7 := blk_frozen BK343.out 7
            have hfz30_8 := blk_frozen BK343.out 8
            by_cases c14 : ((rd_T38 l0_1 a1).f3) = 0
            · rw [if_pos c14] at H
              have c14b0 : (((rd_T38 l0_1 a1).f3) == 0) = true := beq_iff_eq.mpr c14
              have c14b1 : (((rd_T38 l0_1 a1).f3) != 0) = false := bne_eq_false_iff_eq.mpr c14
              clear c14
              replace H := Option.bind_eq_some_iff.mp H
              obtain ⟨t345, A150, H⟩ := H
              replace H : (some (wrap64 ((wrap64 (t345 + t342)) - 1))) = some r := H
              have A15 := Aside0.mk A150
              clear A150
              obtain rfl := Option.some.inj H
              try go_wp2_with (first | ((with_reducible refine gate_callee (f := 30) rfl ?_); refine goesL_ (some 33) rfl rfl Try.func30 (by kernel_rfl) rfl #[.agg #[.string ((rd_T38 l0_1 a1).f0), .int .i64 ((rd_T38 l0_1 a1).f1), .int .i64 ((rd_T38 l0_1 a1).f2), .int .i64 ((rd_T38 l0_1 a1).f3), .int .i64 ((rd_T38 l0_1 a1).f4), .int .i64 ((rd_T38 l0_1 a1).f5), .slice A341_6 ((rd_T38 l0_1 a1).f6).length c341_6, .int .u64 ((rd_T38 l0_1 a1).f7), .int .u64 ((rd_T38 l0_1 a1).f8)]] rfl (by (try simp only [List.map_toArray, List.map_cons, List.map_nil]); first | done | rfl | (simp only [List.length_drop, List.length_take]; rfl)) ?_; (with_reducible refine (task_Work.calls kj3 ((rd_T38 l0_1 a1).f0) ((rd_T38 l0_1 a1).f1) ((rd_T38 l0_1 a1).f2) ((rd_T38 l0_1 a1).f3) ((rd_T38 l0_1 a1).f4) ((rd_T38 l0_1 a1).f5) _ _ ((rd_T38 l0_1 a1).f6) ((rd_T38 l0_1 a1).f7) ((rd_T38 l0_1 a1).f8) t344 _ ?side1 ?side2 A13.out).mono ?_); (case side1 => exact Kd.C_below HR341_6.out (by repeat (first | (with_reducible first | exact HB.out | apply below_alloc | apply pw_below_drewN | apply below_drew1 | refine below_set ?_ GE340.out | refine below_set ?_ GE343.out) | exact HB.out))); (case side2 => exact HC341_6.out); rintro e w31 ⟨rfl, hb⟩; refine ⟨_, rfl, ?_⟩; have n0_ := Aside0.mk (blk_below (g := gb340) (o := .cells #[.int .i64 a0_0, .slice (some ad341) l0_1.length c0_1] 24 (0, 0)) (by (with_reducible repeat (first | refine blk_drewN ?_ _ | refine blk_drew ?_ | refine blk_alloc ?_ _)); refine blk_far ?_ NB340_343.out _; (with_reducible repeat (first | refine blk_drewN ?_ _ | refine blk_drew ?_ | refine blk_alloc ?_ _)); refine blk_far ?_ NB340_343.out _; (with_reducible repeat (first | refine blk_drewN ?_ _ | refine blk_drew ?_ | refine blk_alloc ?_ _)); refine blk_far ?_ NB340_343.out _; (with_reducible repeat (first | refine blk_drewN ?_ _ | refine blk_drew ?_ | refine blk_alloc ?_ _)); refine blk_far ?_ NB340_343.out _; (with_reducible repeat (first | refine blk_drewN ?_ _ | refine blk_drew ?_ | refine blk_alloc ?_ _)); refine blk_far ?_ NB340_343.out _; (with_reducible repeat (first | refine blk_drewN ?_ _ | refine blk_drew ?_ | refine blk_alloc ?_ _)); refine blk_far ?_ NB340_343.out _; (with_reducible repeat (first | refine blk_drewN ?_ _ | refine blk_drew ?_ | refine blk_alloc ?_ _)); refine blk_far ?_ NB340_343.out _; (with_reducible repeat (first | refine blk_drewN ?_ _ | refine blk_drew ?_ | refine blk_alloc ?_ _)); refine blk_far ?_ NB340_343.out _; (with_reducible repeat (first | refine blk_drewN ?_ _ | refine blk_drew ?_ | refine blk_alloc ?_ _)); refine blk_far ?_ NB340_343.out _; (with_reducible repeat (first | refine blk_drewN ?_ _ | refine blk_drew ?_ | refine blk_alloc ?_ _)); exact BK340.out) hb); have n1_ := Aside0.mk (blk_below (g := gb343) (o := .cells #[.string ((rd_T38 l0_1 a1).f0), .int .i64 ((rd_T38 l0_1 a1).f1), .int .i64 ((rd_T38 l0_1 a1).f2), .int .i64 ((rd_T38 l0_1 a1).f3), .int .i64 ((rd_T38 l0_1 a1).f4), .int .i64 ((rd_T38 l0_1 a1).f5), .slice A341_6 ((rd_T38 l0_1 a1).f6).length c341_6, .int .u64 ((rd_T38 l0_1 a1).f7), .int .u64 ((rd_T38 l0_1 a1).f8)] 38 (0, 0)) (by (with_reducible repeat (first | refine blk_drewN ?_ _ | refine blk_drew ?_ | refine blk_alloc ?_ _)); refine blk_put (cs := #[.string ((rd_T38 l0_1 a1).f0), .int .i64 ((rd_T38 l0_1 a1).f1), .int .i64 ((rd_T38 l0_1 a1).f2), .int .i64 ((rd_T38 l0_1 a1).f3), .int .i64 ((rd_T38 l0_1 a1).f4), .int .i64 ((rd_T38 l0_1 a1).f5), .slice A341_6 ((rd_T38 l0_1 a1).f6).length c341_6, .int .u64 ((rd_T38 l0_1 a1).f7), .int .u64 0]) ?_ 8 _ rfl; (with_reducible repeat (first | refine blk_drewN ?_ _ | refine blk_drew ?_ | refine blk_alloc ?_ _)); refine blk_put (cs := #[.string ((rd_T38 l0_1 a1).f0), .int .i64 ((rd_T38 l0_1 a1).f1), .int .i64 ((rd_T38 l0_1 a1).f2), .int .i64 ((rd_T38 l0_1 a1).f3), .int .i64 ((rd_T38 l0_1 a1).f4), .int .i64 ((rd_T38 l0_1 a1).f5), .slice A341_6 ((rd_T38 l0_1 a1).f6).length c341_6, .int .u64 0, .int .u64 0]) ?_ 7 _ rfl; (with_reducible repeat (first | refine blk_drewN ?_ _ | refine blk_drew ?_ | refine blk_alloc ?_ _)); refine blk_put (cs := #[.string ((rd_T38 l0_1 a1).f0), .int .i64 ((rd_T38 l0_1 a1).f1), .int .i64 ((rd_T38 l0_1 a1).f2), .int .i64 ((rd_T38 l0_1 a1).f3), .int .i64 ((rd_T38 l0_1 a1).f4), .int .i64 ((rd_T38 l0_1 a1).f5), .slice none 0 0, .int .u64 0, .int .u64 0]) ?_ 6 _ rfl; (with_reducible repeat (first | refine blk_drewN ?_ _ | refine blk_drew ?_ | refine blk_alloc ?_ _)); refine blk_put (cs := #[.string ((rd_T38 l0_1 a1).f0), .int .i64 ((rd_T38 l0_1 a1).f1), .int .i64 ((rd_T38 l0_1 a1).f2), .int .i64 ((rd_T38 l0_1 a1).f3), .int .i64 ((rd_T38 l0_1 a1).f4), .int .i64 0, .slice none 0 0, .int .u64 0, .int .u64 0]) ?_ 5 _ rfl; (with_reducible repeat (first | refine blk_drewN ?_ _ | refine blk_drew ?_ | refine blk_alloc ?_ _)); refine blk_put (cs := #[.string ((rd_T38 l0_1 a1).f0), .int .i64 ((rd_T38 l0_1 a1).f1), .int .i64 ((rd_T38 l0_1 a1).f2), .int .i64 ((rd_T38 l0_1 a1).f3), .int .i64 0, .int .i64 0, .slice none 0 0, .int .u64 0, .int .u64 0]) ?_ 4 _ rfl; (with_reducible repeat (first | refine blk_drewN ?_ _ | refine blk_drew ?_ | refine blk_alloc ?_ _)); refine blk_put (cs := #[.string ((rd_T38 l0_1 a1).f0), .int .i64 ((rd_T38 l0_1 a1).f1), .int .i64 ((rd_T38 l0_1 a1).f2), .int .i64 0, .int .i64 0, .int .i64 0, .slice none 0 0, .int .u64 0, .int .u64 0]) ?_ 3 _ rfl; (with_reducible repeat (first | refine blk_drewN ?_ _ | refine blk_drew ?_ | refine blk_alloc ?_ _)); refine blk_put (cs := #[.string ((rd_T38 l0_1 a1).f0), .int .i64 ((rd_T38 l0_1 a1).f1), .int .i64 0, .int .i64 0, .int .i64 0, .int .i64 0, .slice none 0 0, .int .u64 0, .int .u64 0]) ?_ 2 _ rfl; (with_reducible repeat (first | refine blk_drewN ?_ _ | refine blk_drew ?_ | refine blk_alloc ?_ _)); refine blk_put (cs := #[.string ((rd_T38 l0_1 a1).f0), .int .i64 0, .int .i64 0, .int .i64 0, .int .i64 0, .int .i64 0, .slice none 0 0, .int .u64 0, .int .u64 0]) ?_ 1 _ rfl; (with_reducible repeat (first | refine blk_drewN ?_ _ | refine blk_drew ?_ | refine blk_alloc ?_ _)); refine blk_put (cs := #[.string (⟨#[]⟩ : ByteArray), .int .i64 0, .int .i64 0, .int .i64 0, .int .i64 0, .int .i64 0, .slice none 0 0, .int .u64 0, .int .u64 0]) ?_ 0 _ rfl; (with_reducible repeat (first | refine blk_drewN ?_ _ | refine blk_drew ?_ | refine blk_alloc ?_ _)); exact BK343.out) hb); have n2_ := Aside0.mk (below_step (by repeat (first | (with_reducible first | exact HB.out | apply below_alloc | apply pw_below_drewN | apply below_drew1 | refine below_set ?_ GE340.out | refine below_set ?_ GE343.out) | exact HB.out)) hb); clear BK340; clear BK343; clear HB; have BK340 := n0_; have BK343 := n1_; have HB := n2_; clear n0_ n1_ n2_; (try clear hb); (try clear hb2); (try clear hk); (try clear hi); have hcz32_0 : w31.cell? ⟨gb343, 0, none⟩ = some (.string ((rd_T38 l0_1 a1).f0)) := (blk_cell BK343.out 0).trans rfl; have hcz32_1 : w31.cell? ⟨gb343, 1, none⟩ = some (.int .i64 ((rd_T38 l0_1 a1).f1)) := (blk_cell BK343.out 1).trans rfl; have hcz32_2 : w31.cell? ⟨gb343, 2, none⟩ = some (.int .i64 ((rd_T38 l0_1 a1).f2)) := (blk_cell BK343.out 2).trans rfl; have hcz32_3 : w31.cell? ⟨gb343, 3, none⟩ = some (.int .i64 ((rd_T38 l0_1 a1).f3)) := (blk_cell BK343.out 3).trans rfl; have hcz32_4 : w31.cell? ⟨gb343, 4, none⟩ = some (.int .i64 ((rd_T38 l0_1 a1).f4)) := (blk_cell BK343.out 4).trans rfl; have hcz32_5 : w31.cell? ⟨gb343, 5, none⟩ = some (.int .i64 ((rd_T38 l0_1 a1).f5)) := (blk_cell BK343.out 5).trans rfl; have hcz32_6 : w31.cell? ⟨gb343, 6, none⟩ = some (.slice A341_6 ((rd_T38 l0_1 a1).f6).length c341_6) := (blk_cell BK343.out 6).trans rfl; have hcz32_7 : w31.cell? ⟨gb343, 7, none⟩ = some (.int .u64 ((rd_T38 l0_1 a1).f7)) := (blk_cell BK343.out 7).trans rfl; have hcz32_8 : w31.cell? ⟨gb343, 8, none⟩ = some (.int .u64 ((rd_T38 l0_1 a1).f8)) := (blk_cell BK343.out 8).trans rfl; have hfz32_0 := blk_frozen BK343.out 0; have hfz32_1 := blk_frozen BK343.out 1; have hfz32_2 := blk_frozen BK343.out 2; have hfz32_3 := blk_frozen BK343.out 3; have hfz32_4 := blk_frozen BK343.out 4; have hfz32_5 := blk_frozen BK343.out 5; have hfz32_6 := blk_frozen BK343.out 6; have hfz32_7 := blk_frozen BK343.out 7; have hfz32_8 := blk_frozen BK343.out 8) | ((with_reducible refine gate_callee (f := 65) rfl ?_); refine goesL_ (some 43) rfl rfl Try.func65 (by kernel_rfl) rfl #[.slice A341_6 ((rd_T38 l0_1 a1).f6).length c341_6] rfl (by (try simp only [List.map_toArray, List.map_cons, List.map_nil]); first | done | rfl | (simp only [List.length_drop, List.length_take]; rfl)) ?_; (with_reducible refine (slices_Max_int64_int64.calls _ _ ((rd_T38 l0_1 a1).f6) t345 _ ?side1 ?side2 A15.out).mono ?_); (case side1 => repeat (first | exact (Kd.C_below HR341_6.out HB.out) | (with_reducible refine Kd.C_alloc ?_ _) | (with_reducible refine Kd.C_drewN ?_ _) | (with_reducible refine Kd.C_drew ?_))); (case side2 => exact HC341_6.out); rintro e w' ⟨rfl, ⟨nd, rfl⟩⟩; refine ⟨_, rfl, ?_⟩))
              go_ret
              exact ⟨by first | rfl | (simp [errW_none, errW_some] <;> rfl) | (simp [*, errW_none, errW_some] <;> rfl), by repeat (first | (with_reducible first | exact HB.out | apply below_alloc | apply pw_below_drewN | apply below_drew1 | refine below_set ?_ GE340.out | refine below_set ?_ GE343.out) | exact HB.out)⟩
            · rw [if_neg c14] at H
              have c14b0 : (((rd_T38 l0_1 a1).f3) == 0) = false := beq_eq_false_iff_ne.mpr c14
              have c14b1 : (((rd_T38 l0_1 a1).f3) != 0) = true := bne_iff_ne.mpr c14
              by_cases c33 : ((rd_T38 l0_1 a1).f3) = 1
              · rw [if_pos c33] at H
                have c33b0 : (((rd_T38 l0_1 a1).f3) == 1) = true := beq_iff_eq.mpr c33
                have c33b1 : (((rd_T38 l0_1 a1).f3) != 1) = false := bne_eq_false_iff_eq.mpr c33
                clear c33
                obtain ⟨ji34, hji34⟩ : ∃ j_ : Int, (mn ((rd_T38 l0_1 a1).f4) (wrap64 ((wrap64 (t344 + t342)) - 1))) = j_ := ⟨_, rfl⟩
                replace H : (some ji34) = some r := by first | (rw [hji34] at H; exact H) | (simp only [hji34] at H ⊢; exact H)
                (try rw [hji34] at A12)
                (try rw [hji34] at A13)
                have hji34_ : (if (wrap64 ((wrap64 (t344 + t342)) - 1)) < ((rd_T38 l0_1 a1).f4) then (wrap64 ((wrap64 (t344 + t342)) - 1)) else ((rd_T38 l0_1 a1).f4)) = ji34 := hji34
                obtain rfl := Option.some.inj H
                try go_wp2_with (first | ((with_reducible refine gate_callee (f := 30) rfl ?_); refine goesL_ (some 33) rfl rfl Try.func30 (by kernel_rfl) rfl #[.agg #[.string ((rd_T38 l0_1 a1).f0), .int .i64 ((rd_T38 l0_1 a1).f1), .int .i64 ((rd_T38 l0_1 a1).f2), .int .i64 ((rd_T38 l0_1 a1).f3), .int .i64 ((rd_T38 l0_1 a1).f4), .int .i64 ((rd_T38 l0_1 a1).f5), .slice A341_6 ((rd_T38 l0_1 a1).f6).length c341_6, .int .u64 ((rd_T38 l0_1 a1).f7), .int .u64 ((rd_T38 l0_1 a1).f8)]] rfl (by (try simp only [List.map_toArray, List.map_cons, List.map_nil]); first | done | rfl | (simp only [List.length_drop, List.length_take]; rfl)) ?_; (with_reducible refine (task_Work.calls kj3 ((rd_T38 l0_1 a1).f0) ((rd_T38 l0_1 a1).f1) ((rd_T38 l0_1 a1).f2) ((rd_T38 l0_1 a1).f3) ((rd_T38 l0_1 a1).f4) ((rd_T38 l0_1 a1).f5) _ _ ((rd_T38 l0_1 a1).f6) ((rd_T38 l0_1 a1).f7) ((rd_T38 l0_1 a1).f8) t344 _ ?side1 ?side2 A13.out).mono ?_); (case side1 => exact Kd.C_below HR341_6.out (by repeat (first | (with_reducible first | exact HB.out | apply below_alloc | apply pw_below_drewN | apply below_drew1 | refine below_set ?_ GE340.out | refine below_set ?_ GE343.out) | exact HB.out))); (case side2 => exact HC341_6.out); rintro e w50 ⟨rfl, hb⟩; refine ⟨_, rfl, ?_⟩; have n0_ := Aside0.mk (blk_below (g := gb340) (o := .cells #[.int .i64 a0_0, .slice (some ad341) l0_1.length c0_1] 24 (0, 0)) (by (with_reducible repeat (first | refine blk_drewN ?_ _ | refine blk_drew ?_ | refine blk_alloc ?_ _)); refine blk_far ?_ NB340_343.out _; (with_reducible repeat (first | refine blk_drewN ?_ _ | refine blk_drew ?_ | refine blk_alloc ?_ _)); refine blk_far ?_ NB340_343.out _; (with_reducible repeat (first | refine blk_drewN ?_ _ | refine blk_drew ?_ | refine blk_alloc ?_ _)); refine blk_far ?_ NB340_343.out _; (with_reducible repeat (first | refine blk_drewN ?_ _ | refine blk_drew ?_ | refine blk_alloc ?_ _)); refine blk_far ?_ NB340_343.out _; (with_reducible repeat (first | refine blk_drewN ?_ _ | refine blk_drew ?_ | refine blk_alloc ?_ _)); refine blk_far ?_ NB340_343.out _; (with_reducible repeat (first | refine blk_drewN ?_ _ | refine blk_drew ?_ | refine blk_alloc ?_ _)); refine blk_far ?_ NB340_343.out _; (with_reducible repeat (first | refine blk_drewN ?_ _ | refine blk_drew ?_ | refine blk_alloc ?_ _)); refine blk_far ?_ NB340_343.out _; (with_reducible repeat (first | refine blk_drewN ?_ _ | refine blk_drew ?_ | refine blk_alloc ?_ _)); refine blk_far ?_ NB340_343.out _; (with_reducible repeat (first | refine blk_drewN ?_ _ | refine blk_drew ?_ | refine blk_alloc ?_ _)); refine blk_far ?_ NB340_343.out _; (with_reducible repeat (first | refine blk_drewN ?_ _ | refine blk_drew ?_ | refine blk_alloc ?_ _)); exact BK340.out) hb); have n1_ := Aside0.mk (blk_below (g := gb343) (o := .cells #[.string ((rd_T38 l0_1 a1).f0), .int .i64 ((rd_T38 l0_1 a1).f1), .int .i64 ((rd_T38 l0_1 a1).f2), .int .i64 ((rd_T38 l0_1 a1).f3), .int .i64 ((rd_T38 l0_1 a1).f4), .int .i64 ((rd_T38 l0_1 a1).f5), .slice A341_6 ((rd_T38 l0_1 a1).f6).length c341_6, .int .u64 ((rd_T38 l0_1 a1).f7), .int .u64 ((rd_T38 l0_1 a1).f8)] 38 (0, 0)) (by (with_reducible repeat (first | refine blk_drewN ?_ _ | refine blk_drew ?_ | refine blk_alloc ?_ _)); refine blk_put (cs := #[.string ((rd_T38 l0_1 a1).f0), .int .i64 ((rd_T38 l0_1 a1).f1), .int .i64 ((rd_T38 l0_1 a1).f2), .int .i64 ((rd_T38 l0_1 a1).f3), .int .i64 ((rd_T38 l0_1 a1).f4), .int .i64 ((rd_T38 l0_1 a1).f5), .slice A341_6 ((rd_T38 l0_1 a1).f6).length c341_6, .int .u64 ((rd_T38 l0_1 a1).f7), .int .u64 0]) ?_ 8 _ rfl; (with_reducible repeat (first | refine blk_drewN ?_ _ | refine blk_drew ?_ | refine blk_alloc ?_ _)); refine blk_put (cs := #[.string ((rd_T38 l0_1 a1).f0), .int .i64 ((rd_T38 l0_1 a1).f1), .int .i64 ((rd_T38 l0_1 a1).f2), .int .i64 ((rd_T38 l0_1 a1).f3), .int .i64 ((rd_T38 l0_1 a1).f4), .int .i64 ((rd_T38 l0_1 a1).f5), .slice A341_6 ((rd_T38 l0_1 a1).f6).length c341_6, .int .u64 0, .int .u64 0]) ?_ 7 _ rfl; (with_reducible repeat (first | refine blk_drewN ?_ _ | refine blk_drew ?_ | refine blk_alloc ?_ _)); refine blk_put (cs := #[.string ((rd_T38 l0_1 a1).f0), .int .i64 ((rd_T38 l0_1 a1).f1), .int .i64 ((rd_T38 l0_1 a1).f2), .int .i64 ((rd_T38 l0_1 a1).f3), .int .i64 ((rd_T38 l0_1 a1).f4), .int .i64 ((rd_T38 l0_1 a1).f5), .slice none 0 0, .int .u64 0, .int .u64 0]) ?_ 6 _ rfl; (with_reducible repeat (first | refine blk_drewN ?_ _ | refine blk_drew ?_ | refine blk_alloc ?_ _)); refine blk_put (cs := #[.string ((rd_T38 l0_1 a1).f0), .int .i64 ((rd_T38 l0_1 a1).f1), .int .i64 ((rd_T38 l0_1 a1).f2), .int .i64 ((rd_T38 l0_1 a1).f3), .int .i64 ((rd_T38 l0_1 a1).f4), .int .i64 0, .slice none 0 0, .int .u64 0, .int .u64 0]) ?_ 5 _ rfl; (with_reducible repeat (first | refine blk_drewN ?_ _ | refine blk_drew ?_ | refine blk_alloc ?_ _)); refine blk_put (cs := #[.string ((rd_T38 l0_1 a1).f0), .int .i64 ((rd_T38 l0_1 a1).f1), .int .i64 ((rd_T38 l0_1 a1).f2), .int .i64 ((rd_T38 l0_1 a1).f3), .int .i64 0, .int .i64 0, .slice none 0 0, .int .u64 0, .int .u64 0]) ?_ 4 _ rfl; (with_reducible repeat (first | refine blk_drewN ?_ _ | refine blk_drew ?_ | refine blk_alloc ?_ _)); refine blk_put (cs := #[.string ((rd_T38 l0_1 a1).f0), .int .i64 ((rd_T38 l0_1 a1).f1), .int .i64 ((rd_T38 l0_1 a1).f2), .int .i64 0, .int .i64 0, .int .i64 0, .slice none 0 0, .int .u64 0, .int .u64 0]) ?_ 3 _ rfl; (with_reducible repeat (first | refine blk_drewN ?_ _ | refine blk_drew ?_ | refine blk_alloc ?_ _)); refine blk_put (cs := #[.string ((rd_T38 l0_1 a1).f0), .int .i64 ((rd_T38 l0_1 a1).f1), .int .i64 0, .int .i64 0, .int .i64 0, .int .i64 0, .slice none 0 0, .int .u64 0, .int .u64 0]) ?_ 2 _ rfl; (with_reducible repeat (first | refine blk_drewN ?_ _ | refine blk_drew ?_ | refine blk_alloc ?_ _)); refine blk_put (cs := #[.string ((rd_T38 l0_1 a1).f0), .int .i64 0, .int .i64 0, .int .i64 0, .int .i64 0, .int .i64 0, .slice none 0 0, .int .u64 0, .int .u64 0]) ?_ 1 _ rfl; (with_reducible repeat (first | refine blk_drewN ?_ _ | refine blk_drew ?_ | refine blk_alloc ?_ _)); refine blk_put (cs := #[.string (⟨#[]⟩ : ByteArray), .int .i64 0, .int .i64 0, .int .i64 0, .int .i64 0, .int .i64 0, .slice none 0 0, .int .u64 0, .int .u64 0]) ?_ 0 _ rfl; (with_reducible repeat (first | refine blk_drewN ?_ _ | refine blk_drew ?_ | refine blk_alloc ?_ _)); exact BK343.out) hb); have n2_ := Aside0.mk (below_step (by repeat (first | (with_reducible first | exact HB.out | apply below_alloc | apply pw_below_drewN | apply below_drew1 | refine below_set ?_ GE340.out | refine below_set ?_ GE343.out) | exact HB.out)) hb); clear BK340; clear BK343; clear HB; have BK340 := n0_; have BK343 := n1_; have HB := n2_; clear n0_ n1_ n2_; (try clear hb); (try clear hb2); (try clear hk); (try clear hi); have hcz51_0 : w50.cell? ⟨gb343, 0, none⟩ = some (.string ((rd_T38 l0_1 a1).f0)) := (blk_cell BK343.out 0).trans rfl; have hcz51_1 : w50.cell? ⟨gb343, 1, none⟩ = some (.int .i64 ((rd_T38 l0_1 a1).f1)) := (blk_cell BK343.out 1).trans rfl; have hcz51_2 : w50.cell? ⟨gb343, 2, none⟩ = some (.int .i64 ((rd_T38 l0_1 a1).f2)) := (blk_cell BK343.out 2).trans rfl; have hcz51_3 : w50.cell? ⟨gb343, 3, none⟩ = some (.int .i64 ((rd_T38 l0_1 a1).f3)) := (blk_cell BK343.out 3).trans rfl; have hcz51_4 : w50.cell? ⟨gb343, 4, none⟩ = some (.int .i64 ((rd_T38 l0_1 a1).f4)) := (blk_cell BK343.out 4).trans rfl; have hcz51_5 : w50.cell? ⟨gb343, 5, none⟩ = some (.int .i64 ((rd_T38 l0_1 a1).f5)) := (blk_cell BK343.out 5).trans rfl; have hcz51_6 : w50.cell? ⟨gb343, 6, none⟩ = some (.slice A341_6 ((rd_T38 l0_1 a1).f6).length c341_6) := (blk_cell BK343.out 6).trans rfl; have hcz51_7 : w50.cell? ⟨gb343, 7, none⟩ = some (.int .u64 ((rd_T38 l0_1 a1).f7)) := (blk_cell BK343.out 7).trans rfl; have hcz51_8 : w50.cell? ⟨gb343, 8, none⟩ = some (.int .u64 ((rd_T38 l0_1 a1).f8)) := (blk_cell BK343.out 8).trans rfl; have hfz51_0 := blk_frozen BK343.out 0; have hfz51_1 := blk_frozen BK343.out 1; have hfz51_2 := blk_frozen BK343.out 2; have hfz51_3 := blk_frozen BK343.out 3; have hfz51_4 := blk_frozen BK343.out 4; have hfz51_5 := blk_frozen BK343.out 5; have hfz51_6 := blk_frozen BK343.out 6; have hfz51_7 := blk_frozen BK343.out 7; have hfz51_8 := blk_frozen BK343.out 8))
                go_ret
                exact ⟨by first | rfl | (simp [errW_none, errW_some] <;> rfl) | (simp only [← hji34]; first | rfl | (simp [errW_none, errW_some] <;> rfl)) | (simp [*, errW_none, errW_some] <;> rfl), by repeat (first | (with_reducible first | exact HB.out | apply below_alloc | apply pw_below_drewN | apply below_drew1 | refine below_set ?_ GE340.out | refine below_set ?_ GE343.out) | exact HB.out)⟩
              · rw [if_neg c33] at H
                have c33b0 : (((rd_T38 l0_1 a1).f3) == 1) = false := beq_eq_false_iff_ne.mpr c33
                have c33b1 : (((rd_T38 l0_1 a1).f3) != 1) = true := bne_iff_ne.mpr c33
                by_cases c52 : ((rd_T38 l0_1 a1).f5) ≤ a2
                · rw [if_pos c52] at H
                  have c52b0 : decide (((rd_T38 l0_1 a1).f5) ≤ a2) = true := decide_eq_true c52
                  clear c52
                  obtain rfl := Option.some.inj H
                  try go_wp2_with (first | ((with_reducible refine gate_callee (f := 30) rfl ?_); refine goesL_ (some 33) rfl rfl Try.func30 (by kernel_rfl) rfl #[.agg #[.string ((rd_T38 l0_1 a1).f0), .int .i64 ((rd_T38 l0_1 a1).f1), .int .i64 ((rd_T38 l0_1 a1).f2), .int .i64 ((rd_T38 l0_1 a1).f3), .int .i64 ((rd_T38 l0_1 a1).f4), .int .i64 ((rd_T38 l0_1 a1).f5), .slice A341_6 ((rd_T38 l0_1 a1).f6).length c341_6, .int .u64 ((rd_T38 l0_1 a1).f7), .int .u64 ((rd_T38 l0_1 a1).f8)]] rfl (by (try simp only [List.map_toArray, List.map_cons, List.map_nil]); first | done | rfl | (simp only [List.length_drop, List.length_take]; rfl)) ?_; (with_reducible refine (task_Work.calls kj3 ((rd_T38 l0_1 a1).f0) ((rd_T38 l0_1 a1).f1) ((rd_T38 l0_1 a1).f2) ((rd_T38 l0_1 a1).f3) ((rd_T38 l0_1 a1).f4) ((rd_T38 l0_1 a1).f5) _ _ ((rd_T38 l0_1 a1).f6) ((rd_T38 l0_1 a1).f7) ((rd_T38 l0_1 a1).f8) t344 _ ?side1 ?side2 A13.out).mono ?_); (case side1 => exact Kd.C_below HR341_6.out (by repeat (first | (with_reducible first | exact HB.out | apply below_alloc | apply pw_below_drewN | apply below_drew1 | refine below_set ?_ GE340.out | refine below_set ?_ GE343.out) | exact HB.out))); (case side2 => exact HC341_6.out); rintro e w68 ⟨rfl, hb⟩; refine ⟨_, rfl, ?_⟩; have n0_ := Aside0.mk (blk_below (g := gb340) (o := .cells #[.int .i64 a0_0, .slice (some ad341) l0_1.length c0_1] 24 (0, 0)) (by (with_reducible repeat (first | refine blk_drewN ?_ _ | refine blk_drew ?_ | refine blk_alloc ?_ _)); refine blk_far ?_ NB340_343.out _; (with_reducible repeat (first | refine blk_drewN ?_ _ | refine blk_drew ?_ | refine blk_alloc ?_ _)); refine blk_far ?_ NB340_343.out _; (with_reducible repeat (first | refine blk_drewN ?_ _ | refine blk_drew ?_ | refine blk_alloc ?_ _)); refine blk_far ?_ NB340_343.out _; (with_reducible repeat (first | refine blk_drewN ?_ _ | refine blk_drew ?_ | refine blk_alloc ?_ _)); refine blk_far ?_ NB340_343.out _; (with_reducible repeat (first | refine blk_drewN ?_ _ | refine blk_drew ?_ | refine blk_alloc ?_ _)); refine blk_far ?_ NB340_343.out _; (with_reducible repeat (first | refine blk_drewN ?_ _ | refine blk_drew ?_ | refine blk_alloc ?_ _)); refine blk_far ?_ NB340_343.out _; (with_reducible repeat (first | refine blk_drewN ?_ _ | refine blk_drew ?_ | refine blk_alloc ?_ _)); refine blk_far ?_ NB340_343.out _; (with_reducible repeat (first | refine blk_drewN ?_ _ | refine blk_drew ?_ | refine blk_alloc ?_ _)); refine blk_far ?_ NB340_343.out _; (with_reducible repeat (first | refine blk_drewN ?_ _ | refine blk_drew ?_ | refine blk_alloc ?_ _)); refine blk_far ?_ NB340_343.out _; (with_reducible repeat (first | refine blk_drewN ?_ _ | refine blk_drew ?_ | refine blk_alloc ?_ _)); exact BK340.out) hb); have n1_ := Aside0.mk (blk_below (g := gb343) (o := .cells #[.string ((rd_T38 l0_1 a1).f0), .int .i64 ((rd_T38 l0_1 a1).f1), .int .i64 ((rd_T38 l0_1 a1).f2), .int .i64 ((rd_T38 l0_1 a1).f3), .int .i64 ((rd_T38 l0_1 a1).f4), .int .i64 ((rd_T38 l0_1 a1).f5), .slice A341_6 ((rd_T38 l0_1 a1).f6).length c341_6, .int .u64 ((rd_T38 l0_1 a1).f7), .int .u64 ((rd_T38 l0_1 a1).f8)] 38 (0, 0)) (by (with_reducible repeat (first | refine blk_drewN ?_ _ | refine blk_drew ?_ | refine blk_alloc ?_ _)); refine blk_put (cs := #[.string ((rd_T38 l0_1 a1).f0), .int .i64 ((rd_T38 l0_1 a1).f1), .int .i64 ((rd_T38 l0_1 a1).f2), .int .i64 ((rd_T38 l0_1 a1).f3), .int .i64 ((rd_T38 l0_1 a1).f4), .int .i64 ((rd_T38 l0_1 a1).f5), .slice A341_6 ((rd_T38 l0_1 a1).f6).length c341_6, .int .u64 ((rd_T38 l0_1 a1).f7), .int .u64 0]) ?_ 8 _ rfl; (with_reducible repeat (first | refine blk_drewN ?_ _ | refine blk_drew ?_ | refine blk_alloc ?_ _)); refine blk_put (cs := #[.string ((rd_T38 l0_1 a1).f0), .int .i64 ((rd_T38 l0_1 a1).f1), .int .i64 ((rd_T38 l0_1 a1).f2), .int .i64 ((rd_T38 l0_1 a1).f3), .int .i64 ((rd_T38 l0_1 a1).f4), .int .i64 ((rd_T38 l0_1 a1).f5), .slice A341_6 ((rd_T38 l0_1 a1).f6).length c341_6, .int .u64 0, .int .u64 0]) ?_ 7 _ rfl; (with_reducible repeat (first | refine blk_drewN ?_ _ | refine blk_drew ?_ | refine blk_alloc ?_ _)); refine blk_put (cs := #[.string ((rd_T38 l0_1 a1).f0), .int .i64 ((rd_T38 l0_1 a1).f1), .int .i64 ((rd_T38 l0_1 a1).f2), .int .i64 ((rd_T38 l0_1 a1).f3), .int .i64 ((rd_T38 l0_1 a1).f4), .int .i64 ((rd_T38 l0_1 a1).f5), .slice none 0 0, .int .u64 0, .int .u64 0]) ?_ 6 _ rfl; (with_reducible repeat (first | refine blk_drewN ?_ _ | refine blk_drew ?_ | refine blk_alloc ?_ _)); refine blk_put (cs := #[.string ((rd_T38 l0_1 a1).f0), .int .i64 ((rd_T38 l0_1 a1).f1), .int .i64 ((rd_T38 l0_1 a1).f2), .int .i64 ((rd_T38 l0_1 a1).f3), .int .i64 ((rd_T38 l0_1 a1).f4), .int .i64 0, .slice none 0 0, .int .u64 0, .int .u64 0]) ?_ 5 _ rfl; (with_reducible repeat (first | refine blk_drewN ?_ _ | refine blk_drew ?_ | refine blk_alloc ?_ _)); refine blk_put (cs := #[.string ((rd_T38 l0_1 a1).f0), .int .i64 ((rd_T38 l0_1 a1).f1), .int .i64 ((rd_T38 l0_1 a1).f2), .int .i64 ((rd_T38 l0_1 a1).f3), .int .i64 0, .int .i64 0, .slice none 0 0, .int .u64 0, .int .u64 0]) ?_ 4 _ rfl; (with_reducible repeat (first | refine blk_drewN ?_ _ | refine blk_drew ?_ | refine blk_alloc ?_ _)); refine blk_put (cs := #[.string ((rd_T38 l0_1 a1).f0), .int .i64 ((rd_T38 l0_1 a1).f1), .int .i64 ((rd_T38 l0_1 a1).f2), .int .i64 0, .int .i64 0, .int .i64 0, .slice none 0 0, .int .u64 0, .int .u64 0]) ?_ 3 _ rfl; (with_reducible repeat (first | refine blk_drewN ?_ _ | refine blk_drew ?_ | refine blk_alloc ?_ _)); refine blk_put (cs := #[.string ((rd_T38 l0_1 a1).f0), .int .i64 ((rd_T38 l0_1 a1).f1), .int .i64 0, .int .i64 0, .int .i64 0, .int .i64 0, .slice none 0 0, .int .u64 0, .int .u64 0]) ?_ 2 _ rfl; (with_reducible repeat (first | refine blk_drewN ?_ _ | refine blk_drew ?_ | refine blk_alloc ?_ _)); refine blk_put (cs := #[.string ((rd_T38 l0_1 a1).f0), .int .i64 0, .int .i64 0, .int .i64 0, .int .i64 0, .int .i64 0, .slice none 0 0, .int .u64 0, .int .u64 0]) ?_ 1 _ rfl; (with_reducible repeat (first | refine blk_drewN ?_ _ | refine blk_drew ?_ | refine blk_alloc ?_ _)); refine blk_put (cs := #[.string (⟨#[]⟩ : ByteArray), .int .i64 0, .int .i64 0, .int .i64 0, .int .i64 0, .int .i64 0, .slice none 0 0, .int .u64 0, .int .u64 0]) ?_ 0 _ rfl; (with_reducible repeat (first | refine blk_drewN ?_ _ | refine blk_drew ?_ | refine blk_alloc ?_ _)); exact BK343.out) hb); have n2_ := Aside0.mk (below_step (by repeat (first | (with_reducible first | exact HB.out | apply below_alloc | apply pw_below_drewN | apply below_drew1 | refine below_set ?_ GE340.out | refine below_set ?_ GE343.out) | exact HB.out)) hb); clear BK340; clear BK343; clear HB; have BK340 := n0_; have BK343 := n1_; have HB := n2_; clear n0_ n1_ n2_; (try clear hb); (try clear hb2); (try clear hk); (try clear hi); have hcz69_0 : w68.cell? ⟨gb343, 0, none⟩ = some (.string ((rd_T38 l0_1 a1).f0)) := (blk_cell BK343.out 0).trans rfl; have hcz69_1 : w68.cell? ⟨gb343, 1, none⟩ = some (.int .i64 ((rd_T38 l0_1 a1).f1)) := (blk_cell BK343.out 1).trans rfl; have hcz69_2 : w68.cell? ⟨gb343, 2, none⟩ = some (.int .i64 ((rd_T38 l0_1 a1).f2)) := (blk_cell BK343.out 2).trans rfl; have hcz69_3 : w68.cell? ⟨gb343, 3, none⟩ = some (.int .i64 ((rd_T38 l0_1 a1).f3)) := (blk_cell BK343.out 3).trans rfl; have hcz69_4 : w68.cell? ⟨gb343, 4, none⟩ = some (.int .i64 ((rd_T38 l0_1 a1).f4)) := (blk_cell BK343.out 4).trans rfl; have hcz69_5 : w68.cell? ⟨gb343, 5, none⟩ = some (.int .i64 ((rd_T38 l0_1 a1).f5)) := (blk_cell BK343.out 5).trans rfl; have hcz69_6 : w68.cell? ⟨gb343, 6, none⟩ = some (.slice A341_6 ((rd_T38 l0_1 a1).f6).length c341_6) := (blk_cell BK343.out 6).trans rfl; have hcz69_7 : w68.cell? ⟨gb343, 7, none⟩ = some (.int .u64 ((rd_T38 l0_1 a1).f7)) := (blk_cell BK343.out 7).trans rfl; have hcz69_8 : w68.cell? ⟨gb343, 8, none⟩ = some (.int .u64 ((rd_T38 l0_1 a1).f8)) := (blk_cell BK343.out 8).trans rfl; have hfz69_0 := blk_frozen BK343.out 0; have hfz69_1 := blk_frozen BK343.out 1; have hfz69_2 := blk_frozen BK343.out 2; have hfz69_3 := blk_frozen BK343.out 3; have hfz69_4 := blk_frozen BK343.out 4; have hfz69_5 := blk_frozen BK343.out 5; have hfz69_6 := blk_frozen BK343.out 6; have hfz69_7 := blk_frozen BK343.out 7; have hfz69_8 := blk_frozen BK343.out 8))
                  go_ret
                  exact ⟨by first | rfl | (simp [errW_none, errW_some] <;> rfl) | (simp [*, errW_none, errW_some] <;> rfl), by repeat (first | (with_reducible first | exact HB.out | apply below_alloc | apply pw_below_drewN | apply below_drew1 | refine below_set ?_ GE340.out | refine below_set ?_ GE343.out) | exact HB.out)⟩
                · rw [if_neg c52] at H
                  have c52b0 : decide (((rd_T38 l0_1 a1).f5) ≤ a2) = false := decide_eq_false c52
                  clear c52
                  obtain rfl := Option.some.inj H
                  try go_wp2_with (first | ((with_reducible refine gate_callee (f := 30) rfl ?_); refine goesL_ (some 33) rfl rfl Try.func30 (by kernel_rfl) rfl #[.agg #[.string ((rd_T38 l0_1 a1).f0), .int .i64 ((rd_T38 l0_1 a1).f1), .int .i64 ((rd_T38 l0_1 a1).f2), .int .i64 ((rd_T38 l0_1 a1).f3), .int .i64 ((rd_T38 l0_1 a1).f4), .int .i64 ((rd_T38 l0_1 a1).f5), .slice A341_6 ((rd_T38 l0_1 a1).f6).length c341_6, .int .u64 ((rd_T38 l0_1 a1).f7), .int .u64 ((rd_T38 l0_1 a1).f8)]] rfl (by (try simp only [List.map_toArray, List.map_cons, List.map_nil]); first | done | rfl | (simp only [List.length_drop, List.length_take]; rfl)) ?_; (with_reducible refine (task_Work.calls kj3 ((rd_T38 l0_1 a1).f0) ((rd_T38 l0_1 a1).f1) ((rd_T38 l0_1 a1).f2) ((rd_T38 l0_1 a1).f3) ((rd_T38 l0_1 a1).f4) ((rd_T38 l0_1 a1).f5) _ _ ((rd_T38 l0_1 a1).f6) ((rd_T38 l0_1 a1).f7) ((rd_T38 l0_1 a1).f8) t344 _ ?side1 ?side2 A13.out).mono ?_); (case side1 => exact Kd.C_below HR341_6.out (by repeat (first | (with_reducible first | exact HB.out | apply below_alloc | apply pw_below_drewN | apply below_drew1 | refine below_set ?_ GE340.out | refine below_set ?_ GE343.out) | exact HB.out))); (case side2 => exact HC341_6.out); rintro e w85 ⟨rfl, hb⟩; refine ⟨_, rfl, ?_⟩; have n0_ := Aside0.mk (blk_below (g := gb340) (o := .cells #[.int .i64 a0_0, .slice (some ad341) l0_1.length c0_1] 24 (0, 0)) (by (with_reducible repeat (first | refine blk_drewN ?_ _ | refine blk_drew ?_ | refine blk_alloc ?_ _)); refine blk_far ?_ NB340_343.out _; (with_reducible repeat (first | refine blk_drewN ?_ _ | refine blk_drew ?_ | refine blk_alloc ?_ _)); refine blk_far ?_ NB340_343.out _; (with_reducible repeat (first | refine blk_drewN ?_ _ | refine blk_drew ?_ | refine blk_alloc ?_ _)); refine blk_far ?_ NB340_343.out _; (with_reducible repeat (first | refine blk_drewN ?_ _ | refine blk_drew ?_ | refine blk_alloc ?_ _)); refine blk_far ?_ NB340_343.out _; (with_reducible repeat (first | refine blk_drewN ?_ _ | refine blk_drew ?_ | refine blk_alloc ?_ _)); refine blk_far ?_ NB340_343.out _; (with_reducible repeat (first | refine blk_drewN ?_ _ | refine blk_drew ?_ | refine blk_alloc ?_ _)); refine blk_far ?_ NB340_343.out _; (with_reducible repeat (first | refine blk_drewN ?_ _ | refine blk_drew ?_ | refine blk_alloc ?_ _)); refine blk_far ?_ NB340_343.out _; (with_reducible repeat (first | refine blk_drewN ?_ _ | refine blk_drew ?_ | refine blk_alloc ?_ _)); refine blk_far ?_ NB340_343.out _; (with_reducible repeat (first | refine blk_drewN ?_ _ | refine blk_drew ?_ | refine blk_alloc ?_ _)); refine blk_far ?_ NB340_343.out _; (with_reducible repeat (first | refine blk_drewN ?_ _ | refine blk_drew ?_ | refine blk_alloc ?_ _)); exact BK340.out) hb); have n1_ := Aside0.mk (blk_below (g := gb343) (o := .cells #[.string ((rd_T38 l0_1 a1).f0), .int .i64 ((rd_T38 l0_1 a1).f1), .int .i64 ((rd_T38 l0_1 a1).f2), .int .i64 ((rd_T38 l0_1 a1).f3), .int .i64 ((rd_T38 l0_1 a1).f4), .int .i64 ((rd_T38 l0_1 a1).f5), .slice A341_6 ((rd_T38 l0_1 a1).f6).length c341_6, .int .u64 ((rd_T38 l0_1 a1).f7), .int .u64 ((rd_T38 l0_1 a1).f8)] 38 (0, 0)) (by (with_reducible repeat (first | refine blk_drewN ?_ _ | refine blk_drew ?_ | refine blk_alloc ?_ _)); refine blk_put (cs := #[.string ((rd_T38 l0_1 a1).f0), .int .i64 ((rd_T38 l0_1 a1).f1), .int .i64 ((rd_T38 l0_1 a1).f2), .int .i64 ((rd_T38 l0_1 a1).f3), .int .i64 ((rd_T38 l0_1 a1).f4), .int .i64 ((rd_T38 l0_1 a1).f5), .slice A341_6 ((rd_T38 l0_1 a1).f6).length c341_6, .int .u64 ((rd_T38 l0_1 a1).f7), .int .u64 0]) ?_ 8 _ rfl; (with_reducible repeat (first | refine blk_drewN ?_ _ | refine blk_drew ?_ | refine blk_alloc ?_ _)); refine blk_put (cs := #[.string ((rd_T38 l0_1 a1).f0), .int .i64 ((rd_T38 l0_1 a1).f1), .int .i64 ((rd_T38 l0_1 a1).f2), .int .i64 ((rd_T38 l0_1 a1).f3), .int .i64 ((rd_T38 l0_1 a1).f4), .int .i64 ((rd_T38 l0_1 a1).f5), .slice A341_6 ((rd_T38 l0_1 a1).f6).length c341_6, .int .u64 0, .int .u64 0]) ?_ 7 _ rfl; (with_reducible repeat (first | refine blk_drewN ?_ _ | refine blk_drew ?_ | refine blk_alloc ?_ _)); refine blk_put (cs := #[.string ((rd_T38 l0_1 a1).f0), .int .i64 ((rd_T38 l0_1 a1).f1), .int .i64 ((rd_T38 l0_1 a1).f2), .int .i64 ((rd_T38 l0_1 a1).f3), .int .i64 ((rd_T38 l0_1 a1).f4), .int .i64 ((rd_T38 l0_1 a1).f5), .slice none 0 0, .int .u64 0, .int .u64 0]) ?_ 6 _ rfl; (with_reducible repeat (first | refine blk_drewN ?_ _ | refine blk_drew ?_ | refine blk_alloc ?_ _)); refine blk_put (cs := #[.string ((rd_T38 l0_1 a1).f0), .int .i64 ((rd_T38 l0_1 a1).f1), .int .i64 ((rd_T38 l0_1 a1).f2), .int .i64 ((rd_T38 l0_1 a1).f3), .int .i64 ((rd_T38 l0_1 a1).f4), .int .i64 0, .slice none 0 0, .int .u64 0, .int .u64 0]) ?_ 5 _ rfl; (with_reducible repeat (first | refine blk_drewN ?_ _ | refine blk_drew ?_ | refine blk_alloc ?_ _)); refine blk_put (cs := #[.string ((rd_T38 l0_1 a1).f0), .int .i64 ((rd_T38 l0_1 a1).f1), .int .i64 ((rd_T38 l0_1 a1).f2), .int .i64 ((rd_T38 l0_1 a1).f3), .int .i64 0, .int .i64 0, .slice none 0 0, .int .u64 0, .int .u64 0]) ?_ 4 _ rfl; (with_reducible repeat (first | refine blk_drewN ?_ _ | refine blk_drew ?_ | refine blk_alloc ?_ _)); refine blk_put (cs := #[.string ((rd_T38 l0_1 a1).f0), .int .i64 ((rd_T38 l0_1 a1).f1), .int .i64 ((rd_T38 l0_1 a1).f2), .int .i64 0, .int .i64 0, .int .i64 0, .slice none 0 0, .int .u64 0, .int .u64 0]) ?_ 3 _ rfl; (with_reducible repeat (first | refine blk_drewN ?_ _ | refine blk_drew ?_ | refine blk_alloc ?_ _)); refine blk_put (cs := #[.string ((rd_T38 l0_1 a1).f0), .int .i64 ((rd_T38 l0_1 a1).f1), .int .i64 0, .int .i64 0, .int .i64 0, .int .i64 0, .slice none 0 0, .int .u64 0, .int .u64 0]) ?_ 2 _ rfl; (with_reducible repeat (first | refine blk_drewN ?_ _ | refine blk_drew ?_ | refine blk_alloc ?_ _)); refine blk_put (cs := #[.string ((rd_T38 l0_1 a1).f0), .int .i64 0, .int .i64 0, .int .i64 0, .int .i64 0, .int .i64 0, .slice none 0 0, .int .u64 0, .int .u64 0]) ?_ 1 _ rfl; (with_reducible repeat (first | refine blk_drewN ?_ _ | refine blk_drew ?_ | refine blk_alloc ?_ _)); refine blk_put (cs := #[.string (⟨#[]⟩ : ByteArray), .int .i64 0, .int .i64 0, .int .i64 0, .int .i64 0, .int .i64 0, .slice none 0 0, .int .u64 0, .int .u64 0]) ?_ 0 _ rfl; (with_reducible repeat (first | refine blk_drewN ?_ _ | refine blk_drew ?_ | refine blk_alloc ?_ _)); exact BK343.out) hb); have n2_ := Aside0.mk (below_step (by repeat (first | (with_reducible first | exact HB.out | apply below_alloc | apply pw_below_drewN | apply below_drew1 | refine below_set ?_ GE340.out | refine below_set ?_ GE343.out) | exact HB.out)) hb); clear BK340; clear BK343; clear HB; have BK340 := n0_; have BK343 := n1_; have HB := n2_; clear n0_ n1_ n2_; (try clear hb); (try clear hb2); (try clear hk); (try clear hi); have hcz86_0 : w85.cell? ⟨gb343, 0, none⟩ = some (.string ((rd_T38 l0_1 a1).f0)) := (blk_cell BK343.out 0).trans rfl; have hcz86_1 : w85.cell? ⟨gb343, 1, none⟩ = some (.int .i64 ((rd_T38 l0_1 a1).f1)) := (blk_cell BK343.out 1).trans rfl; have hcz86_2 : w85.cell? ⟨gb343, 2, none⟩ = some (.int .i64 ((rd_T38 l0_1 a1).f2)) := (blk_cell BK343.out 2).trans rfl; have hcz86_3 : w85.cell? ⟨gb343, 3, none⟩ = some (.int .i64 ((rd_T38 l0_1 a1).f3)) := (blk_cell BK343.out 3).trans rfl; have hcz86_4 : w85.cell? ⟨gb343, 4, none⟩ = some (.int .i64 ((rd_T38 l0_1 a1).f4)) := (blk_cell BK343.out 4).trans rfl; have hcz86_5 : w85.cell? ⟨gb343, 5, none⟩ = some (.int .i64 ((rd_T38 l0_1 a1).f5)) := (blk_cell BK343.out 5).trans rfl; have hcz86_6 : w85.cell? ⟨gb343, 6, none⟩ = some (.slice A341_6 ((rd_T38 l0_1 a1).f6).length c341_6) := (blk_cell BK343.out 6).trans rfl; have hcz86_7 : w85.cell? ⟨gb343, 7, none⟩ = some (.int .u64 ((rd_T38 l0_1 a1).f7)) := (blk_cell BK343.out 7).trans rfl; have hcz86_8 : w85.cell? ⟨gb343, 8, none⟩ = some (.int .u64 ((rd_T38 l0_1 a1).f8)) := (blk_cell BK343.out 8).trans rfl; have hfz86_0 := blk_frozen BK343.out 0; have hfz86_1 := blk_frozen BK343.out 1; have hfz86_2 := blk_frozen BK343.out 2; have hfz86_3 := blk_frozen BK343.out 3; have hfz86_4 := blk_frozen BK343.out 4; have hfz86_5 := blk_frozen BK343.out 5; have hfz86_6 := blk_frozen BK343.out 6; have hfz86_7 := blk_frozen BK343.out 7; have hfz86_8 := blk_frozen BK343.out 8))
                  go_ret
                  exact ⟨by first | rfl | (simp [errW_none, errW_some] <;> rfl) | (simp [*, errW_none, errW_some] <;> rfl), by repeat (first | (with_reducible first | exact HB.out | apply below_alloc | apply pw_below_drewN | apply below_drew1 | refine below_set ?_ GE340.out | refine below_set ?_ GE343.out) | exact HB.out)⟩
          · rw [if_neg c11] at H
            exact absurd H (by simp)
        · rw [if_neg c10] at H
          exact absurd H (by simp)
end Go.Proofs.Ytllnlmcofaomlaa.QAc
namespace Go.Proofs.Ytllnlmcofaomlaa.QAc
open Go.RowKit Go.Proofs.YtllnlmcofaomlaaW.PrintWords Go.Proofs.YtllnlmcofaomlaaW.PrintLast Go.Proofs.YtllnlmcofaomlaaW.PrintMore
attribute [local go_sem] max2_int min2_int max_two min_two max_three min_three max_four min_four   -- for this text's walks alone
set_option linter.unusedVariables false
set_option linter.unusedSimpArgs false
def block_Most.l0 : Nat → Int → Int → Int → Int → Int → List (S38) → Option (Int)
  | 0, _, _, _, _, _, _ => none
  | k + 1, x1, x5, x9, x10, x347000, x347001 => if x10 < x9 then ((block_Of.f k x347000 x347001 x10 x1).bind fun t347 => (block_Most.l0 k x1 (mx x5 t347) x9 (wrap64 (x10 + 1)) x347000 x347001)) else (some x5)
def block_Most.f (k : Nat) (a0_0 : Int) (l0_1 : List (S38)) (a1 : Int) : Option (Int) := block_Most.l0 k a1 0 (l0_1.length : Int) 0 a0_0 l0_1
set_option maxHeartbeats 8000000 in
set_option maxRecDepth 100000 in
theorem block_Most.calls (k : Nat) (a0_0 : Int) (A0_1 : Option Addr) (c0_1 : Nat) (l0_1 : List (S38)) (a1 : Int) (r : Int) (w : World) (hr0_1 : Kd.C k38 w A0_1 l0_1.length l0_1) (hc0_1 : l0_1.length ≤ c0_1) (h : block_Most.f k a0_0 l0_1 a1 = some r) :
    Calls Try.prog 39 #[.agg #[.int .i64 a0_0, .slice A0_1 l0_1.length c0_1], .int .i64 a1] w fun e w' => e = .returned (.int .i64 r) ∧ Below w.heap.size w w' := by
  have hu24 := Try.underlying24
  have HR0_1 := Aside0.mk hr0_1
  have HC0_1 := Aside0.mk hc0_1
  clear hr0_1 hc0_1
  have HB := Aside0.mk (Below.refl w.heap.size w)
  have H : (block_Most.l0 k a1 0 (l0_1.length : Int) 0 a0_0 l0_1) = some r := h
  clear h
  have H' := Aside0.mk H
  clear H
  go_enter Try.func39, Try.ntmps39
  go_wp2_with (first | ((with_reducible refine gate_dst (N := 2) rfl ?_); refine box_event ?hg (N := 2) ?hd (cs := #[.int .i64 a0_0, .slice A0_1 l0_1.length c0_1]) (t := 24) ?hr ?_; (case hd => rfl); (case hg => rfl); (case hr => first | (go_simp; done) | (go_simp; rfl)); intro gb346 hg w3 hbox hb; have n0_ := Aside0.mk (below_step (by repeat (first | (with_reducible first | exact HB.out | apply below_alloc | apply pw_below_drewN | apply below_drew1) | exact HB.out)) hb); have n1_ := Aside0.mk (hbox); have n2_ := Aside0.mk ((by rw [hg]; exact (below_size (by repeat (first | (with_reducible first | exact HB.out | apply below_alloc | apply pw_below_drewN | apply below_drew1) | exact HB.out))) : w.heap.size ≤ gb346)); have n3_ := Aside0.mk ((by rw [hg]; exact (below_size (by repeat (first | (with_reducible first | exact HB.out | apply below_alloc | apply pw_below_drewN | apply below_drew1) | exact HB.out))) : w.heap.size ≤ gb346)); clear HB; have HB := n0_; have BK346 := n1_; have GW346 := n2_; have GE346 := n3_; clear n0_ n1_ n2_ n3_; clear hb hbox hg; have hcz4_0 : w3.cell? ⟨gb346, 0, none⟩ = some (.int .i64 a0_0) := (blk_cell BK346.out 0).trans rfl; have hcz4_1 : w3.cell? ⟨gb346, 1, none⟩ = some (.slice A0_1 l0_1.length c0_1) := (blk_cell BK346.out 1).trans rfl; have hfz4_0 := blk_frozen BK346.out 0; have hfz4_1 := blk_frozen BK346.out 1))
  go_loopg [5, 10] k (fun kq v5 v10 w' => ∃ (x5_1 : Int) (x10_1 : Int), v5 = .int .i64 x5_1 ∧ v10 = .int .i64 x10_1 ∧ Aside0 (block_Most.l0 kq a1 x5_1 (l0_1.length : Int) x10_1 a0_0 l0_1 = some r) ∧ Aside0 (kq ≤ k) ∧ Aside0 (w'.heap[gb346]? = some (.cells #[.int .i64 a0_0, (.slice A0_1 l0_1.length c0_1)] 24 (0, 0))) ∧ Aside0 (Below w.heap.size w w'))
  case atStart => exact ⟨(0), (0), (by first | rfl | (simp; done) | (simp [*]; done)), (by first | rfl | (simp; done) | (simp [*]; done)), H', ⟨Nat.le_refl _⟩, ⟨by (with_reducible repeat (first | refine blk_drewN ?_ _ | refine blk_drew ?_ | refine blk_alloc ?_ _)); exact BK346.out⟩, ⟨by repeat (first | (with_reducible first | exact HB.out | apply below_alloc | apply pw_below_drewN | apply below_drew1 | refine below_set ?_ GE346.out) | exact HB.out)⟩⟩
  case round =>
    clear H'
    try clear p2
    try clear c3
    try clear hcz4_0
    try clear hcz4_1
    try clear hfz4_0
    try clear hfz4_1
    obtain ⟨x5_1, x10_1, rfl, rfl, HA, HK1, BK346, HB⟩ := hrel
    cases gk with
    | zero => exact absurd HA.out (by simp [block_Most.l0])
    | succ k1 =>
      have H := HA.out
      clear HA
      simp only [block_Most.l0] at H
      by_cases c5 : x10_1 < (l0_1.length : Int)
      · rw [if_pos c5] at H
        have c5b0 : decide (x10_1 < (l0_1.length : Int)) = true := decide_eq_true c5
        clear c5
        replace H := Option.bind_eq_some_iff.mp H
        obtain ⟨t347, A60, H⟩ := H
        replace H : (block_Most.l0 k1 a1 (mx x5_1 t347) (l0_1.length : Int) (wrap64 (x10_1 + 1)) a0_0 l0_1) = some r := H
        have A6 := Aside0.mk A60
        clear A60
        obtain ⟨ji7, hji7⟩ : ∃ j_ : Int, (mx x5_1 t347) = j_ := ⟨_, rfl⟩
        replace H : (block_Most.l0 k1 a1 ji7 (l0_1.length : Int) (wrap64 (x10_1 + 1)) a0_0 l0_1) = some r := by first | (rw [hji7] at H; exact H) | (simp only [hji7] at H ⊢; exact H)
        (try rw [hji7] at A6)
        have hji7_ : (if x5_1 < t347 then t347 else x5_1) = ji7 := hji7
        have H' := Aside0.mk H
        clear H
        have hcz8_0 : wr.cell? ⟨gb346, 0, none⟩ = some (.int .i64 a0_0) := (blk_cell BK346.out 0).trans rfl
        have hcz8_1 : wr.cell? ⟨gb346, 1, none⟩ = some (.slice A0_1 l0_1.length c0_1) := (blk_cell BK346.out 1).trans rfl
        have hfz8_0 := blk_frozen BK346.out 0
        have hfz8_1 := blk_frozen BK346.out 1
        go_wp2_with (first | ((with_reducible refine gate_callee (f := 51) rfl ?_); refine goesL_ (some 17) rfl rfl Try.func51 (by kernel_rfl) rfl #[.agg #[.int .i64 a0_0, .slice A0_1 l0_1.length c0_1], .int .i64 x10_1, .int .i64 a1] rfl (by (try simp only [List.map_toArray, List.map_cons, List.map_nil]); first | done | rfl | (simp only [List.length_drop, List.length_take]; rfl)) ?_; (with_reducible refine (block_Of.calls k1 a0_0 _ _ l0_1 x10_1 a1 t347 _ ?side1 ?side2 A6.out).mono ?_); (case side1 => repeat (first | exact (Kd.C_below HR0_1.out HB.out) | (with_reducible refine Kd.C_alloc ?_ _) | (with_reducible refine Kd.C_drewN ?_ _) | (with_reducible refine Kd.C_drew ?_))); (case side2 => exact HC0_1.out); rintro e w9 ⟨rfl, hb⟩; refine ⟨_, rfl, ?_⟩; have n0_ := Aside0.mk (blk_below (g := gb346) (o := .cells #[.int .i64 a0_0, .slice A0_1 l0_1.length c0_1] 24 (0, 0)) (by (with_reducible repeat (first | refine blk_drewN ?_ _ | refine blk_drew ?_ | refine blk_alloc ?_ _)); exact BK346.out) hb); have n1_ := Aside0.mk (below_step (by repeat (first | (with_reducible first | exact HB.out | apply below_alloc | apply pw_below_drewN | apply below_drew1 | refine below_set ?_ GE346.out) | exact HB.out)) hb); clear BK346; clear HB; have BK346 := n0_; have HB := n1_; clear n0_ n1_; (try clear hb); (try clear hb2); (try clear hk); (try clear hi)))
        go_roundg k1
        case measure => have := HK1.out; omega
        case rel => exact ⟨(ji7), (wrap64 (x10_1 + 1)), (by first | rfl | (simp; done) | (simp only [← hji7] <;> (first | rfl | simp)) | (simp [*]; done)), (by first | rfl | (simp; done) | (simp [*]; done)), H', ⟨by have := HK1.out; omega⟩, ⟨by (with_reducible repeat (first | refine blk_drewN ?_ _ | refine blk_drew ?_ | refine blk_alloc ?_ _)); exact BK346.out⟩, ⟨by repeat (first | (with_reducible first | exact HB.out | apply below_alloc | apply pw_below_drewN | apply below_drew1 | refine below_set ?_ GE346.out) | exact HB.out)⟩⟩
      · rw [if_neg c5] at H
        have c5b0 : decide (x10_1 < (l0_1.length : Int)) = false := decide_eq_false c5
        clear c5
        obtain rfl := Option.some.inj H
        go_wp2
        go_ret
        exact ⟨by first | rfl | (simp [errW_none, errW_some] <;> rfl) | (simp [*, errW_none, errW_some] <;> rfl), by repeat (first | (with_reducible first | exact HB.out | apply below_alloc | apply pw_below_drewN | apply below_drew1 | refine below_set ?_ GE346.out) | exact HB.out)⟩
end Go.Proofs.Ytllnlmcofaomlaa.QAc
namespace Go.Proofs.Ytllnlmcofaomlaa.QAc
open Go.RowKit Go.Proofs.YtllnlmcofaomlaaW.PrintWords Go.Proofs.YtllnlmcofaomlaaW.PrintLast Go.Proofs.YtllnlmcofaomlaaW.PrintMore
attribute [local go_sem] max2_int min2_int max_two min_two max_three min_three max_four min_four   -- for this text's walks alone
set_option linter.unusedVariables false
set_option linter.unusedSimpArgs false
def resp_Of.f (k : Nat) (a0_0 : Int) (l0_1 : List (S38)) (a1 : Int) : Option (Int × Int) := (block_Most.f k a0_0 l0_1 a1).bind fun t349 => ((resp_With.f k a0_0 l0_1 a1 t349).bind fun bt350 => (some (bt350.1, bt350.2)))
def resp_Of.T1 : Bool × List (List Nat × List Nat) := (true, [([], []), ([], []), ([], []), ([], []), ([2, 3], [2, 3]), ([0, 1, 4, 4], [0, 1, 4]), ([5], [5]), ([5], [5]), ([6, 5, 0, 1, 2, 3, 4, 5, 6, 7], [6]), ([7, 8, 0, 1, 2, 3, 4, 5, 6, 7, 8], [7])])
def resp_Of.B1 : List Nat := [0, 0, 0, 0, 12, 31, 63, 63, 255, 511]
theorem resp_Of.tab1 : rtab .any (opsOf Try.f25 1) = resp_Of.T1 := by kernel_rfl
theorem resp_Of.bits1 : waitsOk resp_Of.T1.2 resp_Of.B1 = true := by kernel_rfl
set_option maxHeartbeats 8000000 in
set_option maxRecDepth 100000 in
theorem resp_Of.calls (k : Nat) (a0_0 : Int) (A0_1 : Option Addr) (c0_1 : Nat) (l0_1 : List (S38)) (a1 : Int) (r1 : Int) (r2 : Int) (w : World) (hr0_1 : Kd.C k38 w A0_1 l0_1.length l0_1) (hc0_1 : l0_1.length ≤ c0_1) (h : resp_Of.f k a0_0 l0_1 a1 = some (r1, r2)) :
    Calls Try.prog 25 #[.agg #[.int .i64 a0_0, .slice A0_1 l0_1.length c0_1], .int .i64 a1] w fun e w' => e = .returned (.tuple #[.int .i64 r1, .int .i64 r2]) ∧ Below w.heap.size w w' := by
  have hu24 := Try.underlying24
  have HR0_1 := Aside0.mk hr0_1
  have HC0_1 := Aside0.mk hc0_1
  clear hr0_1 hc0_1
  have HB := Aside0.mk (Below.refl w.heap.size w)
  have H : ((block_Most.f k a0_0 l0_1 a1).bind fun t349 => ((resp_With.f k a0_0 l0_1 a1 t349).bind fun bt350 => (some (bt350.1, bt350.2)))) = some (r1, r2) := h
  clear h
  replace H := Option.bind_eq_some_iff.mp H
  obtain ⟨t349, A30, H⟩ := H
  replace H : ((resp_With.f k a0_0 l0_1 a1 t349).bind fun bt350 => (some (bt350.1, bt350.2))) = some (r1, r2) := H
  have A3 := Aside0.mk A30
  clear A30
  replace H := Option.bind_eq_some_iff.mp H
  obtain ⟨⟨t350, t351⟩, A40, H⟩ := H
  replace H : (some (t350, t351)) = some (r1, r2) := H
  have A4 := Aside0.mk A40
  clear A40
  simp only [Option.some.injEq, Prod.mk.injEq] at H
  obtain ⟨rfl, rfl⟩ := H
  go_enter Try.func25, Try.ntmps25
  try go_wp2_with (first | ((with_reducible refine gate_dst (N := 2) rfl ?_); refine box_event ?hg (N := 2) ?hd (cs := #[.int .i64 a0_0, .slice A0_1 l0_1.length c0_1]) (t := 24) ?hr ?_; (case hd => rfl); (case hg => rfl); (case hr => first | (go_simp; done) | (go_simp; rfl)); intro gb348 hg w5 hbox hb; have n0_ := Aside0.mk (below_step (by repeat (first | (with_reducible first | exact HB.out | apply below_alloc | apply pw_below_drewN | apply below_drew1) | exact HB.out)) hb); have n1_ := Aside0.mk (hbox); have n2_ := Aside0.mk ((by rw [hg]; exact (below_size (by repeat (first | (with_reducible first | exact HB.out | apply below_alloc | apply pw_below_drewN | apply below_drew1) | exact HB.out))) : w.heap.size ≤ gb348)); have n3_ := Aside0.mk ((by rw [hg]; exact (below_size (by repeat (first | (with_reducible first | exact HB.out | apply below_alloc | apply pw_below_drewN | apply below_drew1) | exact HB.out))) : w.heap.size ≤ gb348)); clear HB; have HB := n0_; have BK348 := n1_; have GW348 := n2_; have GE348 := n3_; clear n0_ n1_ n2_ n3_; clear hb hbox hg))
  have n0_ := Aside0.mk (blk_drew BK348.out)
  have n1_ := Aside0.mk (below_drew1 HB.out)
  clear BK348
  clear HB
  have BK348 := n0_
  have HB := n1_
  clear n0_ n1_
  refine start_ (n := 10) (S := fun w' => w'.cell? ⟨gb348, 0, none⟩ = some (.int .i64 a0_0) ∧ w'.cell? ⟨gb348, 1, none⟩ = some (.slice A0_1 l0_1.length c0_1)) (ds := []) #[false, false, false, false, false, false, false, false, false, false] (by kernel_rfl) rfl rfl ⟨(blk_cell BK348.out 0).trans rfl, (blk_cell BK348.out 1).trans rfl⟩ (fun hHeld => ?_); refine with_tabW resp_Of.tab1 resp_Of.bits1 (fun HT_ HW_ => ?_)
  generalize w5.drew = w6 at BK348 HB hHeld ⊢
  refine pure_ (i := 1) (N := some 7) (v := ?_) (a' := ?_) #[false, true, false, false, false, false, false, false, false, false] rfl rfl (any_of HT_.out (by kernel_rfl)) (fun _ _ _ h => h) (Or.inl ⟨by rfl, ?_⟩) ?_ ?_
  rotate_left
  · intro w'
    go_simp
    with_reducible rfl
  rotate_left
  · simp only [Act.put, List.setIfInBounds_toArray, List.set_cons_zero, List.set_cons_succ, i64_w, i32_w]
    rfl
  refine pure_ (i := 3) (N := some 9) (v := ?_) (a' := ?_) #[false, true, false, true, false, false, false, false, false, false] rfl rfl (any_of HT_.out (by kernel_rfl)) (fun _ _ _ h => h) (Or.inl ⟨by rfl, ?_⟩) ?_ ?_
  rotate_left
  · intro w'
    go_simp
    with_reducible rfl
  rotate_left
  · simp only [Act.put, List.setIfInBounds_toArray, List.set_cons_zero, List.set_cons_succ, i64_w, i32_w]
    rfl
  refine take_ (i := 0) (N := some 6) (v := ?_) (a' := ?_) #[true, true, false, true, false, false, false, false, false, false] rfl rfl (take_ofW HT_.out HW_.out (by kernel_rfl)) (fun _ _ _ h => h) (Or.inl ⟨by rfl, ?_⟩) hHeld ?_ ?_
  rotate_left
  · rintro w' ⟨s0, s1⟩
    go_simp
    with_reducible rfl
  rotate_left
  · simp only [Act.put, List.setIfInBounds_toArray, List.set_cons_zero, List.set_cons_succ, i64_w, i32_w]
    rfl
  refine take_ (i := 2) (N := some 8) (v := ?_) (a' := ?_) #[true, true, true, true, false, false, false, false, false, false] rfl rfl (take_ofW HT_.out HW_.out (by kernel_rfl)) (fun _ _ _ h => h) (Or.inl ⟨by rfl, ?_⟩) hHeld ?_ ?_
  rotate_left
  · rintro w' ⟨s0, s1⟩
    go_simp
    with_reducible rfl
  rotate_left
  · simp only [Act.put, List.setIfInBounds_toArray, List.set_cons_zero, List.set_cons_succ, i64_w, i32_w]
    rfl
  refine one_ (i := 4) (N := some 10) #[true, true, true, true, true, false, false, false, false, false] rfl rfl (one_of HT_.out (by kernel_rfl)) (by decide) (fun K hK => ?_)
  refine goes_ Try.func39 (by kernel_rfl) rfl #[.agg #[.int .i64 a0_0, .slice A0_1 l0_1.length c0_1], .int .i64 a1] (by rfl) rfl rfl (by (try simp only [List.map_toArray, List.map_cons, List.map_nil]); first | done | rfl | (simp only [List.length_drop, List.length_take]; rfl)) ?_
  with_reducible refine (block_Most.calls k a0_0 _ _ l0_1 a1 t349 _ ?side1 ?side2 A3.out).mono ?_
  (case side1 => repeat (first | exact (Kd.C_below HR0_1.out HB.out) | (with_reducible refine Kd.C_alloc ?_ _) | (with_reducible refine Kd.C_drewN ?_ _) | (with_reducible refine Kd.C_drew ?_)))
  (case side2 => exact HC0_1.out)
  rintro e w7 ⟨rfl, hb⟩
  refine ⟨_, rfl, ?_⟩
  have n0_ := Aside0.mk (blk_below (g := gb348) (o := .cells #[.int .i64 a0_0, .slice A0_1 l0_1.length c0_1] 24 (0, 0)) (by (with_reducible repeat (first | refine blk_drewN ?_ _ | refine blk_drew ?_ | refine blk_alloc ?_ _)); exact BK348.out) hb)
  have n1_ := Aside0.mk (below_step (by repeat (first | (with_reducible first | exact HB.out | apply below_alloc | apply pw_below_drewN | apply below_drew1 | refine below_set ?_ GE348.out) | exact HB.out)) hb)
  clear BK348
  clear HB
  have BK348 := n0_
  have HB := n1_
  clear n0_ n1_
  (try clear hb)
  (try clear hb2)
  (try clear hk)
  (try clear hi)
  refine hK.out _ _ ⟨(blk_cell BK348.out 0).trans rfl, (blk_cell BK348.out 1).trans rfl⟩ (fun hHeld => ?_)
  clear hK K
  refine norm_ (a' := ?_) ?_ ?_
  rotate_left
  · show Act.put _ (some 10) _ = _
    simp only [Act.put, List.setIfInBounds_toArray, List.set_cons_zero, List.set_cons_succ, i64_w, i32_w]
    rfl
  refine one_ (i := 5) (N := some 11) #[true, true, true, true, true, true, false, false, false, false] rfl rfl (one_of HT_.out (by kernel_rfl)) (by decide) (fun K hK => ?_)
  refine goes_ Try.func22 (by kernel_rfl) rfl #[.agg #[.int .i64 a0_0, .slice A0_1 l0_1.length c0_1], .int .i64 a1, .int .i64 t349] (by rfl) rfl rfl (by (try simp only [List.map_toArray, List.map_cons, List.map_nil]); first | done | rfl | (simp only [List.length_drop, List.length_take]; rfl)) ?_
  with_reducible refine (resp_With.calls k a0_0 _ _ l0_1 a1 t349 t350 t351 _ ?side1 ?side2 A4.out).mono ?_
  (case side1 => repeat (first | exact (Kd.C_below HR0_1.out HB.out) | (with_reducible refine Kd.C_alloc ?_ _) | (with_reducible refine Kd.C_drewN ?_ _) | (with_reducible refine Kd.C_drew ?_)))
  (case side2 => exact HC0_1.out)
  rintro e w8 ⟨rfl, hb⟩
  refine ⟨_, rfl, ?_⟩
  have n0_ := Aside0.mk (blk_below (g := gb348) (o := .cells #[.int .i64 a0_0, .slice A0_1 l0_1.length c0_1] 24 (0, 0)) (by (with_reducible repeat (first | refine blk_drewN ?_ _ | refine blk_drew ?_ | refine blk_alloc ?_ _)); exact BK348.out) hb)
  have n1_ := Aside0.mk (below_step (by repeat (first | (with_reducible first | exact HB.out | apply below_alloc | apply pw_below_drewN | apply below_drew1 | refine below_set ?_ GE348.out) | exact HB.out)) hb)
  clear BK348
  clear HB
  have BK348 := n0_
  have HB := n1_
  clear n0_ n1_
  (try clear hb)
  (try clear hb2)
  (try clear hk)
  (try clear hi)
  refine hK.out _ _ ⟨(blk_cell BK348.out 0).trans rfl, (blk_cell BK348.out 1).trans rfl⟩ (fun hHeld => ?_)
  clear hK K
  refine norm_ (a' := ?_) ?_ ?_
  rotate_left
  · show Act.put _ (some 11) _ = _
    simp only [Act.put, List.setIfInBounds_toArray, List.set_cons_zero, List.set_cons_succ, i64_w, i32_w]
    rfl
  refine pure_ (i := 6) (N := some 12) (v := ?_) (a' := ?_) #[true, true, true, true, true, true, true, false, false, false] rfl rfl (any_of HT_.out (by kernel_rfl)) (fun _ _ _ h => h) (Or.inl ⟨by rfl, ?_⟩) ?_ ?_
  rotate_left
  · intro w'
    go_simp
    with_reducible rfl
  rotate_left
  · simp only [Act.put, List.setIfInBounds_toArray, List.set_cons_zero, List.set_cons_succ, i64_w, i32_w]
    rfl
  refine pure_ (i := 7) (N := some 13) (v := ?_) (a' := ?_) #[true, true, true, true, true, true, true, true, false, false] rfl rfl (any_of HT_.out (by kernel_rfl)) (fun _ _ _ h => h) (Or.inl ⟨by rfl, ?_⟩) ?_ ?_
  rotate_left
  · intro w'
    go_simp
    with_reducible rfl
  rotate_left
  · simp only [Act.put, List.setIfInBounds_toArray, List.set_cons_zero, List.set_cons_succ, i64_w, i32_w]
    rfl
  refine pure_ (i := 8) (N := some 4) (v := ?_) (a' := ?_) #[true, true, true, true, true, true, true, true, true, false] rfl rfl (any_of HT_.out (by kernel_rfl)) (fun _ _ _ h => h) (Or.inl ⟨by rfl, ?_⟩) ?_ ?_
  rotate_left
  · intro w'
    go_simp
    with_reducible rfl
  rotate_left
  · simp only [Act.put, List.setIfInBounds_toArray, List.set_cons_zero, List.set_cons_succ, i64_w, i32_w]
    rfl
  refine pure_ (i := 9) (N := some 5) (v := ?_) (a' := ?_) #[true, true, true, true, true, true, true, true, true, true] rfl rfl (any_of HT_.out (by kernel_rfl)) (fun _ _ _ h => h) (Or.inl ⟨by rfl, ?_⟩) ?_ ?_
  rotate_left
  · intro w'
    go_simp
    with_reducible rfl
  rotate_left
  · simp only [Act.put, List.setIfInBounds_toArray, List.set_cons_zero, List.set_cons_succ, i64_w, i32_w]
    rfl
  refine done_ (done_of HT_.out (by kernel_rfl)) ?_
  try go_wp2
  go_ret2
  exact ⟨by first | rfl | (simp [errW_none, errW_some] <;> rfl) | (simp [*, errW_none, errW_some] <;> rfl), by repeat (first | (with_reducible first | exact HB.out | apply below_alloc | apply pw_below_drewN | apply below_drew1 | refine below_set ?_ GE348.out) | exact HB.out)⟩
end Go.Proofs.Ytllnlmcofaomlaa.QAc
namespace Go.Proofs.Ytllnlmcofaomlaa.QAc
open Go.RowKit Go.Proofs.YtllnlmcofaomlaaW.PrintWords Go.Proofs.YtllnlmcofaomlaaW.PrintLast Go.Proofs.YtllnlmcofaomlaaW.PrintMore
attribute [local go_sem] max2_int min2_int max_two min_two max_three min_three max_four min_four   -- for this text's walks alone
set_option linter.unusedVariables false
set_option linter.unusedSimpArgs false
def taskmasterlaw12_known.f (k : Nat)  : Option (Bool) := (resp_Of.f k 0 (([(⟨(⟨#[97]⟩ : ByteArray), 5, 5, 0, 0, 0, (([2] : List Int)), 0, 0⟩ : S38)] : List (S38))) 0).bind fun bt359 => (if bt359.1 = 2 then (some (bt359.2 == 1)) else (some false))
set_option maxHeartbeats 8000000 in
set_option maxRecDepth 100000 in
theorem taskmasterlaw12_known.calls (k : Nat)  (r : Bool) (w : World) (h : taskmasterlaw12_known.f k  = some r) :
    Calls Try.prog 23 #[] w fun e w' => e = .returned (.bool r) ∧ Below w.heap.size w w' := by
  have hu38 := Try.underlying38
  have hu24 := Try.underlying24
  have HB := Aside0.mk (Below.refl w.heap.size w)
  have H : ((resp_Of.f k 0 (([(⟨(⟨#[97]⟩ : ByteArray), 5, 5, 0, 0, 0, (([2] : List Int)), 0, 0⟩ : S38)] : List (S38))) 0).bind fun bt359 => (if bt359.1 = 2 then (some (bt359.2 == 1)) else (some false))) = some r := h
  clear h
  obtain ⟨y352, hy352⟩ : ∃ y_ : List Int, y_ = (([2] : List Int)) := ⟨_, rfl⟩
  replace H : ((resp_Of.f k 0 (([(⟨(⟨#[97]⟩ : ByteArray), 5, 5, 0, 0, 0, y352, 0, 0⟩ : S38)] : List (S38))) 0).bind fun bt359 => (if bt359.1 = 2 then (some (bt359.2 == 1)) else (some false))) = some r := by first | (rw [hy352]; with_reducible exact H) | (have H2_ := (Option.bind_some _ _).symm.trans H; rw [hy352]; with_reducible exact H2_) | (have H2_ := (Option.bind_some _ _).symm.trans H; with_reducible exact H2_) | with_reducible exact H | (rw [hy352]; exact H) | exact H
  have Ny352 := Aside0.mk hy352
  clear hy352
  obtain ⟨y355, hy355⟩ : ∃ y_ : List (S38), y_ = (([(⟨(⟨#[97]⟩ : ByteArray), 5, 5, 0, 0, 0, y352, 0, 0⟩ : S38)] : List (S38))) := ⟨_, rfl⟩
  replace H : ((resp_Of.f k 0 y355 0).bind fun bt359 => (if bt359.1 = 2 then (some (bt359.2 == 1)) else (some false))) = some r := by first | (rw [hy355]; with_reducible exact H) | (have H2_ := (Option.bind_some _ _).symm.trans H; rw [hy355]; with_reducible exact H2_) | (have H2_ := (Option.bind_some _ _).symm.trans H; with_reducible exact H2_) | with_reducible exact H | (rw [hy355]; exact H) | exact H
  have Ny355 := Aside0.mk hy355
  clear hy355
  replace H := Option.bind_eq_some_iff.mp H
  obtain ⟨⟨t359, t360⟩, A10, H⟩ := H
  replace H : (if t359 = 2 then (some (t360 == 1)) else (some false)) = some r := H
  have A1 := Aside0.mk A10
  clear A10
  by_cases c2 : t359 = 2
  · rw [if_pos c2] at H
    have c2b0 : (t359 == 2) = true := beq_iff_eq.mpr c2
    have c2b1 : (t359 != 2) = false := bne_eq_false_iff_eq.mpr c2
    clear c2
    obtain rfl := Option.some.inj H
    go_enter Try.func23, Try.ntmps23
    go_wp2_with (first | ((with_reducible refine gate_dst (N := 4) rfl ?_); refine Kd.R_lit (Kd.int .i64) _ 2 ?hg (N := 4) ?hd (xs := ([2] : List Int)) (inner := [.int .i64 2]) (ok := fun _ => True) (okp := fun _ => True) ?hr ?hp (fun _ hk => hk) trivial (Below.refl _ _) (Nat.le_refl _) (by simp) ?_; (case hd => rfl); (case hg => rfl); (case hr => first | (go_simp; done) | (go_simp; rfl)); (case hp => exact (Reps.one (show Kd.M (Kd.int .i64) _ _ _ 2 [.int .i64 2] from rfl) (Reps.none _ _))); intro v353 w3 ho4 hb hg_ hnew_; clear hg_ hnew_; (first | rw [← Ny352.out] at ho4 | (simp only [Int.reduceToNat] at ho4; rw [← Ny352.out] at ho4)); have n0_ := Aside0.mk (Kd.R_lower ho4 (below_size (by repeat (first | (with_reducible first | exact HB.out | apply below_alloc | apply pw_below_drewN | apply below_drew1) | exact HB.out)))); have n1_ := Aside0.mk (below_step (by repeat (first | (with_reducible first | exact HB.out | apply below_alloc | apply pw_below_drewN | apply below_drew1) | exact HB.out)) hb); clear HB; have HO354 := n0_; have HB := n1_; clear n0_ n1_; clear hb ho4; obtain ⟨Ao5, co5, eo5⟩ := Kd.R_slice HO354.out; subst eo5) | ((with_reducible refine gate_dst (N := 6) rfl ?_); refine Kd.N_lit k38 _ 38 ?hg (N' := 6) ?hd (xs := ([(⟨(⟨#[97]⟩ : ByteArray), 5, 5, 0, 0, 0, y352, 0, 0⟩ : S38)] : List (S38))) (inner := [.string (⟨#[97]⟩ : ByteArray), .int .i64 5, .int .i64 5, .int .i64 0, .int .i64 0, .int .i64 0, .slice Ao5 y352.length co5, .int .u64 0, .int .u64 0]) (ok := (fun _ => True)) (okp := (fun _ => True)) ?hr ?hp (fun _ hk => hk) ((show ∀ k_, w3.heap.size ≤ k_ → (fun _ => True) k_ from fun k_ hk => trivial) _ (Nat.le_refl _)) (Below.refl _ _) (Nat.le_refl _) (by simp) ?_; (case hd => rfl); (case hg => rfl); (case hr => first | (go_simp; done) | (go_simp; rfl)); (case hp => exact (Reps.c9 (show Kd.FK k38 _ _ (⟨(⟨#[97]⟩ : ByteArray), 5, 5, 0, 0, 0, y352, 0, 0⟩ : S38) [.string (⟨#[97]⟩ : ByteArray), .int .i64 5, .int .i64 5, .int .i64 0, .int .i64 0, .int .i64 0, .slice Ao5 y352.length co5, .int .u64 0, .int .u64 0] from (k38_mkF _ _ (⟨(⟨#[97]⟩ : ByteArray), 5, 5, 0, 0, 0, y352, 0, 0⟩ : S38) (Kd.R_reads' (Kd.R_mono (ok' := (fun _ => True)) (HO354.out) (fun k_ hk => trivial))).2.1 (Kd.R_F (Kd.R_mono (ok' := (fun _ => True)) (HO354.out) (fun k_ hk => trivial))))) (Reps.none _ _))); intro v356 w6 ho7 hb hg_ hnew_; clear hg_ hnew_; (first | rw [← Ny355.out] at ho7 | (simp only [Int.reduceToNat] at ho7; rw [← Ny355.out] at ho7)); have n0_ := Aside0.mk (Kd.N_lower ho7 (below_size (by repeat (first | (with_reducible first | exact HB.out | apply below_alloc | apply pw_below_drewN | apply below_drew1) | exact HB.out)))); have n1_ := Aside0.mk (below_step (by repeat (first | (with_reducible first | exact HB.out | apply below_alloc | apply pw_below_drewN | apply below_drew1) | exact HB.out)) hb); clear HB; clear HO354; have HO357 := n0_; have HB := n1_; clear n0_ n1_; clear hb ho7; obtain ⟨Ao8, co8, eo8⟩ := Kd.N_slice HO357.out; subst eo8) | ((with_reducible refine gate_dst (N := 1) rfl ?_); refine box_event ?hg (N := 1) ?hd (cs := #[.int .i64 0, .slice none 0 0]) (t := 24) ?hr ?_; (case hd => rfl); (case hg => rfl); (case hr => first | (go_simp; done) | (go_simp; rfl)); intro gb358 hg w9 hbox hb; have n0_ := Aside0.mk (Kd.N_below (Kd.N_elderB (by (with_reducible repeat (first | apply Kd.N_alloc | apply Kd.N_drewN | apply Kd.N_drew)); exact HO357.out) gb358 (Nat.le_of_eq hg.symm)) hb); have n1_ := Aside0.mk (below_step (by repeat (first | (with_reducible first | exact HB.out | apply below_alloc | apply pw_below_drewN | apply below_drew1) | exact HB.out)) hb); have n2_ := Aside0.mk (hbox); have n3_ := Aside0.mk ((by rw [hg]; exact (below_size (by repeat (first | (with_reducible first | exact HB.out | apply below_alloc | apply pw_below_drewN | apply below_drew1) | exact HB.out))) : w.heap.size ≤ gb358)); have n4_ := Aside0.mk ((by rw [hg]; exact (below_size (by repeat (first | (with_reducible first | exact HB.out | apply below_alloc | apply pw_below_drewN | apply below_drew1) | exact HB.out))) : w.heap.size ≤ gb358)); clear HO357; clear HB; have HO357 := n0_; have HB := n1_; have BK358 := n2_; have GW358 := n3_; have GE358 := n4_; clear n0_ n1_ n2_ n3_ n4_; clear hb hbox hg; have hcz10_0 : w9.cell? ⟨gb358, 0, none⟩ = some (.int .i64 0) := (blk_cell BK358.out 0).trans rfl; have hcz10_1 : w9.cell? ⟨gb358, 1, none⟩ = some (.slice none 0 0) := (blk_cell BK358.out 1).trans rfl; have hfz10_0 := blk_frozen BK358.out 0; have hfz10_1 := blk_frozen BK358.out 1) | ((with_reducible refine gate_callee (f := 25) rfl ?_); refine goesL_ (some 10) rfl rfl Try.func25 (by kernel_rfl) rfl #[.agg #[.int .i64 0, .slice Ao8 y355.length co8], .int .i64 0] rfl (by (try simp only [List.map_toArray, List.map_cons, List.map_nil]); first | done | rfl | (simp only [List.length_drop, List.length_take]; rfl)) ?_; (with_reducible refine (resp_Of.calls k 0 _ _ y355 0 t359 t360 _ ?side1 ?side2 A1.out).mono ?_); (case side1 => refine (Kd.N_reads' (e := 38) (base := w.heap.size) (ok := fun k_ => (True ∧ k_ ≠ gb358)) (n := y355.length) (c := co8) ?_).2.2; exact (by (with_reducible repeat (first | apply Kd.N_alloc | apply Kd.N_drewN | apply Kd.N_drew)); exact (Kd.N_mono (Kd.N_far (p := ⟨gb358, 1, none⟩) (Kd.N_far (p := ⟨gb358, 0, none⟩) (Kd.N_mono HO357.out (fun k_ hk => (⟨hk, hk.2⟩ : _ ∧ k_ ≠ gb358))) (fun _ hk => hk.2) (.int .i64 0)) (fun _ hk => hk.2) (.slice Ao8 y355.length co8)) (fun _ h_ => h_.1)))); (case side2 => exact (Kd.N_reads' HO357.out).2.1); rintro e w11 ⟨rfl, hb⟩; refine ⟨_, rfl, ?_⟩; have n0_ := Aside0.mk (Kd.N_below (by (with_reducible repeat (first | apply Kd.N_alloc | apply Kd.N_drewN | apply Kd.N_drew)); exact (Kd.N_mono (Kd.N_far (p := ⟨gb358, 1, none⟩) (Kd.N_far (p := ⟨gb358, 0, none⟩) (Kd.N_mono HO357.out (fun k_ hk => (⟨hk, hk.2⟩ : _ ∧ k_ ≠ gb358))) (fun _ hk => hk.2) (.int .i64 0)) (fun _ hk => hk.2) (.slice Ao8 y355.length co8)) (fun _ h_ => h_.1))) hb); have n1_ := Aside0.mk (blk_below (g := gb358) (o := .cells #[.int .i64 0, .slice Ao8 y355.length co8] 24 (0, 0)) (by (with_reducible repeat (first | refine blk_drewN ?_ _ | refine blk_drew ?_ | refine blk_alloc ?_ _)); refine blk_put (cs := #[.int .i64 0, .slice none 0 0]) ?_ 1 _ rfl; (with_reducible repeat (first | refine blk_drewN ?_ _ | refine blk_drew ?_ | refine blk_alloc ?_ _)); refine blk_put (cs := #[.int .i64 0, .slice none 0 0]) ?_ 0 _ rfl; (with_reducible repeat (first | refine blk_drewN ?_ _ | refine blk_drew ?_ | refine blk_alloc ?_ _)); exact BK358.out) hb); have n2_ := Aside0.mk (below_step (by repeat (first | (with_reducible first | exact HB.out | apply below_alloc | apply pw_below_drewN | apply below_drew1 | refine below_set ?_ GE358.out) | exact HB.out)) hb); clear HO357; clear BK358; clear HB; have HO357 := n0_; have BK358 := n1_; have HB := n2_; clear n0_ n1_ n2_; (try clear hb); (try clear hb2); (try clear hk); (try clear hi)))
    go_ret
    exact ⟨by first | rfl | (simp [errW_none, errW_some] <;> rfl) | (simp [*, errW_none, errW_some] <;> rfl), by repeat (first | (with_reducible first | exact HB.out | apply below_alloc | apply pw_below_drewN | apply below_drew1 | refine below_set ?_ GE358.out) | exact HB.out)⟩
  · rw [if_neg c2] at H
    have c2b0 : (t359 == 2) = false := beq_eq_false_iff_ne.mpr c2
    have c2b1 : (t359 != 2) = true := bne_iff_ne.mpr c2
    obtain rfl := Option.some.inj H
    go_enter Try.func23, Try.ntmps23
    go_wp2_with (first | ((with_reducible refine gate_dst (N := 4) rfl ?_); refine Kd.R_lit (Kd.int .i64) _ 2 ?hg (N := 4) ?hd (xs := ([2] : List Int)) (inner := [.int .i64 2]) (ok := fun _ => True) (okp := fun _ => True) ?hr ?hp (fun _ hk => hk) trivial (Below.refl _ _) (Nat.le_refl _) (by simp) ?_; (case hd => rfl); (case hg => rfl); (case hr => first | (go_simp; done) | (go_simp; rfl)); (case hp => exact (Reps.one (show Kd.M (Kd.int .i64) _ _ _ 2 [.int .i64 2] from rfl) (Reps.none _ _))); intro v353 w12 ho13 hb hg_ hnew_; clear hg_ hnew_; (first | rw [← Ny352.out] at ho13 | (simp only [Int.reduceToNat] at ho13; rw [← Ny352.out] at ho13)); have n0_ := Aside0.mk (Kd.R_lower ho13 (below_size (by repeat (first | (with_reducible first | exact HB.out | apply below_alloc | apply pw_below_drewN | apply below_drew1) | exact HB.out)))); have n1_ := Aside0.mk (below_step (by repeat (first | (with_reducible first | exact HB.out | apply below_alloc | apply pw_below_drewN | apply below_drew1) | exact HB.out)) hb); clear HB; have HO354 := n0_; have HB := n1_; clear n0_ n1_; clear hb ho13; obtain ⟨Ao14, co14, eo14⟩ := Kd.R_slice HO354.out; subst eo14) | ((with_reducible refine gate_dst (N := 6) rfl ?_); refine Kd.N_lit k38 _ 38 ?hg (N' := 6) ?hd (xs := ([(⟨(⟨#[97]⟩ : ByteArray), 5, 5, 0, 0, 0, y352, 0, 0⟩ : S38)] : List (S38))) (inner := [.string (⟨#[97]⟩ : ByteArray), .int .i64 5, .int .i64 5, .int .i64 0, .int .i64 0, .int .i64 0, .slice Ao14 y352.length co14, .int .u64 0, .int .u64 0]) (ok := (fun _ => True)) (okp := (fun _ => True)) ?hr ?hp (fun _ hk => hk) ((show ∀ k_, w12.heap.size ≤ k_ → (fun _ => True) k_ from fun k_ hk => trivial) _ (Nat.le_refl _)) (Below.refl _ _) (Nat.le_refl _) (by simp) ?_; (case hd => rfl); (case hg => rfl); (case hr => first | (go_simp; done) | (go_simp; rfl)); (case hp => exact (Reps.c9 (show Kd.FK k38 _ _ (⟨(⟨#[97]⟩ : ByteArray), 5, 5, 0, 0, 0, y352, 0, 0⟩ : S38) [.string (⟨#[97]⟩ : ByteArray), .int .i64 5, .int .i64 5, .int .i64 0, .int .i64 0, .int .i64 0, .slice Ao14 y352.length co14, .int .u64 0, .int .u64 0] from (k38_mkF _ _ (⟨(⟨#[97]⟩ : ByteArray), 5, 5, 0, 0, 0, y352, 0, 0⟩ : S38) (Kd.R_reads' (Kd.R_mono (ok' := (fun _ => True)) (HO354.out) (fun k_ hk => trivial))).2.1 (Kd.R_F (Kd.R_mono (ok' := (fun _ => True)) (HO354.out) (fun k_ hk => trivial))))) (Reps.none _ _))); intro v356 w15 ho16 hb hg_ hnew_; clear hg_ hnew_; (first | rw [← Ny355.out] at ho16 | (simp only [Int.reduceToNat] at ho16; rw [← Ny355.out] at ho16)); have n0_ := Aside0.mk (Kd.N_lower ho16 (below_size (by repeat (first | (with_reducible first | exact HB.out | apply below_alloc | apply pw_below_drewN | apply below_drew1) | exact HB.out)))); have n1_ := Aside0.mk (below_step (by repeat (first | (with_reducible first | exact HB.out | apply below_alloc | apply pw_below_drewN | apply below_drew1) | exact HB.out)) hb); clear HB; clear HO354; have HO357 := n0_; have HB := n1_; clear n0_ n1_; clear hb ho16; obtain ⟨Ao17, co17, eo17⟩ := Kd.N_slice HO357.out; subst eo17) | ((with_reducible refine gate_dst (N := 1) rfl ?_); refine box_event ?hg (N := 1) ?hd (cs := #[.int .i64 0, .slice none 0 0]) (t := 24) ?hr ?_; (case hd => rfl); (case hg => rfl); (case hr => first | (go_simp; done) | (go_simp; rfl)); intro gb358 hg w18 hbox hb; have n0_ := Aside0.mk (Kd.N_below (Kd.N_elderB (by (with_reducible repeat (first | apply Kd.N_alloc | apply Kd.N_drewN | apply Kd.N_drew)); exact HO357.out) gb358 (Nat.le_of_eq hg.symm)) hb); have n1_ := Aside0.mk (below_step (by repeat (first | (with_reducible first | exact HB.out | apply below_alloc | apply pw_below_drewN | apply below_drew1) | exact HB.out)) hb); have n2_ := Aside0.mk (hbox); have n3_ := Aside0.mk ((by rw [hg]; exact (below_size (by repeat (first | (with_reducible first | exact HB.out | apply below_alloc | apply pw_below_drewN | apply below_drew1) | exact HB.out))) : w.heap.size ≤ gb358)); have n4_ := Aside0.mk ((by rw [hg]; exact (below_size (by repeat (first | (with_reducible first | exact HB.out | apply below_alloc | apply pw_below_drewN | apply below_drew1) | exact HB.out))) : w.heap.size ≤ gb358)); clear HO357; clear HB; have HO357 := n0_; have HB := n1_; have BK358 := n2_; have GW358 := n3_; have GE358 := n4_; clear n0_ n1_ n2_ n3_ n4_; clear hb hbox hg; have hcz19_0 : w18.cell? ⟨gb358, 0, none⟩ = some (.int .i64 0) := (blk_cell BK358.out 0).trans rfl; have hcz19_1 : w18.cell? ⟨gb358, 1, none⟩ = some (.slice none 0 0) := (blk_cell BK358.out 1).trans rfl; have hfz19_0 := blk_frozen BK358.out 0; have hfz19_1 := blk_frozen BK358.out 1) | ((with_reducible refine gate_callee (f := 25) rfl ?_); refine goesL_ (some 10) rfl rfl Try.func25 (by kernel_rfl) rfl #[.agg #[.int .i64 0, .slice Ao17 y355.length co17], .int .i64 0] rfl (by (try simp only [List.map_toArray, List.map_cons, List.map_nil]); first | done | rfl | (simp only [List.length_drop, List.length_take]; rfl)) ?_; (with_reducible refine (resp_Of.calls k 0 _ _ y355 0 t359 t360 _ ?side1 ?side2 A1.out).mono ?_); (case side1 => refine (Kd.N_reads' (e := 38) (base := w.heap.size) (ok := fun k_ => (True ∧ k_ ≠ gb358)) (n := y355.length) (c := co17) ?_).2.2; exact (by (with_reducible repeat (first | apply Kd.N_alloc | apply Kd.N_drewN | apply Kd.N_drew)); exact (Kd.N_mono (Kd.N_far (p := ⟨gb358, 1, none⟩) (Kd.N_far (p := ⟨gb358, 0, none⟩) (Kd.N_mono HO357.out (fun k_ hk => (⟨hk, hk.2⟩ : _ ∧ k_ ≠ gb358))) (fun _ hk => hk.2) (.int .i64 0)) (fun _ hk => hk.2) (.slice Ao17 y355.length co17)) (fun _ h_ => h_.1)))); (case side2 => exact (Kd.N_reads' HO357.out).2.1); rintro e w20 ⟨rfl, hb⟩; refine ⟨_, rfl, ?_⟩; have n0_ := Aside0.mk (Kd.N_below (by (with_reducible repeat (first | apply Kd.N_alloc | apply Kd.N_drewN | apply Kd.N_drew)); exact (Kd.N_mono (Kd.N_far (p := ⟨gb358, 1, none⟩) (Kd.N_far (p := ⟨gb358, 0, none⟩) (Kd.N_mono HO357.out (fun k_ hk => (⟨hk, hk.2⟩ : _ ∧ k_ ≠ gb358))) (fun _ hk => hk.2) (.int .i64 0)) (fun _ hk => hk.2) (.slice Ao17 y355.length co17)) (fun _ h_ => h_.1))) hb); have n1_ := Aside0.mk (blk_below (g := gb358) (o := .cells #[.int .i64 0, .slice Ao17 y355.length co17] 24 (0, 0)) (by (with_reducible repeat (first | refine blk_drewN ?_ _ | refine blk_drew ?_ | refine blk_alloc ?_ _)); refine blk_put (cs := #[.int .i64 0, .slice none 0 0]) ?_ 1 _ rfl; (with_reducible repeat (first | refine blk_drewN ?_ _ | refine blk_drew ?_ | refine blk_alloc ?_ _)); refine blk_put (cs := #[.int .i64 0, .slice none 0 0]) ?_ 0 _ rfl; (with_reducible repeat (first | refine blk_drewN ?_ _ | refine blk_drew ?_ | refine blk_alloc ?_ _)); exact BK358.out) hb); have n2_ := Aside0.mk (below_step (by repeat (first | (with_reducible first | exact HB.out | apply below_alloc | apply pw_below_drewN | apply below_drew1 | refine below_set ?_ GE358.out) | exact HB.out)) hb); clear HO357; clear BK358; clear HB; have HO357 := n0_; have BK358 := n1_; have HB := n2_; clear n0_ n1_ n2_; (try clear hb); (try clear hb2); (try clear hk); (try clear hi)))
    go_ret
    exact ⟨by first | rfl | (simp [errW_none, errW_some] <;> rfl) | (simp [*, errW_none, errW_some] <;> rfl), by repeat (first | (with_reducible first | exact HB.out | apply below_alloc | apply pw_below_drewN | apply below_drew1 | refine below_set ?_ GE358.out) | exact HB.out)⟩
end Go.Proofs.Ytllnlmcofaomlaa.QAc
namespace Go.Proofs.Ytllnlmcofaomlaa.QAc
open Go.RowKit Go.Proofs.YtllnlmcofaomlaaW.PrintWords Go.Proofs.YtllnlmcofaomlaaW.PrintLast Go.Proofs.YtllnlmcofaomlaaW.PrintMore
attribute [local go_sem] max2_int min2_int max_two min_two max_three min_three max_four min_four   -- for this text's walks alone
set_option linter.unusedVariables false
set_option linter.unusedSimpArgs false
def taskmasterlaw12_RespLess.j0 : Nat → Int → Int → Int → Bool → Int → List (S38) → Option (Bool)
  | 0, _, _, _, _, _, _ => none
  | k + 1, x1, x2, x3, x24, x406000, x406001 => if x24 = true then (some true) else ((resp_With.f k x406000 x406001 x1 x2).bind fun bt407 => ((resp_With.f k x406000 x406001 x1 (wrap64 (x2 - x3))).bind fun bt409 => (if bt407.2 = 3 then ((taskmasterlaw12_known.f k).bind fun t411 => (some t411)) else (if bt409.2 = 3 then (some false) else (if bt409.1 ≤ bt407.1 then ((taskmasterlaw12_known.f k).bind fun t412 => (some t412)) else (some false))))))
def taskmasterlaw12_RespLess.f (k : Nat) (a0_0 : Int) (l0_1 : List (S38)) (a1 : Int) (a2 : Int) (a3 : Int) : Option (Bool) := (taskmasterlaw12_may.f k a0_0 l0_1).bind fun t406 => (if t406 = true then (if a3 < 0 then (taskmasterlaw12_RespLess.j0 k a1 a2 a3 true a0_0 l0_1) else (taskmasterlaw12_RespLess.j0 k a1 a2 a3 (decide (a3 > a2)) a0_0 l0_1)) else (taskmasterlaw12_RespLess.j0 k a1 a2 a3 true a0_0 l0_1))
set_option maxHeartbeats 8000000 in
set_option maxRecDepth 100000 in
theorem taskmasterlaw12_RespLess.calls (k : Nat) (a0_0 : Int) (A0_1 : Option Addr) (c0_1 : Nat) (l0_1 : List (S38)) (a1 : Int) (a2 : Int) (a3 : Int) (r : Bool) (w : World) (hr0_1 : Kd.C k38 w A0_1 l0_1.length l0_1) (hc0_1 : l0_1.length ≤ c0_1) (h : taskmasterlaw12_RespLess.f k a0_0 l0_1 a1 a2 a3 = some r) :
    Calls Try.prog 8 #[.agg #[.int .i64 a0_0, .slice A0_1 l0_1.length c0_1], .int .i64 a1, .int .i64 a2, .int .i64 a3] w fun e w' => e = .returned (.bool r) ∧ Below w.heap.size w w' := by
  have hu24 := Try.underlying24
  have HR0_1 := Aside0.mk hr0_1
  have HC0_1 := Aside0.mk hc0_1
  clear hr0_1 hc0_1
  have HB := Aside0.mk (Below.refl w.heap.size w)
  have H : ((taskmasterlaw12_may.f k a0_0 l0_1).bind fun t406 => (if t406 = true then (if a3 < 0 then (taskmasterlaw12_RespLess.j0 k a1 a2 a3 true a0_0 l0_1) else (taskmasterlaw12_RespLess.j0 k a1 a2 a3 (decide (a3 > a2)) a0_0 l0_1)) else (taskmasterlaw12_RespLess.j0 k a1 a2 a3 true a0_0 l0_1))) = some r := h
  clear h
  have HC5 := Aside0.mk H
  clear H
  go_enter Try.func8, Try.ntmps8
  go_upto_region 1 with (first | ((with_reducible refine gate_dst (N := 4) rfl ?_); refine box_event ?hg (N := 4) ?hd (cs := #[.int .i64 a0_0, .slice A0_1 l0_1.length c0_1]) (t := 24) ?hr ?_; (case hd => rfl); (case hg => rfl); (case hr => first | (go_simp; done) | (go_simp; rfl)); intro gb405 hg w6 hbox hb; have n0_ := Aside0.mk (below_step (by repeat (first | (with_reducible first | exact HB.out | apply below_alloc | apply pw_below_drewN | apply below_drew1) | exact HB.out)) hb); have n1_ := Aside0.mk (hbox); have n2_ := Aside0.mk ((by rw [hg]; exact (below_size (by repeat (first | (with_reducible first | exact HB.out | apply below_alloc | apply pw_below_drewN | apply below_drew1) | exact HB.out))) : w.heap.size ≤ gb405)); have n3_ := Aside0.mk ((by rw [hg]; exact (below_size (by repeat (first | (with_reducible first | exact HB.out | apply below_alloc | apply pw_below_drewN | apply below_drew1) | exact HB.out))) : w.heap.size ≤ gb405)); clear HB; have HB := n0_; have BK405 := n1_; have GW405 := n2_; have GE405 := n3_; clear n0_ n1_ n2_ n3_; clear hb hbox hg))
  (try simp only [Act.put, List.setIfInBounds_toArray, List.set_cons_zero, List.set_cons_succ])
  go_cut [24] (fun v24 wc => ∃ (kq : Nat) (x24_4 : Bool), v24 = .bool x24_4 ∧ Aside0 (taskmasterlaw12_RespLess.j0 kq a1 a2 a3 x24_4 a0_0 l0_1 = some r) ∧ Aside0 (kq ≤ k) ∧ Aside0 (wc.heap[gb405]? = some (.cells #[.int .i64 a0_0, (.slice A0_1 l0_1.length c0_1)] 24 (0, 0))) ∧ Aside0 (Below w.heap.size w wc))
  case first =>
    have H := HC5.out
    clear HC5
    replace H := Option.bind_eq_some_iff.mp H
    obtain ⟨t406, A70, H⟩ := H
    replace H : (if t406 = true then (if a3 < 0 then (taskmasterlaw12_RespLess.j0 k a1 a2 a3 true a0_0 l0_1) else (taskmasterlaw12_RespLess.j0 k a1 a2 a3 (decide (a3 > a2)) a0_0 l0_1)) else (taskmasterlaw12_RespLess.j0 k a1 a2 a3 true a0_0 l0_1)) = some r := H
    have A7 := Aside0.mk A70
    clear A70
    by_cases c8 : t406 = true
    · subst c8
      have H1 : (if a3 < 0 then (taskmasterlaw12_RespLess.j0 k a1 a2 a3 true a0_0 l0_1) else (taskmasterlaw12_RespLess.j0 k a1 a2 a3 (decide (a3 > a2)) a0_0 l0_1)) = some r := by rw [if_pos rfl] at H; exact H
      clear H
      have H := H1
      clear H1
      by_cases c9 : a3 < 0
      · rw [if_pos c9] at H
        have c9b0 : decide (a3 < 0) = true := decide_eq_true c9
        clear c9
        (first | rw [c9b0] | (simp only [i64_w, i32_w]; rw [c9b0]) | skip)
        have H' := Aside0.mk H
        clear H
        have hcz10_0 : w6.cell? ⟨gb405, 0, none⟩ = some (.int .i64 a0_0) := (blk_cell BK405.out 0).trans rfl
        have hcz10_1 : w6.cell? ⟨gb405, 1, none⟩ = some (.slice A0_1 l0_1.length c0_1) := (blk_cell BK405.out 1).trans rfl
        have hfz10_0 := blk_frozen BK405.out 0
        have hfz10_1 := blk_frozen BK405.out 1
        go_wp2_with (first | ((with_reducible refine gate_callee (f := 21) rfl ?_); refine goesL_ (some 14) rfl rfl Try.func21 (by kernel_rfl) rfl #[.agg #[.int .i64 a0_0, .slice A0_1 l0_1.length c0_1]] rfl (by (try simp only [List.map_toArray, List.map_cons, List.map_nil]); first | done | rfl | (simp only [List.length_drop, List.length_take]; rfl)) ?_; (with_reducible refine (taskmasterlaw12_may.calls k a0_0 _ _ l0_1 true _ ?side1 ?side2 A7.out).mono ?_); (case side1 => repeat (first | exact (Kd.C_below HR0_1.out HB.out) | (with_reducible refine Kd.C_alloc ?_ _) | (with_reducible refine Kd.C_drewN ?_ _) | (with_reducible refine Kd.C_drew ?_))); (case side2 => exact HC0_1.out); rintro e w11 ⟨rfl, hb⟩; refine ⟨_, rfl, ?_⟩; have n0_ := Aside0.mk (blk_below (g := gb405) (o := .cells #[.int .i64 a0_0, .slice A0_1 l0_1.length c0_1] 24 (0, 0)) (by (with_reducible repeat (first | refine blk_drewN ?_ _ | refine blk_drew ?_ | refine blk_alloc ?_ _)); exact BK405.out) hb); have n1_ := Aside0.mk (below_step (by repeat (first | (with_reducible first | exact HB.out | apply below_alloc | apply pw_below_drewN | apply below_drew1 | refine below_set ?_ GE405.out) | exact HB.out)) hb); clear BK405; clear HB; have BK405 := n0_; have HB := n1_; clear n0_ n1_; (try clear hb); (try clear hb2); (try clear hk); (try clear hi)))
        go_meet
        case rel => exact ⟨_, (true), (by first | rfl | (simp; done) | (simp [*]; done)), H', ⟨by first | omega | exact Nat.le_refl _⟩, ⟨by (with_reducible repeat (first | refine blk_drewN ?_ _ | refine blk_drew ?_ | refine blk_alloc ?_ _)); exact BK405.out⟩, ⟨by repeat (first | (with_reducible first | exact HB.out | apply below_alloc | apply pw_below_drewN | apply below_drew1 | refine below_set ?_ GE405.out) | exact HB.out)⟩⟩
      · rw [if_neg c9] at H
        have c9b0 : decide (a3 < 0) = false := decide_eq_false c9
        clear c9
        (first | rw [c9b0] | (simp only [i64_w, i32_w]; rw [c9b0]) | skip)
        have H' := Aside0.mk H
        clear H
        have hcz12_0 : w6.cell? ⟨gb405, 0, none⟩ = some (.int .i64 a0_0) := (blk_cell BK405.out 0).trans rfl
        have hcz12_1 : w6.cell? ⟨gb405, 1, none⟩ = some (.slice A0_1 l0_1.length c0_1) := (blk_cell BK405.out 1).trans rfl
        have hfz12_0 := blk_frozen BK405.out 0
        have hfz12_1 := blk_frozen BK405.out 1
        go_wp2_with (first | ((with_reducible refine gate_callee (f := 21) rfl ?_); refine goesL_ (some 14) rfl rfl Try.func21 (by kernel_rfl) rfl #[.agg #[.int .i64 a0_0, .slice A0_1 l0_1.length c0_1]] rfl (by (try simp only [List.map_toArray, List.map_cons, List.map_nil]); first | done | rfl | (simp only [List.length_drop, List.length_take]; rfl)) ?_; (with_reducible refine (taskmasterlaw12_may.calls k a0_0 _ _ l0_1 true _ ?side1 ?side2 A7.out).mono ?_); (case side1 => repeat (first | exact (Kd.C_below HR0_1.out HB.out) | (with_reducible refine Kd.C_alloc ?_ _) | (with_reducible refine Kd.C_drewN ?_ _) | (with_reducible refine Kd.C_drew ?_))); (case side2 => exact HC0_1.out); rintro e w13 ⟨rfl, hb⟩; refine ⟨_, rfl, ?_⟩; have n0_ := Aside0.mk (blk_below (g := gb405) (o := .cells #[.int .i64 a0_0, .slice A0_1 l0_1.length c0_1] 24 (0, 0)) (by (with_reducible repeat (first | refine blk_drewN ?_ _ | refine blk_drew ?_ | refine blk_alloc ?_ _)); exact BK405.out) hb); have n1_ := Aside0.mk (below_step (by repeat (first | (with_reducible first | exact HB.out | apply below_alloc | apply pw_below_drewN | apply below_drew1 | refine below_set ?_ GE405.out) | exact HB.out)) hb); clear BK405; clear HB; have BK405 := n0_; have HB := n1_; clear n0_ n1_; (try clear hb); (try clear hb2); (try clear hk); (try clear hi)))
        go_meet
        case rel => exact ⟨_, (decide (a3 > a2)), (by first | rfl | (simp; done) | (simp [*]; done)), H', ⟨by first | omega | exact Nat.le_refl _⟩, ⟨by (with_reducible repeat (first | refine blk_drewN ?_ _ | refine blk_drew ?_ | refine blk_alloc ?_ _)); exact BK405.out⟩, ⟨by repeat (first | (with_reducible first | exact HB.out | apply below_alloc | apply pw_below_drewN | apply below_drew1 | refine below_set ?_ GE405.out) | exact HB.out)⟩⟩
    · replace c8 := Bool.eq_false_iff.mpr c8
      subst c8
      have H1 : (taskmasterlaw12_RespLess.j0 k a1 a2 a3 true a0_0 l0_1) = some r := by rw [if_neg (show ¬ (false = true) by decide)] at H; exact H
      clear H
      have H := H1
      clear H1
      have H' := Aside0.mk H
      clear H
      have hcz14_0 : w6.cell? ⟨gb405, 0, none⟩ = some (.int .i64 a0_0) := (blk_cell BK405.out 0).trans rfl
      have hcz14_1 : w6.cell? ⟨gb405, 1, none⟩ = some (.slice A0_1 l0_1.length c0_1) := (blk_cell BK405.out 1).trans rfl
      have hfz14_0 := blk_frozen BK405.out 0
      have hfz14_1 := blk_frozen BK405.out 1
      go_wp2_with (first | ((with_reducible refine gate_callee (f := 21) rfl ?_); refine goesL_ (some 14) rfl rfl Try.func21 (by kernel_rfl) rfl #[.agg #[.int .i64 a0_0, .slice A0_1 l0_1.length c0_1]] rfl (by (try simp only [List.map_toArray, List.map_cons, List.map_nil]); first | done | rfl | (simp only [List.length_drop, List.length_take]; rfl)) ?_; (with_reducible refine (taskmasterlaw12_may.calls k a0_0 _ _ l0_1 false _ ?side1 ?side2 A7.out).mono ?_); (case side1 => repeat (first | exact (Kd.C_below HR0_1.out HB.out) | (with_reducible refine Kd.C_alloc ?_ _) | (with_reducible refine Kd.C_drewN ?_ _) | (with_reducible refine Kd.C_drew ?_))); (case side2 => exact HC0_1.out); rintro e w15 ⟨rfl, hb⟩; refine ⟨_, rfl, ?_⟩; have n0_ := Aside0.mk (blk_below (g := gb405) (o := .cells #[.int .i64 a0_0, .slice A0_1 l0_1.length c0_1] 24 (0, 0)) (by (with_reducible repeat (first | refine blk_drewN ?_ _ | refine blk_drew ?_ | refine blk_alloc ?_ _)); exact BK405.out) hb); have n1_ := Aside0.mk (below_step (by repeat (first | (with_reducible first | exact HB.out | apply below_alloc | apply pw_below_drewN | apply below_drew1 | refine below_set ?_ GE405.out) | exact HB.out)) hb); clear BK405; clear HB; have BK405 := n0_; have HB := n1_; clear n0_ n1_; (try clear hb); (try clear hb2); (try clear hk); (try clear hi)))
      go_meet
      case rel => exact ⟨_, (true), (by first | rfl | (simp; done) | (simp [*]; done)), H', ⟨by first | omega | exact Nat.le_refl _⟩, ⟨by (with_reducible repeat (first | refine blk_drewN ?_ _ | refine blk_drew ?_ | refine blk_alloc ?_ _)); exact BK405.out⟩, ⟨by repeat (first | (with_reducible first | exact HB.out | apply below_alloc | apply pw_below_drewN | apply below_drew1 | refine below_set ?_ GE405.out) | exact HB.out)⟩⟩
  case rest =>
    clear HC5
    try clear c2
    try clear p2
    try clear c8
    try clear c9
    try clear c9b0
    try clear hcz10_0
    try clear hcz10_1
    try clear hcz12_0
    try clear hcz12_1
    try clear hcz14_0
    try clear hcz14_1
    try clear hfz10_0
    try clear hfz10_1
    try clear hfz12_0
    try clear hfz12_1
    try clear hfz14_0
    try clear hfz14_1
    obtain ⟨kq, x24_4, rfl, HA, HJ4, BK405, HB⟩ := hcut
    cases kq with
    | zero => exact absurd HA.out (by simp [taskmasterlaw12_RespLess.j0])
    | succ kj4 =>
      have H := HA.out
      clear HA
      simp only [taskmasterlaw12_RespLess.j0] at H
      by_cases c16 : x24_4 = true
      · subst c16
        have H1 : (some true) = some r := by rw [if_pos rfl] at H; exact H
        clear H
        have H := H1
        clear H1
        obtain rfl := Option.some.inj H
        go_wp2
        go_ret
        exact ⟨by first | rfl | (simp [errW_none, errW_some] <;> rfl) | (simp [*, errW_none, errW_some] <;> rfl), by repeat (first | (with_reducible first | exact HB.out | apply below_alloc | apply pw_below_drewN | apply below_drew1 | refine below_set ?_ GE405.out) | exact HB.out)⟩
      · replace c16 := Bool.eq_false_iff.mpr c16
        subst c16
        have H1 : ((resp_With.f kj4 a0_0 l0_1 a1 a2).bind fun bt407 => ((resp_With.f kj4 a0_0 l0_1 a1 (wrap64 (a2 - a3))).bind fun bt409 => (if bt407.2 = 3 then ((taskmasterlaw12_known.f kj4).bind fun t411 => (some t411)) else (if bt409.2 = 3 then (some false) else (if bt409.1 ≤ bt407.1 then ((taskmasterlaw12_known.f kj4).bind fun t412 => (some t412)) else (some false)))))) = some r := by rw [if_neg (show ¬ (false = true) by decide)] at H; exact H
        clear H
        have H := H1
        clear H1
        replace H := Option.bind_eq_some_iff.mp H
        obtain ⟨⟨t407, t408⟩, A170, H⟩ := H
        replace H : ((resp_With.f kj4 a0_0 l0_1 a1 (wrap64 (a2 - a3))).bind fun bt409 => (if t408 = 3 then ((taskmasterlaw12_known.f kj4).bind fun t411 => (some t411)) else (if bt409.2 = 3 then (some false) else (if bt409.1 ≤ t407 then ((taskmasterlaw12_known.f kj4).bind fun t412 => (some t412)) else (some false))))) = some r := H
        have A17 := Aside0.mk A170
        clear A170
        replace H := Option.bind_eq_some_iff.mp H
        obtain ⟨⟨t409, t410⟩, A180, H⟩ := H
        replace H : (if t408 = 3 then ((taskmasterlaw12_known.f kj4).bind fun t411 => (some t411)) else (if t410 = 3 then (some false) else (if t409 ≤ t407 then ((taskmasterlaw12_known.f kj4).bind fun t412 => (some t412)) else (some false)))) = some r := H
        have A18 := Aside0.mk A180
        clear A180
        by_cases c19 : t408 = 3
        · rw [if_pos c19] at H
          have c19b0 : (t408 == 3) = true := beq_iff_eq.mpr c19
          have c19b1 : (t408 != 3) = false := bne_eq_false_iff_eq.mpr c19
          clear c19
          replace H := Option.bind_eq_some_iff.mp H
          obtain ⟨t411, A200, H⟩ := H
          replace H : (some t411) = some r := H
          have A20 := Aside0.mk A200
          clear A200
          obtain rfl := Option.some.inj H
          have hcz21_0 : wc.cell? ⟨gb405, 0, none⟩ = some (.int .i64 a0_0) := (blk_cell BK405.out 0).trans rfl
          have hcz21_1 : wc.cell? ⟨gb405, 1, none⟩ = some (.slice A0_1 l0_1.length c0_1) := (blk_cell BK405.out 1).trans rfl
          have hfz21_0 := blk_frozen BK405.out 0
          have hfz21_1 := blk_frozen BK405.out 1
          go_wp2_with (first | ((with_reducible refine gate_callee (f := 22) rfl ?_); refine goesL_ (some 29) rfl rfl Try.func22 (by kernel_rfl) rfl #[.agg #[.int .i64 a0_0, .slice A0_1 l0_1.length c0_1], .int .i64 a1, .int .i64 a2] rfl (by (try simp only [List.map_toArray, List.map_cons, List.map_nil]); first | done | rfl | (simp only [List.length_drop, List.length_take]; rfl)) ?_; (with_reducible refine (resp_With.calls kj4 a0_0 _ _ l0_1 a1 a2 t407 t408 _ ?side1 ?side2 A17.out).mono ?_); (case side1 => repeat (first | exact (Kd.C_below HR0_1.out HB.out) | (with_reducible refine Kd.C_alloc ?_ _) | (with_reducible refine Kd.C_drewN ?_ _) | (with_reducible refine Kd.C_drew ?_))); (case side2 => exact HC0_1.out); rintro e w22 ⟨rfl, hb⟩; refine ⟨_, rfl, ?_⟩; have n0_ := Aside0.mk (blk_below (g := gb405) (o := .cells #[.int .i64 a0_0, .slice A0_1 l0_1.length c0_1] 24 (0, 0)) (by (with_reducible repeat (first | refine blk_drewN ?_ _ | refine blk_drew ?_ | refine blk_alloc ?_ _)); exact BK405.out) hb); have n1_ := Aside0.mk (below_step (by repeat (first | (with_reducible first | exact HB.out | apply below_alloc | apply pw_below_drewN | apply below_drew1 | refine below_set ?_ GE405.out) | exact HB.out)) hb); clear BK405; clear HB; have BK405 := n0_; have HB := n1_; clear n0_ n1_; (try clear hb); (try clear hb2); (try clear hk); (try clear hi); have hcz23_0 : w22.cell? ⟨gb405, 0, none⟩ = some (.int .i64 a0_0) := (blk_cell BK405.out 0).trans rfl; have hcz23_1 : w22.cell? ⟨gb405, 1, none⟩ = some (.slice A0_1 l0_1.length c0_1) := (blk_cell BK405.out 1).trans rfl; have hfz23_0 := blk_frozen BK405.out 0; have hfz23_1 := blk_frozen BK405.out 1) | ((with_reducible refine gate_callee (f := 22) rfl ?_); refine goesL_ (some 38) rfl rfl Try.func22 (by kernel_rfl) rfl #[.agg #[.int .i64 a0_0, .slice A0_1 l0_1.length c0_1], .int .i64 a1, .int .i64 (wrap64 (a2 - a3))] rfl (by (try simp only [List.map_toArray, List.map_cons, List.map_nil]); first | done | rfl | (simp only [List.length_drop, List.length_take]; rfl)) ?_; (with_reducible refine (resp_With.calls kj4 a0_0 _ _ l0_1 a1 (wrap64 (a2 - a3)) t409 t410 _ ?side1 ?side2 A18.out).mono ?_); (case side1 => repeat (first | exact (Kd.C_below HR0_1.out HB.out) | (with_reducible refine Kd.C_alloc ?_ _) | (with_reducible refine Kd.C_drewN ?_ _) | (with_reducible refine Kd.C_drew ?_))); (case side2 => exact HC0_1.out); rintro e w24 ⟨rfl, hb⟩; refine ⟨_, rfl, ?_⟩; have n0_ := Aside0.mk (blk_below (g := gb405) (o := .cells #[.int .i64 a0_0, .slice A0_1 l0_1.length c0_1] 24 (0, 0)) (by (with_reducible repeat (first | refine blk_drewN ?_ _ | refine blk_drew ?_ | refine blk_alloc ?_ _)); exact BK405.out) hb); have n1_ := Aside0.mk (below_step (by repeat (first | (with_reducible first | exact HB.out | apply below_alloc | apply pw_below_drewN | apply below_drew1 | refine below_set ?_ GE405.out) | exact HB.out)) hb); clear BK405; clear HB; have BK405 := n0_; have HB := n1_; clear n0_ n1_; (try clear hb); (try clear hb2); (try clear hk); (try clear hi)) | (go_at_call 23; (with_reducible refine (taskmasterlaw12_known.calls kj4  t411 _ A20.out).mono ?_); rintro e w25 ⟨rfl, hb⟩; have n0_ := Aside0.mk (blk_below (g := gb405) (o := .cells #[.int .i64 a0_0, .slice A0_1 l0_1.length c0_1] 24 (0, 0)) (by (with_reducible repeat (first | refine blk_drewN ?_ _ | refine blk_drew ?_ | refine blk_alloc ?_ _)); exact BK405.out) hb); have n1_ := Aside0.mk (below_step (by repeat (first | (with_reducible first | exact HB.out | apply below_alloc | apply pw_below_drewN | apply below_drew1 | refine below_set ?_ GE405.out) | exact HB.out)) hb); clear BK405; clear HB; have BK405 := n0_; have HB := n1_; clear n0_ n1_; (try clear hb); (try clear hb2); (try clear hk); (try clear hi)))
          go_ret
          exact ⟨by first | rfl | (simp [errW_none, errW_some] <;> rfl) | (simp [*, errW_none, errW_some] <;> rfl), by repeat (first | (with_reducible first | exact HB.out | apply below_alloc | apply pw_below_drewN | apply below_drew1 | refine below_set ?_ GE405.out) | exact HB.out)⟩
        · rw [if_neg c19] at H
          have c19b0 : (t408 == 3) = false := beq_eq_false_iff_ne.mpr c19
          have c19b1 : (t408 != 3) = true := bne_iff_ne.mpr c19
          by_cases c26 : t410 = 3
          · rw [if_pos c26] at H
            have c26b0 : (t410 == 3) = true := beq_iff_eq.mpr c26
            have c26b1 : (t410 != 3) = false := bne_eq_false_iff_eq.mpr c26
            clear c26
            obtain rfl := Option.some.inj H
            have hcz27_0 : wc.cell? ⟨gb405, 0, none⟩ = some (.int .i64 a0_0) := (blk_cell BK405.out 0).trans rfl
            have hcz27_1 : wc.cell? ⟨gb405, 1, none⟩ = some (.slice A0_1 l0_1.length c0_1) := (blk_cell BK405.out 1).trans rfl
            have hfz27_0 := blk_frozen BK405.out 0
            have hfz27_1 := blk_frozen BK405.out 1
            go_wp2_with (first | ((with_reducible refine gate_callee (f := 22) rfl ?_); refine goesL_ (some 29) rfl rfl Try.func22 (by kernel_rfl) rfl #[.agg #[.int .i64 a0_0, .slice A0_1 l0_1.length c0_1], .int .i64 a1, .int .i64 a2] rfl (by (try simp only [List.map_toArray, List.map_cons, List.map_nil]); first | done | rfl | (simp only [List.length_drop, List.length_take]; rfl)) ?_; (with_reducible refine (resp_With.calls kj4 a0_0 _ _ l0_1 a1 a2 t407 t408 _ ?side1 ?side2 A17.out).mono ?_); (case side1 => repeat (first | exact (Kd.C_below HR0_1.out HB.out) | (with_reducible refine Kd.C_alloc ?_ _) | (with_reducible refine Kd.C_drewN ?_ _) | (with_reducible refine Kd.C_drew ?_))); (case side2 => exact HC0_1.out); rintro e w28 ⟨rfl, hb⟩; refine ⟨_, rfl, ?_⟩; have n0_ := Aside0.mk (blk_below (g := gb405) (o := .cells #[.int .i64 a0_0, .slice A0_1 l0_1.length c0_1] 24 (0, 0)) (by (with_reducible repeat (first | refine blk_drewN ?_ _ | refine blk_drew ?_ | refine blk_alloc ?_ _)); exact BK405.out) hb); have n1_ := Aside0.mk (below_step (by repeat (first | (with_reducible first | exact HB.out | apply below_alloc | apply pw_below_drewN | apply below_drew1 | refine below_set ?_ GE405.out) | exact HB.out)) hb); clear BK405; clear HB; have BK405 := n0_; have HB := n1_; clear n0_ n1_; (try clear hb); (try clear hb2); (try clear hk); (try clear hi); have hcz29_0 : w28.cell? ⟨gb405, 0, none⟩ = some (.int .i64 a0_0) := (blk_cell BK405.out 0).trans rfl; have hcz29_1 : w28.cell? ⟨gb405, 1, none⟩ = some (.slice A0_1 l0_1.length c0_1) := (blk_cell BK405.out 1).trans rfl; have hfz29_0 := blk_frozen BK405.out 0; have hfz29_1 := blk_frozen BK405.out 1) | ((with_reducible refine gate_callee (f := 22) rfl ?_); refine goesL_ (some 38) rfl rfl Try.func22 (by kernel_rfl) rfl #[.agg #[.int .i64 a0_0, .slice A0_1 l0_1.length c0_1], .int .i64 a1, .int .i64 (wrap64 (a2 - a3))] rfl (by (try simp only [List.map_toArray, List.map_cons, List.map_nil]); first | done | rfl | (simp only [List.length_drop, List.length_take]; rfl)) ?_; (with_reducible refine (resp_With.calls kj4 a0_0 _ _ l0_1 a1 (wrap64 (a2 - a3)) t409 t410 _ ?side1 ?side2 A18.out).mono ?_); (case side1 => repeat (first | exact (Kd.C_below HR0_1.out HB.out) | (with_reducible refine Kd.C_alloc ?_ _) | (with_reducible refine Kd.C_drewN ?_ _) | (with_reducible refine Kd.C_drew ?_))); (case side2 => exact HC0_1.out); rintro e w30 ⟨rfl, hb⟩; refine ⟨_, rfl, ?_⟩; have n0_ := Aside0.mk (blk_below (g := gb405) (o := .cells #[.int .i64 a0_0, .slice A0_1 l0_1.length c0_1] 24 (0, 0)) (by (with_reducible repeat (first | refine blk_drewN ?_ _ | refine blk_drew ?_ | refine blk_alloc ?_ _)); exact BK405.out) hb); have n1_ := Aside0.mk (below_step (by repeat (first | (with_reducible first | exact HB.out | apply below_alloc | apply pw_below_drewN | apply below_drew1 | refine below_set ?_ GE405.out) | exact HB.out)) hb); clear BK405; clear HB; have BK405 := n0_; have HB := n1_; clear n0_ n1_; (try clear hb); (try clear hb2); (try clear hk); (try clear hi)))
            go_ret
            exact ⟨by first | rfl | (simp [errW_none, errW_some] <;> rfl) | (simp [*, errW_none, errW_some] <;> rfl), by repeat (first | (with_reducible first | exact HB.out | apply below_alloc | apply pw_below_drewN | apply below_drew1 | refine below_set ?_ GE405.out) | exact HB.out)⟩
          · rw [if_neg c26] at H
            have c26b0 : (t410 == 3) = false := beq_eq_false_iff_ne.mpr c26
            have c26b1 : (t410 != 3) = true := bne_iff_ne.mpr c26
            by_cases c31 : t409 ≤ t407
            · rw [if_pos c31] at H
              have c31b0 : decide (t409 ≤ t407) = true := decide_eq_true c31
              clear c31
              replace H := Option.bind_eq_some_iff.mp H
              obtain ⟨t412, A320, H⟩ := H
              replace H : (some t412) = some r := H
              have A32 := Aside0.mk A320
              clear A320
              obtain rfl := Option.some.inj H
              have hcz33_0 : wc.cell? ⟨gb405, 0, none⟩ = some (.int .i64 a0_0) := (blk_cell BK405.out 0).trans rfl
              have hcz33_1 : wc.cell? ⟨gb405, 1, none⟩ = some (.slice A0_1 l0_1.length c0_1) := (blk_cell BK405.out 1).trans rfl
              have hfz33_0 := blk_frozen BK405.out 0
              have hfz33_1 := blk_frozen BK405.out 1
              go_wp2_with (first | ((with_reducible refine gate_callee (f := 22) rfl ?_); refine goesL_ (some 29) rfl rfl Try.func22 (by kernel_rfl) rfl #[.agg #[.int .i64 a0_0, .slice A0_1 l0_1.length c0_1], .int .i64 a1, .int .i64 a2] rfl (by (try simp only [List.map_toArray, List.map_cons, List.map_nil]); first | done | rfl | (simp only [List.length_drop, List.length_take]; rfl)) ?_; (with_reducible refine (resp_With.calls kj4 a0_0 _ _ l0_1 a1 a2 t407 t408 _ ?side1 ?side2 A17.out).mono ?_); (case side1 => repeat (first | exact (Kd.C_below HR0_1.out HB.out) | (with_reducible refine Kd.C_alloc ?_ _) | (with_reducible refine Kd.C_drewN ?_ _) | (with_reducible refine Kd.C_drew ?_))); (case side2 => exact HC0_1.out); rintro e w34 ⟨rfl, hb⟩; refine ⟨_, rfl, ?_⟩; have n0_ := Aside0.mk (blk_below (g := gb405) (o := .cells #[.int .i64 a0_0, .slice A0_1 l0_1.length c0_1] 24 (0, 0)) (by (with_reducible repeat (first | refine blk_drewN ?_ _ | refine blk_drew ?_ | refine blk_alloc ?_ _)); exact BK405.out) hb); have n1_ := Aside0.mk (below_step (by repeat (first | (with_reducible first | exact HB.out | apply below_alloc | apply pw_below_drewN | apply below_drew1 | refine below_set ?_ GE405.out) | exact HB.out)) hb); clear BK405; clear HB; have BK405 := n0_; have HB := n1_; clear n0_ n1_; (try clear hb); (try clear hb2); (try clear hk); (try clear hi); have hcz35_0 : w34.cell? ⟨gb405, 0, none⟩ = some (.int .i64 a0_0) := (blk_cell BK405.out 0).trans rfl; have hcz35_1 : w34.cell? ⟨gb405, 1, none⟩ = some (.slice A0_1 l0_1.length c0_1) := (blk_cell BK405.out 1).trans rfl; have hfz35_0 := blk_frozen BK405.out 0; have hfz35_1 := blk_frozen BK405.out 1) | ((with_reducible refine gate_callee (f := 22) rfl ?_); refine goesL_ (some 38) rfl rfl Try.func22 (by kernel_rfl) rfl #[.agg #[.int .i64 a0_0, .slice A0_1 l0_1.length c0_1], .int .i64 a1, .int .i64 (wrap64 (a2 - a3))] rfl (by (try simp only [List.map_toArray, List.map_cons, List.map_nil]); first | done | rfl | (simp only [List.length_drop, List.length_take]; rfl)) ?_; (with_reducible refine (resp_With.calls kj4 a0_0 _ _ l0_1 a1 (wrap64 (a2 - a3)) t409 t410 _ ?side1 ?side2 A18.out).mono ?_); (case side1 => repeat (first | exact (Kd.C_below HR0_1.out HB.out) | (with_reducible refine Kd.C_alloc ?_ _) | (with_reducible refine Kd.C_drewN ?_ _) | (with_reducible refine Kd.C_drew ?_))); (case side2 => exact HC0_1.out); rintro e w36 ⟨rfl, hb⟩; refine ⟨_, rfl, ?_⟩; have n0_ := Aside0.mk (blk_below (g := gb405) (o := .cells #[.int .i64 a0_0, .slice A0_1 l0_1.length c0_1] 24 (0, 0)) (by (with_reducible repeat (first | refine blk_drewN ?_ _ | refine blk_drew ?_ | refine blk_alloc ?_ _)); exact BK405.out) hb); have n1_ := Aside0.mk (below_step (by repeat (first | (with_reducible first | exact HB.out | apply below_alloc | apply pw_below_drewN | apply below_drew1 | refine below_set ?_ GE405.out) | exact HB.out)) hb); clear BK405; clear HB; have BK405 := n0_; have HB := n1_; clear n0_ n1_; (try clear hb); (try clear hb2); (try clear hk); (try clear hi)) | (go_at_call 23; (with_reducible refine (taskmasterlaw12_known.calls kj4  t412 _ A32.out).mono ?_); rintro e w37 ⟨rfl, hb⟩; have n0_ := Aside0.mk (blk_below (g := gb405) (o := .cells #[.int .i64 a0_0, .slice A0_1 l0_1.length c0_1] 24 (0, 0)) (by (with_reducible repeat (first | refine blk_drewN ?_ _ | refine blk_drew ?_ | refine blk_alloc ?_ _)); exact BK405.out) hb); have n1_ := Aside0.mk (below_step (by repeat (first | (with_reducible first | exact HB.out | apply below_alloc | apply pw_below_drewN | apply below_drew1 | refine below_set ?_ GE405.out) | exact HB.out)) hb); clear BK405; clear HB; have BK405 := n0_; have HB := n1_; clear n0_ n1_; (try clear hb); (try clear hb2); (try clear hk); (try clear hi)))
              go_ret
              exact ⟨by first | rfl | (simp [errW_none, errW_some] <;> rfl) | (simp [*, errW_none, errW_some] <;> rfl), by repeat (first | (with_reducible first | exact HB.out | apply below_alloc | apply pw_below_drewN | apply below_drew1 | refine below_set ?_ GE405.out) | exact HB.out)⟩
            · rw [if_neg c31] at H
              have c31b0 : decide (t409 ≤ t407) = false := decide_eq_false c31
              clear c31
              obtain rfl := Option.some.inj H
              have hcz38_0 : wc.cell? ⟨gb405, 0, none⟩ = some (.int .i64 a0_0) := (blk_cell BK405.out 0).trans rfl
              have hcz38_1 : wc.cell? ⟨gb405, 1, none⟩ = some (.slice A0_1 l0_1.length c0_1) := (blk_cell BK405.out 1).trans rfl
              have hfz38_0 := blk_frozen BK405.out 0
              have hfz38_1 := blk_frozen BK405.out 1
              go_wp2_with (first | ((with_reducible refine gate_callee (f := 22) rfl ?_); refine goesL_ (some 29) rfl rfl Try.func22 (by kernel_rfl) rfl #[.agg #[.int .i64 a0_0, .slice A0_1 l0_1.length c0_1], .int .i64 a1, .int .i64 a2] rfl (by (try simp only [List.map_toArray, List.map_cons, List.map_nil]); first | done | rfl | (simp only [List.length_drop, List.length_take]; rfl)) ?_; (with_reducible refine (resp_With.calls kj4 a0_0 _ _ l0_1 a1 a2 t407 t408 _ ?side1 ?side2 A17.out).mono ?_); (case side1 => repeat (first | exact (Kd.C_below HR0_1.out HB.out) | (with_reducible refine Kd.C_alloc ?_ _) | (with_reducible refine Kd.C_drewN ?_ _) | (with_reducible refine Kd.C_drew ?_))); (case side2 => exact HC0_1.out); rintro e w39 ⟨rfl, hb⟩; refine ⟨_, rfl, ?_⟩; have n0_ := Aside0.mk (blk_below (g := gb405) (o := .cells #[.int .i64 a0_0, .slice A0_1 l0_1.length c0_1] 24 (0, 0)) (by (with_reducible repeat (first | refine blk_drewN ?_ _ | refine blk_drew ?_ | refine blk_alloc ?_ _)); exact BK405.out) hb); have n1_ := Aside0.mk (below_step (by repeat (first | (with_reducible first | exact HB.out | apply below_alloc | apply pw_below_drewN | apply below_drew1 | refine below_set ?_ GE405.out) | exact HB.out)) hb); clear BK405; clear HB; have BK405 := n0_; have HB := n1_; clear n0_ n1_; (try clear hb); (try clear hb2); (try clear hk); (try clear hi); have hcz40_0 : w39.cell? ⟨gb405, 0, none⟩ = some (.int .i64 a0_0) := (blk_cell BK405.out 0).trans rfl; have hcz40_1 : w39.cell? ⟨gb405, 1, none⟩ = some (.slice A0_1 l0_1.length c0_1) := (blk_cell BK405.out 1).trans rfl; have hfz40_0 := blk_frozen BK405.out 0; have hfz40_1 := blk_frozen BK405.out 1) | ((with_reducible refine gate_callee (f := 22) rfl ?_); refine goesL_ (some 38) rfl rfl Try.func22 (by kernel_rfl) rfl #[.agg #[.int .i64 a0_0, .slice A0_1 l0_1.length c0_1], .int .i64 a1, .int .i64 (wrap64 (a2 - a3))] rfl (by (try simp only [List.map_toArray, List.map_cons, List.map_nil]); first | done | rfl | (simp only [List.length_drop, List.length_take]; rfl)) ?_; (with_reducible refine (resp_With.calls kj4 a0_0 _ _ l0_1 a1 (wrap64 (a2 - a3)) t409 t410 _ ?side1 ?side2 A18.out).mono ?_); (case side1 => repeat (first | exact (Kd.C_below HR0_1.out HB.out) | (with_reducible refine Kd.C_alloc ?_ _) | (with_reducible refine Kd.C_drewN ?_ _) | (with_reducible refine Kd.C_drew ?_))); (case side2 => exact HC0_1.out); rintro e w41 ⟨rfl, hb⟩; refine ⟨_, rfl, ?_⟩; have n0_ := Aside0.mk (blk_below (g := gb405) (o := .cells #[.int .i64 a0_0, .slice A0_1 l0_1.length c0_1] 24 (0, 0)) (by (with_reducible repeat (first | refine blk_drewN ?_ _ | refine blk_drew ?_ | refine blk_alloc ?_ _)); exact BK405.out) hb); have n1_ := Aside0.mk (below_step (by repeat (first | (with_reducible first | exact HB.out | apply below_alloc | apply pw_below_drewN | apply below_drew1 | refine below_set ?_ GE405.out) | exact HB.out)) hb); clear BK405; clear HB; have BK405 := n0_; have HB := n1_; clear n0_ n1_; (try clear hb); (try clear hb2); (try clear hk); (try clear hi)))
              go_ret
              exact ⟨by first | rfl | (simp [errW_none, errW_some] <;> rfl) | (simp [*, errW_none, errW_some] <;> rfl), by repeat (first | (with_reducible first | exact HB.out | apply below_alloc | apply pw_below_drewN | apply below_drew1 | refine below_set ?_ GE405.out) | exact HB.out)⟩
end Go.Proofs.Ytllnlmcofaomlaa.QAc
namespace Go.Proofs.Ytllnlmcofaomlaa.RefSet
open Go.RowKit Go.Proofs.Ytllnlmcofaomlaa.QAc Go.Proofs.YtllnlmcofaomlaaW.PrintWords Go.Proofs.YtllnlmcofaomlaaW.PrintLast Go.Proofs.YtllnlmcofaomlaaW.PrintMore
set_option linter.unusedVariables false
theorem evp {α : Type} {c : Prop} [Decidable c] {f g : Nat → Option α} {r : α} (h : c) (k : Ev f r) : Ev (fun n => if c then f n else g n) r := Ev.congr (fun _ => if_pos h) k
theorem evn {α : Type} {c : Prop} [Decidable c] {f g : Nat → Option α} {r : α} (h : ¬ c) (k : Ev g r) : Ev (fun n => if c then f n else g n) r := Ev.congr (fun _ => if_neg h) k
theorem evb {α β : Type} {o : Option α} {f : Nat → α → Option β} {a : α} {r : β} (h : o = some a) (k : Ev (fun n => f n a) r) : Ev (fun n => o.bind (f n)) r := Ev.congr (fun n => by rw [h]; rfl) k
def Ends {α : Type} (g : Nat → Option α) : Prop := ∃ r, Ev g r
theorem endsNow {α : Type} (r : α) : Ends (fun _ => some r) := ⟨r, Ev.now r⟩
theorem endsStep {α : Type} {g f : Nat → Option α} (h : ∀ k, g (k + 1) = f k) (k : Ends f) : Ends g := let ⟨r, e⟩ := k; ⟨r, Ev.step h e⟩
theorem endsIf {α : Type} {c : Prop} [Decidable c] {f g : Nat → Option α} (h : c → Ends f) (k : ¬ c → Ends g) : Ends (fun n => if c then f n else g n) := by
  by_cases hc : c
  · obtain ⟨r, e⟩ := h hc; exact ⟨r, evp hc e⟩
  · obtain ⟨r, e⟩ := k hc; exact ⟨r, evn hc e⟩
theorem endsBind {α β : Type} {g : Nat → Option α} {f : Nat → α → Option β} (h : Ends g) (k : ∀ a, Ends (fun n => f n a)) : Ends (fun n => (g n).bind (f n)) := by
  obtain ⟨a, e⟩ := h
  obtain ⟨r, e'⟩ := k a
  exact ⟨r, Ev.bind e e'⟩
theorem endsAt {α β : Type} {o : Option α} {f : Nat → α → Option β} {a : α} (h : o = some a) (k : Ends (fun n => f n a)) : Ends (fun n => o.bind (f n)) := let ⟨r, e⟩ := k; ⟨r, evb h e⟩
theorem w64 {n : Int} (h0 : -9223372036854775808 ≤ n) (h1 : n ≤ 9223372036854775807) : wrap64 n = n := by unfold wrap64; omega
theorem small_some (c : Int) : ∃ b, taskmasterref4_small.f c = some b := by unfold taskmasterref4_small.f; split <;> exact ⟨_, rfl⟩
theorem digit_some (c : Int) : ∃ b, taskmasterref4_digit.f c = some b := by unfold taskmasterref4_digit.f; split <;> exact ⟨_, rfl⟩
theorem word_loop (s : ByteArray) (l : List ByteArray) (hl : l.length ≤ 100) (d : Nat) : ∀ i : Nat, i + d = l.length → Ends (fun k => taskmasterref4_word.l0 k s l (i : Int)) := by
  induction d with
  | zero =>
    intro i hi
    refine endsStep (fun k => by rw [taskmasterref4_word.l0]) ?_
    exact endsIf (fun h => absurd h (by omega)) (fun _ => endsNow _)
  | succ d ih =>
    intro i hi
    refine endsStep (fun k => by rw [taskmasterref4_word.l0]) ?_
    refine endsIf (fun _ => endsIf (fun _ => endsIf (fun _ => endsNow _) (fun _ => ?_)) (fun h => absurd (Int.natCast_nonneg i) h)) (fun h => absurd (show (i : Int) < (l.length : Int) by omega) h)
    rw [w64 (by omega) (by omega)]
    exact ih (i + 1) (by omega)
theorem word_ends (s : ByteArray) : Ends (fun k => taskmasterref4_word.f k s) := by
  unfold taskmasterref4_word.f
  refine endsAt (show taskmasterref4_Words.f = some _ from rfl) ?_
  exact word_loop s _ (by decide) 10 0 (by decide)
theorem one_j3 (s : ByteArray) (i : Int) (h0 : 0 ≤ i) (h1 : i ≤ s.size) : Ends (fun k => taskmasterref4_one.j3 k s i) := by
  refine endsStep (fun k => by rw [taskmasterref4_one.j3]) ?_
  refine endsIf (fun _ => endsIf (fun _ => ?_) (fun h => absurd h1 h)) (fun h => absurd h0 h)
  refine endsBind (word_ends _) (fun b => ?_)
  exact endsIf (fun _ => endsNow _) (fun _ => endsIf (fun _ => endsNow _) (fun _ => endsNow _))
theorem one_l1 (s : ByteArray) (hs : s.size ≤ 9223372036854775807) (d : Nat) : ∀ i : Int, 0 ≤ i → i ≤ s.size → (s.size : Int) - i = d → Ends (fun k => taskmasterref4_one.l1 k s i) := by
  induction d with
  | zero =>
    intro i h0 h1 hd
    refine endsStep (fun k => by rw [taskmasterref4_one.l1]) ?_
    exact endsIf (fun h => absurd h (by omega)) (fun _ => one_j3 s i h0 h1)
  | succ d ih =>
    intro i h0 h1 hd
    refine endsStep (fun k => by rw [taskmasterref4_one.l1]) ?_
    have more : Ends (fun k => taskmasterref4_one.l1 k s (wrap64 (i + 1))) := by
      rw [w64 (by omega) (by omega)]; exact ih (i + 1) (by omega) (by omega) (by omega)
    refine endsIf (fun _ => endsIf (fun _ => ?_) (fun h => absurd h0 h)) (fun _ => one_j3 s i h0 h1)
    obtain ⟨b, hb⟩ := small_some (bt s i)
    refine endsAt hb (endsIf (fun _ => more) (fun _ => ?_))
    obtain ⟨c, hc⟩ := digit_some (bt s i)
    exact endsAt hc (endsIf (fun _ => more) (fun _ => endsIf (fun _ => more) (fun _ => one_j3 s i h0 h1)))
theorem one_no (s : ByteArray) (i v : Int) (h0 : 0 < (s.size : Int)) : Ends (fun k => taskmasterref4_one.j1 k s i v false) := by
  refine endsStep (fun k => by rw [taskmasterref4_one.j1]) ?_
  exact endsIf (fun h => by cases h) (fun _ => endsIf (fun _ => endsNow _) (fun _ => endsIf (fun _ => endsIf (fun _ => endsIf (fun _ => endsNow _) (fun _ => endsNow _)) (fun h => absurd h0 h)) (fun _ => endsNow _)))
theorem one_l0 (s : ByteArray) (hs : s.size ≤ 9223372036854775807) (h00 : 0 < (s.size : Int)) (d : Nat) : ∀ i v : Int, 0 ≤ i → i ≤ s.size → (s.size : Int) - i = d → Ends (fun k => taskmasterref4_one.l0 k s i v) := by
  induction d with
  | zero =>
    intro i v h0 h1 hd
    refine endsStep (fun k => by rw [taskmasterref4_one.l0]) ?_
    exact endsIf (fun h => absurd h (by omega)) (fun _ => one_no s i v h00)
  | succ d ih =>
    intro i v h0 h1 hd
    refine endsStep (fun k => by rw [taskmasterref4_one.l0]) ?_
    have more : ∀ v', Ends (fun k => taskmasterref4_one.l0 k s (wrap64 (i + 1)) v') := fun v' => by
      rw [w64 (by omega) (by omega)]; exact ih (i + 1) v' (by omega) (by omega) (by omega)
    refine endsIf (fun hlt => endsIf (fun _ => ?_) (fun h => absurd h0 h)) (fun _ => one_no s i v h00)
    obtain ⟨b, hb⟩ := digit_some (bt s i)
    refine endsAt hb ?_
    cases b with
    | false => exact one_no s i v h00
    | true =>
      refine endsStep (fun k => by rw [taskmasterref4_one.j1]) ?_
      exact endsIf (fun _ => endsIf (fun _ => endsIf (fun _ => endsIf (fun _ => more _) (fun h => absurd hlt h)) (fun h => absurd h0 h)) (fun _ => more _)) (fun h => absurd rfl h)
theorem one_ends (s : ByteArray) (hs : s.size ≤ 9223372036854775807) (h0 : 0 < (s.size : Int)) : Ends (fun k => taskmasterref4_one.f k s) := by
  unfold taskmasterref4_one.f
  refine endsIf (fun _ => endsIf (fun _ => endsNow _) (fun _ => ?_)) (fun h => absurd h0 h)
  obtain ⟨b, hb⟩ := digit_some (bt s 0)
  refine endsAt hb (endsIf (fun _ => one_l0 s hs h0 s.size 0 0 (by omega) (by omega) (by omega)) (fun _ => ?_))
  obtain ⟨c, hc⟩ := small_some (bt s 0)
  exact endsAt hc (endsIf (fun _ => one_l1 s hs s.size 0 (by omega) (by omega) (by omega)) (fun _ => endsNow _))
theorem name_ends (s : ByteArray) (hs : s.size ≤ 9223372036854775807) : Ends (fun k => taskmasterref4_Name.f k s) := by
  unfold taskmasterref4_Name.f
  refine endsIf (fun _ => endsNow _) (fun hz => endsIf (fun h0 => ?_) (fun h => absurd (show 0 < (s.size : Int) by omega) h))
  obtain ⟨b, hb⟩ := small_some (bt s 0)
  refine endsAt hb (endsIf (fun _ => ?_) (fun _ => endsNow _))
  exact endsBind (one_ends s hs h0) (fun _ => endsIf (fun _ => endsNow _) (fun _ => endsNow _))
def sum : List Int → Int
  | [] => 0
  | x :: l => x + sum l
theorem rd_drop {l : List Int} {i : Nat} (h : i < l.length) : l.drop i = rd l (i : Int) :: l.drop (i + 1) := by
  rw [List.drop_eq_getElem_cons h]; unfold rd
  rw [Int.toNat_natCast, List.getD_eq_getElem?_getD, List.getElem?_eq_getElem h]; rfl
theorem in_eq (n a b : Int) : taskmasterref5_in.f n a b = some (decide (a ≤ n ∧ n ≤ b)) := by
  unfold taskmasterref5_in.f
  by_cases h : a ≤ n
  · rw [if_pos (show n ≥ a from h)]; simp [h]
  · rw [if_neg (show ¬ n ≥ a from h)]; simp [h]
theorem sum_bound {l : List Int} (h : ∀ x ∈ l, 1 ≤ x ∧ x ≤ 10000) : (l.length : Int) ≤ sum l ∧ sum l ≤ 10000 * l.length := by
  induction l with
  | nil => simp [sum]
  | cons x l ih =>
    have h1 := ih (fun y hy => h y (List.mem_cons_of_mem _ hy))
    have h2 := h x List.mem_cons_self
    simp only [sum, List.length_cons, Int.natCast_add, Int.natCast_one]
    omega
theorem work_loop (s : ByteArray) (a1 a2 a3 a4 a5 : Int) (l : List Int) (a7 a8 : Int) (hl : l.length ≤ 8) (h : ∀ x ∈ l, 1 ≤ x ∧ x ≤ 10000) (d : Nat) : ∀ (k i : Nat) (acc : Int), i + d = l.length → d < k → 0 ≤ acc → acc ≤ 10000 * i →
    taskmasterref5_Work.l0 k acc (i : Int) s a1 a2 a3 a4 a5 l a7 a8 = some (acc + sum (l.drop i)) := by
  induction d with
  | zero =>
    intro k i acc hi hk h0 h1
    obtain ⟨k, rfl⟩ : ∃ m, k = m + 1 := ⟨k - 1, by omega⟩
    simp only [taskmasterref5_Work.l0]
    rw [if_neg (by omega), List.drop_eq_nil_of_le (by omega)]; simp [sum]
  | succ d ih =>
    intro k i acc hi hk h0 h1
    obtain ⟨k, rfl⟩ : ∃ m, k = m + 1 := ⟨k - 1, by omega⟩
    have hlt : i < l.length := by omega
    have hm : rd l (i : Int) ∈ l := by
      unfold rd; rw [Int.toNat_natCast, List.getD_eq_getElem?_getD, List.getElem?_eq_getElem hlt]; exact List.getElem_mem hlt
    have hx := h _ hm
    simp only [taskmasterref5_Work.l0]
    rw [if_pos (by omega), if_pos (by omega), w64 (n := acc + rd l (i : Int)) (by omega) (by omega), w64 (n := (i : Int) + 1) (by omega) (by omega), rd_drop hlt]
    have := ih k (i + 1) (acc + rd l (i : Int)) (by omega) (by omega) (by omega) (by omega)
    rw [show ((i + 1 : Nat) : Int) = (i : Int) + 1 by omega] at this
    rw [this]
    simp only [sum]
    rw [Int.add_assoc]
theorem work_eq (s : ByteArray) (a1 a2 a3 a4 a5 : Int) (l : List Int) (a7 a8 : Int) (hl : l.length ≤ 8) (h : ∀ x ∈ l, 1 ≤ x ∧ x ≤ 10000) (k : Nat) (hk : 8 < k) : taskmasterref5_Work.f k s a1 a2 a3 a4 a5 l a7 a8 = some (sum l) := by
  unfold taskmasterref5_Work.f
  have := work_loop s a1 a2 a3 a4 a5 l a7 a8 hl h l.length k 0 0 (by omega) (by omega) (by omega) (by omega)
  rw [List.drop_zero, Int.zero_add] at this
  exact this
def TaskOK (x : S38) (p : Int) : Prop :=
  1 ≤ x.f6.length ∧ x.f6.length ≤ 8 ∧ Go.bits .andNot .u64 x.f8 x.f7 = 0 ∧ (∀ r ∈ x.f6, 1 ≤ r ∧ r ≤ 10000) ∧ sum x.f6 ≤ x.f2 ∧ x.f2 ≤ x.f1 ∧ x.f1 ≤ 10000 ∧
  ((x.f3 = 0 ∧ x.f4 = 0 ∧ x.f5 = 0) ∨ (x.f3 = 1 ∧ 0 ≤ x.f4 ∧ x.f4 ≤ 10000 ∧ x.f5 = 0) ∨ (x.f3 = 2 ∧ x.f4 = 0 ∧ 0 ≤ x.f5 ∧ x.f5 ≤ p))
theorem is_loop (x : S38) (p : Int) (h1 : 1 ≤ x.f6.length) (h8 : x.f6.length ≤ 8) (hb : Go.bits .andNot .u64 x.f8 x.f7 = 0) (d : Nat) : ∀ i : Nat, i + d = x.f6.length → (∀ j : Nat, j < i → 1 ≤ rd x.f6 (j : Int) ∧ rd x.f6 (j : Int) ≤ 10000) →
    ∃ b, Ev (fun k => taskmasterref5_Is.l0 k p (i : Int) x.f0 x.f1 x.f2 x.f3 x.f4 x.f5 x.f6 x.f7 x.f8) b ∧ (b = true → TaskOK x p) := by
  induction d with
  | zero =>
    intro i hi hall
    have hr : ∀ r ∈ x.f6, 1 ≤ r ∧ r ≤ 10000 := fun r hm => by
      obtain ⟨j, hj, rfl⟩ := List.mem_iff_getElem.1 hm
      have := hall j (by omega)
      unfold rd at this
      rw [Int.toNat_natCast, List.getD_eq_getElem?_getD, List.getElem?_eq_getElem hj] at this
      exact this
    have hw : Ev (fun k => taskmasterref5_Work.f k x.f0 x.f1 x.f2 x.f3 x.f4 x.f5 x.f6 x.f7 x.f8) (sum x.f6) := ⟨9, fun k hk => work_eq _ _ _ _ _ _ _ _ _ h8 hr k (by omega)⟩
    have no : Ev (fun k => taskmasterref5_Is.j2 k p true x.f0 x.f1 x.f2 x.f3 x.f4 x.f5 x.f6 x.f7 x.f8) false := Ev.step (fun k => by rw [taskmasterref5_Is.j2, if_pos rfl]) (Ev.now false)
    by_cases c1 : sum x.f6 > x.f2
    · refine ⟨false, Ev.step (fun k => by rw [taskmasterref5_Is.l0]) (evn (by omega) (Ev.bind hw (evp c1 no))), fun h => by cases h⟩
    · by_cases c2 : x.f2 > x.f1
      · refine ⟨false, Ev.step (fun k => by rw [taskmasterref5_Is.l0]) (evn (by omega) (Ev.bind hw (evn c1 (evp c2 no)))), fun h => by cases h⟩
      · by_cases c3 : x.f1 > 10000
        · refine ⟨false, Ev.step (fun k => by rw [taskmasterref5_Is.l0]) (evn (by omega) (Ev.bind hw (evn c1 (evn c2 ?_)))), fun h => by cases h⟩
          rw [decide_eq_true c3]; exact no
        · have base : ∀ {b : Bool}, Ev (fun k => taskmasterref5_Is.j2 k p false x.f0 x.f1 x.f2 x.f3 x.f4 x.f5 x.f6 x.f7 x.f8) b → Ev (fun k => taskmasterref5_Is.l0 k p (i : Int) x.f0 x.f1 x.f2 x.f3 x.f4 x.f5 x.f6 x.f7 x.f8) b := fun hb => by
            refine Ev.step (fun k => by rw [taskmasterref5_Is.l0]) (evn (by omega) (Ev.bind hw (evn c1 (evn c2 ?_))))
            rw [decide_eq_false c3]; exact hb
          have ok : ∀ (_ : (x.f3 = 0 ∧ x.f4 = 0 ∧ x.f5 = 0) ∨ (x.f3 = 1 ∧ 0 ≤ x.f4 ∧ x.f4 ≤ 10000 ∧ x.f5 = 0) ∨ (x.f3 = 2 ∧ x.f4 = 0 ∧ 0 ≤ x.f5 ∧ x.f5 ≤ p)), TaskOK x p := fun hm => ⟨h1, h8, hb, hr, by omega, by omega, by omega, hm⟩
          by_cases m0 : x.f3 = 0
          · by_cases q0 : x.f4 = 0
            · refine ⟨x.f5 == 0, base (Ev.step (fun k => by rw [taskmasterref5_Is.j2, if_neg (by simp), if_pos m0, if_pos q0]) (Ev.now _)), fun h => ok (Or.inl ⟨m0, q0, by simpa using h⟩)⟩
            · exact ⟨false, base (Ev.step (fun k => by rw [taskmasterref5_Is.j2, if_neg (by simp), if_pos m0, if_neg q0]) (Ev.now _)), fun h => by cases h⟩
          · by_cases m1 : x.f3 = 1
            · by_cases q0 : 0 ≤ x.f4 ∧ x.f4 ≤ 10000
              · refine ⟨x.f5 == 0, base (Ev.step (fun k => by rw [taskmasterref5_Is.j2, if_neg (by simp), if_neg m0, if_pos m1, in_eq, decide_eq_true q0, Option.bind_some, if_pos rfl]) (Ev.now _)), fun h => ok (Or.inr (Or.inl ⟨m1, q0.1, q0.2, by simpa using h⟩))⟩
              · exact ⟨false, base (Ev.step (fun k => by rw [taskmasterref5_Is.j2, if_neg (by simp), if_neg m0, if_pos m1, in_eq, decide_eq_false q0, Option.bind_some, if_neg (by simp)]) (Ev.now _)), fun h => by cases h⟩
            · by_cases m2 : x.f3 = 2
              · by_cases q0 : x.f4 = 0
                · by_cases t0 : x.f5 ≥ 0
                  · refine ⟨decide (x.f5 ≤ p), base (Ev.step (fun k => by rw [taskmasterref5_Is.j2, if_neg (by simp), if_neg m0, if_neg m1, if_pos m2, if_pos q0, if_pos t0]) (Ev.now _)), fun h => ok (Or.inr (Or.inr ⟨m2, q0, t0, of_decide_eq_true h⟩))⟩
                  · exact ⟨false, base (Ev.step (fun k => by rw [taskmasterref5_Is.j2, if_neg (by simp), if_neg m0, if_neg m1, if_pos m2, if_pos q0, if_neg t0]) (Ev.now _)), fun h => by cases h⟩
                · exact ⟨false, base (Ev.step (fun k => by rw [taskmasterref5_Is.j2, if_neg (by simp), if_neg m0, if_neg m1, if_pos m2, if_neg q0]) (Ev.now _)), fun h => by cases h⟩
              · exact ⟨false, base (Ev.step (fun k => by rw [taskmasterref5_Is.j2, if_neg (by simp), if_neg m0, if_neg m1, if_neg m2]) (Ev.now _)), fun h => by cases h⟩
  | succ d ih =>
    intro i hi hall
    by_cases c : 1 ≤ rd x.f6 (i : Int) ∧ rd x.f6 (i : Int) ≤ 10000
    · obtain ⟨b, e, hb'⟩ := ih (i + 1) (by omega) (fun j hj => by
        by_cases hji : j = i
        · subst hji; exact c
        · exact hall j (by omega))
      refine ⟨b, Ev.step (fun k => by rw [taskmasterref5_Is.l0]) (evp (by omega) (evp (by omega) (evb (in_eq _ _ _) (evp (decide_eq_true c) ?_)))), hb'⟩
      rw [w64 (by omega) (by omega)]; exact e
    · have hc : ¬ (decide (1 ≤ rd x.f6 (i : Int) ∧ rd x.f6 (i : Int) ≤ 10000) = true) := fun h => c (of_decide_eq_true h)
      exact ⟨false, Ev.step (fun k => by rw [taskmasterref5_Is.l0]) (evp (by omega) (evp (by omega) (evb (in_eq _ _ _) (evn hc (Ev.now false))))), fun h => by cases h⟩
theorem is_ends (x : S38) (p : Int) (hs : x.f0.size ≤ 9223372036854775807) : ∃ b, Ev (fun k => taskmasterref5_Is.f k x.f0 x.f1 x.f2 x.f3 x.f4 x.f5 x.f6 x.f7 x.f8 p) b ∧ (b = true → TaskOK x p) := by
  unfold taskmasterref5_Is.f
  obtain ⟨n, hn⟩ := name_ends x.f0 hs
  have no : Ev (fun k => taskmasterref5_Is.j0 k p true x.f0 x.f1 x.f2 x.f3 x.f4 x.f5 x.f6 x.f7 x.f8) false := Ev.step (fun k => by rw [taskmasterref5_Is.j0, if_pos rfl]) (Ev.now false)
  by_cases c0 : n = true
  · by_cases c1 : (x.f6.length : Int) < 1
    · exact ⟨false, Ev.bind hn (evp c0 (evp c1 no)), fun h => by cases h⟩
    · by_cases c2 : (x.f6.length : Int) > 8
      · exact ⟨false, Ev.bind hn (evp c0 (evn c1 (evp c2 no))), fun h => by cases h⟩
      · by_cases c3 : Go.bits .andNot .u64 x.f8 x.f7 = 0
        · obtain ⟨b, e, hb⟩ := is_loop x p (by omega) (by omega) c3 x.f6.length 0 (by omega) (fun j hj => absurd hj (Nat.not_lt_zero _))
          refine ⟨b, Ev.bind hn (evp c0 (evn c1 (evn c2 (Ev.step (fun k => by rw [taskmasterref5_Is.j0, if_neg (by rw [c3]; simp)]; rfl) e)))), hb⟩
        · refine ⟨false, Ev.bind hn (evp c0 (evn c1 (evn c2 ?_))), fun h => by cases h⟩
          rw [show (Go.bits .andNot .u64 x.f8 x.f7 != 0) = true by simpa using c3]; exact no
  · exact ⟨false, Ev.bind hn (evn c0 no), fun h => by cases h⟩
def SetOK (r : Int) (l : List S38) : Prop := 0 ≤ r ∧ r ≤ 10000 ∧ 1 ≤ l.length ∧ l.length ≤ 8 ∧ ∀ i : Int, 0 ≤ i → i < l.length → TaskOK (rd_T38 l i) i
theorem all_loops (r : Int) (l : List S38) (h0 : 0 ≤ r) (h1 : r ≤ 10000) (h2 : 1 ≤ l.length) (h8 : l.length ≤ 8) (hs : ∀ y ∈ l, y.f0.size ≤ 9223372036854775807) (d : Nat) : ∀ i : Nat, i + d = l.length → (∀ j : Int, 0 ≤ j → j < i → TaskOK (rd_T38 l j) j) →
    ∃ b, Ev (fun k => taskmasterref5_All.l0 k (i : Int) r l) b ∧ (b = true → SetOK r l) := by
  induction d with
  | zero =>
    intro i hi hall
    exact ⟨true, Ev.step (fun k => by rw [taskmasterref5_All.l0]) (evn (by omega) (Ev.now true)), fun _ => ⟨h0, h1, h2, h8, fun j a b => hall j a (by omega)⟩⟩
  | succ d ih =>
    intro i hi hall
    have hlt : i < l.length := by omega
    have hm : rd_T38 l (i : Int) ∈ l := by
      unfold rd_T38; rw [Int.toNat_natCast, List.getD_eq_getElem?_getD, List.getElem?_eq_getElem hlt]; exact List.getElem_mem hlt
    obtain ⟨t, ht, hok⟩ := is_ends (rd_T38 l (i : Int)) (i : Int) (hs _ hm)
    by_cases c : t = true
    · obtain ⟨b, e, hb⟩ := ih (i + 1) (by omega) (fun j a q => by
        by_cases hji : j = i
        · subst hji; exact hok c
        · exact hall j a (by omega))
      have inner : ∀ d' j : Nat, j + d' = i → ∃ b', Ev (fun k => taskmasterref5_All.l1 k (i : Int) (j : Int) r l) b' ∧ (b' = true → SetOK r l) := by
        intro d'
        induction d' with
        | zero =>
          intro j hj
          refine ⟨b, Ev.step (fun k => by rw [taskmasterref5_All.l1]) (evn (by omega) ?_), hb⟩
          rw [w64 (by omega) (by omega)]; exact e
        | succ d' ih' =>
          intro j hj
          by_cases q : ((rd_T38 l (j : Int)).f0).toList = ((rd_T38 l (i : Int)).f0).toList
          · exact ⟨false, Ev.step (fun k => by rw [taskmasterref5_All.l1]) (evp (by omega) (evp (by omega) (evp (by omega) (evp (by omega) (evp (by omega) (evp q (Ev.now false))))))), fun h => by cases h⟩
          · obtain ⟨b', e', hb'⟩ := ih' (j + 1) (by omega)
            refine ⟨b', Ev.step (fun k => by rw [taskmasterref5_All.l1]) (evp (by omega) (evp (by omega) (evp (by omega) (evp (by omega) (evp (by omega) (evn q ?_)))))), hb'⟩
            rw [w64 (by omega) (by omega)]; exact e'
      obtain ⟨b', e', hb'⟩ := inner i 0 (by omega)
      exact ⟨b', Ev.step (fun k => by rw [taskmasterref5_All.l0]) (evp (by omega) (evp (by omega) (Ev.bind ht (evp c e')))), hb'⟩
    · exact ⟨false, Ev.step (fun k => by rw [taskmasterref5_All.l0]) (evp (by omega) (evp (by omega) (Ev.bind ht (evn c (Ev.now false))))), fun h => by cases h⟩
theorem all_ends (r : Int) (l : List S38) (hs : ∀ y ∈ l, y.f0.size ≤ 9223372036854775807) : ∃ b, Ev (fun k => taskmasterref5_All.f k r l) b ∧ (b = true → SetOK r l) := by
  unfold taskmasterref5_All.f
  have no : Ev (fun k => taskmasterref5_All.j0 k true r l) false := Ev.step (fun k => by rw [taskmasterref5_All.j0, if_pos rfl]) (Ev.now false)
  by_cases c0 : 0 ≤ r ∧ r ≤ 10000
  · by_cases c1 : (l.length : Int) < 1
    · exact ⟨false, evb (in_eq _ _ _) (evp (decide_eq_true c0) (evp c1 no)), fun h => by cases h⟩
    · by_cases c2 : (l.length : Int) > 8
      · refine ⟨false, evb (in_eq _ _ _) (evp (decide_eq_true c0) (evn c1 ?_)), fun h => by cases h⟩
        rw [decide_eq_true c2]; exact no
      · obtain ⟨b, e, hb⟩ := all_loops r l c0.1 c0.2 (by omega) (by omega) hs l.length 0 (by omega) (fun j a q => absurd q (by omega))
        refine ⟨b, evb (in_eq _ _ _) (evp (decide_eq_true c0) (evn c1 ?_)), hb⟩
        rw [decide_eq_false c2]
        exact Ev.step (fun k => by rw [taskmasterref5_All.j0, if_neg (by simp)]; rfl) e
  · have hc : ¬ (decide (0 ≤ r ∧ r ≤ 10000) = true) := fun h => c0 (of_decide_eq_true h)
    exact ⟨false, evb (in_eq _ _ _) (evn hc no), fun h => by cases h⟩
end Go.Proofs.Ytllnlmcofaomlaa.RefSet
namespace Go.Proofs.Ytllnlmcofaomlaa.CostBase
open Go.RowKit Go.Proofs.Ytllnlmcofaomlaa.QAc Go.Proofs.YtllnlmcofaomlaaW.PrintWords Go.Proofs.YtllnlmcofaomlaaW.PrintLast Go.Proofs.YtllnlmcofaomlaaW.PrintMore Go.Proofs.Ytllnlmcofaomlaa.FloatMath Go.Proofs.Ytllnlmcofaomlaa.RefSet
set_option linter.unusedVariables false
def isT (n : Int) : Bool := decide (0 ≤ n ∧ n ≤ 1099511627776)
theorem isT_iff {n : Int} : isT n = true ↔ 0 ≤ n ∧ n ≤ 1099511627776 := by unfold isT; simp
theorem is_eq (n : Int) : num_Is.f n = some (isT n) := by
  unfold num_Is.f isT
  by_cases h : n ≥ 0
  · rw [if_pos h]; simp [show 0 ≤ n from h]
  · rw [if_neg h]; simp [show ¬ 0 ≤ n from h]
theorem told_eq (n : Int) : num_told.f n true = some (if isT n = true then (n, true) else (0, false)) := by
  unfold num_told.f
  rw [if_pos rfl, is_eq, Option.bind_some]
  split <;> rfl
theorem add_eq {a b : Int} (ha : isT a = true) (hb : isT b = true) : num_Add.f a b = some (if a + b ≤ 1099511627776 then (a + b, true) else (0, false)) := by
  have h1 := isT_iff.mp ha
  have h2 := isT_iff.mp hb
  unfold num_Add.f
  rw [is_eq, Option.bind_some, if_pos ha, is_eq, Option.bind_some, if_pos hb, w64 (by omega) (by omega), told_eq]
  by_cases h : a + b ≤ 1099511627776
  · rw [if_pos (isT_iff.mpr ⟨by omega, h⟩), if_pos h]; rfl
  · rw [if_neg (fun q => h (isT_iff.mp q).2), if_neg h]; rfl
def fo (n : Int) : Nat := floatOfInt .f64 n
def ofV (a b : Int) : (Nat × Nat) × Bool := if isT a = true ∧ isT b = true then ((fo a, fo b), true) else ((0, 0), false)
theorem of_eq (a b : Int) : cost_Of.f a b = some (ofV a b) := by
  unfold cost_Of.f ofV
  rw [is_eq, Option.bind_some]
  by_cases ha : isT a = true
  · rw [if_pos ha, is_eq, Option.bind_some]
    by_cases hb : isT b = true
    · rw [if_pos hb, if_pos ⟨ha, hb⟩]; rfl
    · rw [if_neg hb, if_neg (fun x => hb x.2)]
  · rw [if_neg ha, if_neg (fun x => ha x.1)]
def partsV (c : Nat × Nat) : Int × Int × Bool := if okPart c.1 = true ∧ okPart c.2 = true then (FloatMath.part c.1, FloatMath.part c.2, true) else (0, 0, false)
theorem parts_eq (c : Nat × Nat) : cost_parts.f c = some (partsV c) := by
  unfold cost_parts.f cost_whole.f partsV
  rw [Option.bind_some, Option.bind_some]
  by_cases ha : okPart c.1 = true
  · rw [if_pos ha]
    by_cases hb : okPart c.2 = true
    · rw [if_pos hb, if_pos ⟨ha, hb⟩]
    · rw [if_neg hb, if_neg (fun x => hb x.2)]
  · rw [if_neg ha, if_neg (fun x => ha x.1)]
theorem partsV_in (c : Nat × Nat) : isT (partsV c).1 = true ∧ isT (partsV c).2.1 = true := by
  unfold partsV
  split
  · exact ⟨isT_iff.mpr (part_in _), isT_iff.mpr (part_in _)⟩
  · exact ⟨by decide, by decide⟩
theorem partsV_fo {a b : Int} (ha : -9007199254740992 < a ∧ a < 9007199254740992) (hb : -9007199254740992 < b ∧ b < 9007199254740992) : partsV (fo a, fo b) = if isT a = true ∧ isT b = true then (a, b, true) else (0, 0, false) := by
  obtain ⟨a1, a2⟩ := of_int ha
  obtain ⟨b1, b2⟩ := of_int hb
  unfold partsV
  show (if okPart (floatOfInt .f64 a) = true ∧ okPart (floatOfInt .f64 b) = true then (FloatMath.part (floatOfInt .f64 a), FloatMath.part (floatOfInt .f64 b), true) else (0, 0, false)) = _
  rw [a1, b1, a2, b2]
  show (if isT a = true ∧ isT b = true then _ else _) = _
  by_cases h : isT a = true ∧ isT b = true
  · rw [if_pos h, if_pos h, if_pos (isT_iff.mp h.1), if_pos (isT_iff.mp h.2)]
  · rw [if_neg h, if_neg h]
theorem partsV_T {a b : Int} (ha : isT a = true) (hb : isT b = true) : partsV (fo a, fo b) = (a, b, true) := by
  have h1 := isT_iff.mp ha
  have h2 := isT_iff.mp hb
  rw [partsV_fo (by omega) (by omega), if_pos ⟨ha, hb⟩]
def totalV (c : Nat × Nat) : Int × Bool := if (partsV c).2.2 = true ∧ (partsV c).1 + (partsV c).2.1 ≤ 1099511627776 then ((partsV c).1 + (partsV c).2.1, true) else (0, false)
theorem total_eq (c : Nat × Nat) : cost_Total.f c = some (totalV c) := by
  obtain ⟨h1, h2⟩ := partsV_in c
  unfold cost_Total.f totalV
  rw [parts_eq, Option.bind_some]
  by_cases h : (partsV c).2.2 = true
  · rw [if_pos h, add_eq h1 h2, Option.bind_some]
    by_cases hs : (partsV c).1 + (partsV c).2.1 ≤ 1099511627776
    · rw [if_pos hs, if_pos ⟨h, hs⟩]
    · rw [if_neg hs, if_neg (fun x => hs x.2)]
  · rw [if_neg h, if_neg (fun x => h x.1)]
end Go.Proofs.Ytllnlmcofaomlaa.CostBase
namespace Go.Proofs.Ytllnlmcofaomlaa.BitsMath
set_option linter.unusedVariables false
def pop : Nat → Nat → Nat
  | 0, _ => 0
  | n + 1, x => x % 2 + pop n (x / 2)
theorem pop_le : ∀ (n x : Nat), pop n x ≤ n
  | 0, _ => Nat.le_refl _
  | n + 1, x => by have := pop_le n (x / 2); unfold pop; omega
theorem pop_add (a : Nat) : ∀ (b x : Nat), pop (b + a) x = pop b x + pop a (x / 2 ^ b)
  | 0, x => by simp [pop]
  | b + 1, x => by
    rw [show b + 1 + a = (b + a) + 1 by omega]
    show x % 2 + pop (b + a) (x / 2) = x % 2 + pop b (x / 2) + _
    rw [pop_add a b (x / 2), Nat.div_div_eq_div_mul, show 2 * 2 ^ b = 2 ^ (b + 1) by rw [Nat.pow_succ, Nat.mul_comm]]
    omega
theorem pop_mod (b : Nat) : ∀ (x : Nat), pop b (x % 2 ^ b) = pop b x := by
  induction b with
  | zero => intro x; rfl
  | succ b ih =>
    intro x
    unfold pop
    have h1 : x % 2 ^ (b + 1) % 2 = x % 2 := Nat.mod_mod_of_dvd _ ⟨2 ^ b, by rw [Nat.pow_succ, Nat.mul_comm]⟩
    have h2 : x % 2 ^ (b + 1) / 2 = x / 2 % 2 ^ b := by
      rw [Nat.pow_succ, Nat.mul_comm, Nat.mod_mul_right_div_self]
    rw [h1, h2, ih]
theorem pop_byte (n r q : Nat) (hr : r < 256) : pop (8 + n) (r + 256 * q) = pop 8 r + pop n q := by
  rw [pop_add n 8]
  have e : (r + 256 * q) / 2 ^ 8 = q := by omega
  rw [e]
  have e2 : pop 8 (r + 256 * q) = pop 8 r := by
    rw [← pop_mod 8 (r + 256 * q), show (r + 256 * q) % 2 ^ 8 = r by omega]
  rw [e2]
theorem and_byte (r q m M : Nat) (hr : r < 256) (hm : m < 256) : (r + 256 * q) &&& (m + 256 * M) = (r &&& m) + 256 * (q &&& M) := by
  have h1 : (r &&& m) < 256 := Nat.lt_of_le_of_lt Nat.and_le_left hr
  apply Nat.eq_of_testBit_eq
  intro i
  rw [Nat.testBit_and, Nat.add_comm r, Nat.add_comm m, Nat.add_comm (r &&& m), show (256 : Nat) = 2 ^ 8 from rfl, Nat.testBit_two_pow_mul_add _ hr, Nat.testBit_two_pow_mul_add _ hm, Nat.testBit_two_pow_mul_add _ h1]
  split
  · rw [Nat.testBit_and]
  · rw [Nat.testBit_and]
def st1 (M x : Nat) : Nat := (x / 2 &&& M) + (x &&& M)
def st2 (M x : Nat) : Nat := (x / 4 &&& M) + (x &&& M)
def st3 (M x : Nat) : Nat := (x / 16 + x) &&& M
theorem low1 : ∀ r, r < 256 → ∀ e, e < 2 → (r / 2 + 128 * e) &&& 85 = r / 2 &&& 85 := by decide +kernel
theorem low2 : ∀ r, r < 256 → ∀ e, e < 4 → (r / 4 + 64 * e) &&& 51 = r / 4 &&& 51 := by decide +kernel
theorem st1_byte (r q M : Nat) (hr : r < 256) : st1 (85 + 256 * M) (r + 256 * q) = st1 85 r + 256 * st1 M q := by
  unfold st1
  have e : (r + 256 * q) / 2 = (r / 2 + 128 * (q % 2)) + 256 * (q / 2) := by omega
  rw [e, and_byte _ _ 85 M (by omega) (by omega), and_byte r q 85 M hr (by omega), low1 r hr _ (by omega), Nat.mul_add]
  omega
theorem st2_byte (r q M : Nat) (hr : r < 256) : st2 (51 + 256 * M) (r + 256 * q) = st2 51 r + 256 * st2 M q := by
  unfold st2
  have e : (r + 256 * q) / 4 = (r / 4 + 64 * (q % 4)) + 256 * (q / 4) := by omega
  rw [e, and_byte _ _ 51 M (by omega) (by omega), and_byte r q 51 M hr (by omega), low2 r hr _ (by omega), Nat.mul_add]
  omega
theorem low3 : ∀ r, r < 103 → ∀ e, e < 5 → r / 16 ≤ 4 → r % 16 ≤ 4 → (r / 16 + 16 * e + r) &&& 15 = (r / 16 + r) &&& 15 := by decide +kernel
theorem st3_byte (r q M : Nat) (hr : r < 103) (h1 : r / 16 ≤ 4) (h2 : r % 16 ≤ 4) (hq : q % 16 ≤ 4) : st3 (15 + 256 * M) (r + 256 * q) = st3 15 r + 256 * st3 M q := by
  unfold st3
  have e : (r + 256 * q) / 16 + (r + 256 * q) = (r / 16 + 16 * (q % 16) + r) + 256 * (q / 16 + q) := by omega
  rw [e, and_byte _ _ 15 M (by omega) (by omega), low3 r hr _ (by omega) h1 h2]
theorem byte_tells : ∀ r, r < 256 → st1 85 r < 256 ∧ st2 51 (st1 85 r) < 103 ∧ st2 51 (st1 85 r) / 16 ≤ 4 ∧ st2 51 (st1 85 r) % 16 ≤ 4 ∧ st3 15 (st2 51 (st1 85 r)) = pop 8 r := by decide +kernel
def rep (m : Nat) : Nat → Nat
  | 0 => 0
  | k + 1 => m + 256 * rep m k
def bsum : Nat → Nat → Nat
  | 0, _ => 0
  | k + 1, x => pop 8 (x % 256) + 256 * bsum k (x / 256)
theorem st_zero (M : Nat) : st1 M 0 = 0 ∧ st2 M 0 = 0 ∧ st3 M 0 = 0 := by
  unfold st1 st2 st3
  simp
theorem steps : ∀ (k x : Nat), x < 256 ^ k → (st2 (rep 51 k) (st1 (rep 85 k) x)) % 16 ≤ 4 ∧ st3 (rep 15 k) (st2 (rep 51 k) (st1 (rep 85 k) x)) = bsum k x
  | 0, x, h => by
    obtain rfl : x = 0 := by simpa using h
    rw [(st_zero _).1, (st_zero _).2.1, (st_zero _).2.2]
    exact ⟨by omega, rfl⟩
  | k + 1, x, h => by
    have hx : x = x % 256 + 256 * (x / 256) := by omega
    have hq : x / 256 < 256 ^ k := by
      rw [Nat.div_lt_iff_lt_mul (by omega), ← Nat.pow_succ]; exact h
    obtain ⟨i1, i2⟩ := steps k (x / 256) hq
    obtain ⟨b1, b2, b3, b4, b5⟩ := byte_tells (x % 256) (by omega)
    have e1 : st1 (rep 85 (k + 1)) x = st1 85 (x % 256) + 256 * st1 (rep 85 k) (x / 256) := by
      conv => lhs; rw [hx]
      exact st1_byte _ _ _ (by omega)
    have e2 : st2 (rep 51 (k + 1)) (st1 (rep 85 (k + 1)) x) = st2 51 (st1 85 (x % 256)) + 256 * st2 (rep 51 k) (st1 (rep 85 k) (x / 256)) := by
      rw [e1]; exact st2_byte _ _ _ b1
    rw [e2]
    refine ⟨by omega, ?_⟩
    show st3 (15 + 256 * rep 15 k) _ = _
    rw [st3_byte _ _ _ b2 b3 b4 i1, i2, b5]; rfl
theorem pop8_le (x : Nat) : pop 8 x ≤ 8 := pop_le 8 x
theorem part_low {y a b : Nat} (ha : a < 256) (hy : y = a + 256 * b) : y / 256 = b := by omega
theorem part_low' {y a b : Nat} (ha : a < 65536) (hy : y = a + 65536 * b) : y / 65536 = b := by omega
theorem part_low'' {y a b : Nat} (ha : a < 4294967296) (hy : y = a + 4294967296 * b) : y / 4294967296 = b := by omega
theorem part_mod {s t : Nat} (hs : s < 128) : (s + 256 * t) % 128 = s := by omega
theorem id0 (c0 c1 c2 c3 c4 c5 c6 c7 : Nat) : c0 + 256 * c1 + 65536 * c2 + 16777216 * c3 + 4294967296 * c4 + 1099511627776 * c5 + 281474976710656 * c6 + 72057594037927936 * c7 = c0 + 256 * (c1 + 256 * (c2 + 256 * (c3 + 256 * (c4 + 256 * (c5 + 256 * (c6 + 256 * c7)))))) := by omega
theorem id1 (c0 c1 c2 c3 c4 c5 c6 c7 : Nat) : (c0 + 256 * c1 + 65536 * c2 + 16777216 * c3 + 4294967296 * c4 + 1099511627776 * c5 + 281474976710656 * c6 + 72057594037927936 * c7) + (c1 + 256 * (c2 + 256 * (c3 + 256 * (c4 + 256 * (c5 + 256 * (c6 + 256 * c7)))))) = ((c0 + c1) + 256 * (c1 + c2)) + 65536 * ((c2 + c3) + 256 * (c3 + c4) + 65536 * ((c4 + c5) + 256 * (c5 + c6) + 65536 * ((c6 + c7) + 256 * c7))) := by omega
theorem id2 (c0 c1 c2 c3 c4 c5 c6 c7 : Nat) : ((c0 + c1) + 256 * (c1 + c2)) + 65536 * ((c2 + c3) + 256 * (c3 + c4) + 65536 * ((c4 + c5) + 256 * (c5 + c6) + 65536 * ((c6 + c7) + 256 * c7))) + ((c2 + c3) + 256 * (c3 + c4) + 65536 * ((c4 + c5) + 256 * (c5 + c6) + 65536 * ((c6 + c7) + 256 * c7))) =
    ((c0 + c1 + c2 + c3) + 256 * (c1 + c2 + c3 + c4) + 65536 * ((c2 + c3 + c4 + c5) + 256 * (c3 + c4 + c5 + c6))) + 4294967296 * ((c4 + c5 + c6 + c7) + 256 * (c5 + c6 + c7) + 65536 * ((c6 + c7) + 256 * c7)) := by omega
theorem id3 (c0 c1 c2 c3 c4 c5 c6 c7 : Nat) : ((c0 + c1 + c2 + c3) + 256 * (c1 + c2 + c3 + c4) + 65536 * ((c2 + c3 + c4 + c5) + 256 * (c3 + c4 + c5 + c6))) + 4294967296 * ((c4 + c5 + c6 + c7) + 256 * (c5 + c6 + c7) + 65536 * ((c6 + c7) + 256 * c7)) + ((c4 + c5 + c6 + c7) + 256 * (c5 + c6 + c7) + 65536 * ((c6 + c7) + 256 * c7)) =
    (c0 + c1 + c2 + c3 + c4 + c5 + c6 + c7) + 256 * ((c1 + c2 + c3 + c4) + (c5 + c6 + c7) + 256 * ((c2 + c3 + c4 + c5) + (c6 + c7) + 256 * (c3 + c4 + c5 + c6 + c7)) + 16777216 * ((c4 + c5 + c6 + c7) + 256 * (c5 + c6 + c7) + 65536 * ((c6 + c7) + 256 * c7))) := by omega
theorem fold_eight (c0 c1 c2 c3 c4 c5 c6 c7 y : Nat) (h0 : c0 ≤ 8) (h1 : c1 ≤ 8) (h2 : c2 ≤ 8) (h3 : c3 ≤ 8) (h4 : c4 ≤ 8) (h5 : c5 ≤ 8) (h6 : c6 ≤ 8) (h7 : c7 ≤ 8)
    (hy : y = c0 + 256 * c1 + 65536 * c2 + 16777216 * c3 + 4294967296 * c4 + 1099511627776 * c5 + 281474976710656 * c6 + 72057594037927936 * c7) :
    y + y / 256 < 18446744073709551616 ∧ (y + y / 256) + (y + y / 256) / 65536 < 18446744073709551616 ∧ (y + y / 256) + (y + y / 256) / 65536 + ((y + y / 256) + (y + y / 256) / 65536) / 4294967296 < 18446744073709551616 ∧
    ((y + y / 256) + (y + y / 256) / 65536 + ((y + y / 256) + (y + y / 256) / 65536) / 4294967296) % 128 = c0 + c1 + c2 + c3 + c4 + c5 + c6 + c7 := by
  have e1 : y / 256 = c1 + 256 * (c2 + 256 * (c3 + 256 * (c4 + 256 * (c5 + 256 * (c6 + 256 * c7))))) := part_low (a := c0) (by clear hy; omega) (by rw [hy]; exact id0 c0 c1 c2 c3 c4 c5 c6 c7)
  have z : y + y / 256 = ((c0 + c1) + 256 * (c1 + c2)) + 65536 * ((c2 + c3) + 256 * (c3 + c4) + 65536 * ((c4 + c5) + 256 * (c5 + c6) + 65536 * ((c6 + c7) + 256 * c7))) := by rw [e1, hy]; exact id1 c0 c1 c2 c3 c4 c5 c6 c7
  clear e1
  generalize y + y / 256 = Z at z ⊢
  have e2 : Z / 65536 = (c2 + c3) + 256 * (c3 + c4) + 65536 * ((c4 + c5) + 256 * (c5 + c6) + 65536 * ((c6 + c7) + 256 * c7)) := part_low' (a := (c0 + c1) + 256 * (c1 + c2)) (by omega) z
  have z2 : Z + Z / 65536 = ((c0 + c1 + c2 + c3) + 256 * (c1 + c2 + c3 + c4) + 65536 * ((c2 + c3 + c4 + c5) + 256 * (c3 + c4 + c5 + c6))) + 4294967296 * ((c4 + c5 + c6 + c7) + 256 * (c5 + c6 + c7) + 65536 * ((c6 + c7) + 256 * c7)) := by rw [e2, z]; exact id2 c0 c1 c2 c3 c4 c5 c6 c7
  have zb : Z < 18446744073709551616 := by rw [z]; clear z2 z e2 hy; omega
  clear e2 z hy
  generalize Z + Z / 65536 = V at z2 ⊢
  have e3 : V / 4294967296 = (c4 + c5 + c6 + c7) + 256 * (c5 + c6 + c7) + 65536 * ((c6 + c7) + 256 * c7) := part_low'' (a := (c0 + c1 + c2 + c3) + 256 * (c1 + c2 + c3 + c4) + 65536 * ((c2 + c3 + c4 + c5) + 256 * (c3 + c4 + c5 + c6))) (by omega) z2
  have vb : V < 18446744073709551616 := by rw [z2]; clear z2 e3 zb; omega
  have z3 : V + V / 4294967296 = (c0 + c1 + c2 + c3 + c4 + c5 + c6 + c7) + 256 * ((c1 + c2 + c3 + c4) + (c5 + c6 + c7) + 256 * ((c2 + c3 + c4 + c5) + (c6 + c7) + 256 * (c3 + c4 + c5 + c6 + c7)) + 16777216 * ((c4 + c5 + c6 + c7) + 256 * (c5 + c6 + c7) + 65536 * ((c6 + c7) + 256 * c7))) := by rw [e3, z2]; exact id3 c0 c1 c2 c3 c4 c5 c6 c7
  clear z2 e3
  refine ⟨zb, vb, by rw [z3]; clear z3 zb vb; omega, ?_⟩
  rw [z3]
  exact part_mod (by clear z3 zb vb; omega)
theorem bsum_eight (x : Nat) : bsum 8 x = pop 8 (x % 256) + 256 * pop 8 (x / 256 % 256) + 65536 * pop 8 (x / 256 / 256 % 256) + 16777216 * pop 8 (x / 256 / 256 / 256 % 256) + 4294967296 * pop 8 (x / 256 / 256 / 256 / 256 % 256) +
    1099511627776 * pop 8 (x / 256 / 256 / 256 / 256 / 256 % 256) + 281474976710656 * pop 8 (x / 256 / 256 / 256 / 256 / 256 / 256 % 256) + 72057594037927936 * pop 8 (x / 256 / 256 / 256 / 256 / 256 / 256 / 256 % 256) := by
  simp only [bsum]; omega
theorem pop_step (n x : Nat) : pop (8 + n) x = pop 8 (x % 256) + pop n (x / 256) := by
  have h := pop_byte n (x % 256) (x / 256) (by omega)
  rw [show x % 256 + 256 * (x / 256) = x by omega] at h
  exact h
theorem pop_eight (x : Nat) : pop 64 x = pop 8 (x % 256) + pop 8 (x / 256 % 256) + pop 8 (x / 256 / 256 % 256) + pop 8 (x / 256 / 256 / 256 % 256) + pop 8 (x / 256 / 256 / 256 / 256 % 256) +
    pop 8 (x / 256 / 256 / 256 / 256 / 256 % 256) + pop 8 (x / 256 / 256 / 256 / 256 / 256 / 256 % 256) + pop 8 (x / 256 / 256 / 256 / 256 / 256 / 256 / 256 % 256) := by
  rw [show (64 : Nat) = 8 + (8 + (8 + (8 + (8 + (8 + (8 + (8 + 0))))))) from rfl, pop_step, pop_step, pop_step, pop_step, pop_step, pop_step, pop_step, pop_step]
  simp only [pop]
  omega
end Go.Proofs.Ytllnlmcofaomlaa.BitsMath
namespace Go.Proofs.Ytllnlmcofaomlaa.QAc
open Go.RowKit Go.Proofs.YtllnlmcofaomlaaW.PrintWords Go.Proofs.YtllnlmcofaomlaaW.PrintLast Go.Proofs.YtllnlmcofaomlaaW.PrintMore
attribute [local go_sem] max2_int min2_int max_two min_two max_three min_three max_four min_four   -- for this text's walks alone
set_option linter.unusedVariables false
set_option linter.unusedSimpArgs false
end Go.Proofs.Ytllnlmcofaomlaa.QAc
namespace Go.Proofs.Ytllnlmcofaomlaa.QAc
open Go.RowKit Go.Proofs.YtllnlmcofaomlaaW.PrintWords Go.Proofs.YtllnlmcofaomlaaW.PrintLast Go.Proofs.YtllnlmcofaomlaaW.PrintMore
attribute [local go_sem] max2_int min2_int max_two min_two max_three min_three max_four min_four   -- for this text's walks alone
set_option linter.unusedVariables false
set_option linter.unusedSimpArgs false
end Go.Proofs.Ytllnlmcofaomlaa.QAc
namespace Go.Proofs.Ytllnlmcofaomlaa.QAc
open Go.RowKit Go.Proofs.YtllnlmcofaomlaaW.PrintWords Go.Proofs.YtllnlmcofaomlaaW.PrintLast Go.Proofs.YtllnlmcofaomlaaW.PrintMore
attribute [local go_sem] max2_int min2_int max_two min_two max_three min_three max_four min_four   -- for this text's walks alone
set_option linter.unusedVariables false
set_option linter.unusedSimpArgs false
end Go.Proofs.Ytllnlmcofaomlaa.QAc
namespace Go.Proofs.Ytllnlmcofaomlaa.BitsPure
open Go.RowKit Go.Proofs.Ytllnlmcofaomlaa.QAc Go.Proofs.YtllnlmcofaomlaaW.PrintWords Go.Proofs.YtllnlmcofaomlaaW.PrintLast Go.Proofs.YtllnlmcofaomlaaW.PrintMore Go.Proofs.Ytllnlmcofaomlaa.BitsMath
set_option linter.unusedVariables false
theorem wrapN {a : Nat} (h : a < 18446744073709551616) : IntKind.u64.wrap (a : Int) = (a : Int) := by rw [IntKind.wrap_u64]; omega
theorem wr64 (n : Int) (h0 : 0 ≤ n) (h1 : n < 2 ^ 64) : IntKind.u64.wrap n = n := by rw [IntKind.wrap_u64]; omega
theorem andN (a b : Nat) (ha : a < 18446744073709551616) (hb : b < 18446744073709551616) : Go.bits .and .u64 (a : Int) (b : Int) = ((a &&& b : Nat) : Int) := (bits_nat .u64 64 (by decide) wr64 a b ha hb).1
theorem orN (a b : Nat) (ha : a < 18446744073709551616) (hb : b < 18446744073709551616) : Go.bits .or .u64 (a : Int) (b : Int) = ((a ||| b : Nat) : Int) := (bits_nat .u64 64 (by decide) wr64 a b ha hb).2
theorem and_lt {a b : Nat} (ha : a < 18446744073709551616) : a &&& b < 18446744073709551616 := Nat.lt_of_le_of_lt Nat.and_le_left ha
theorem or_lt {a b : Nat} (ha : a < 18446744073709551616) (hb : b < 18446744073709551616) : a ||| b < 18446744073709551616 := Nat.or_lt_two_pow (n := 64) ha hb
def S1 (x : Int) : Int := IntKind.u64.wrap ((Go.bits .and .u64 (x / 2) 6148914691236517205) + (Go.bits .and .u64 x 6148914691236517205))
def S2 (x : Int) : Int := IntKind.u64.wrap ((Go.bits .and .u64 (x / 4) 3689348814741910323) + (Go.bits .and .u64 x 3689348814741910323))
def S3 (x : Int) : Int := Go.bits .and .u64 (IntKind.u64.wrap ((x / 16) + x)) 1085102592571150095
def S4 (x : Int) : Int := IntKind.u64.wrap (x + x / 256)
def S5 (x : Int) : Int := IntKind.u64.wrap (x + x / 65536)
def S6 (x : Int) : Int := IntKind.u64.wrap (x + x / 4294967296)
theorem ones_steps (x : Int) : bits_OnesCount64.f x = some (Go.bits .and .i64 (wrap64 (S6 (S5 (S4 (S3 (S2 (S1 x))))))) 127) := by
  unfold bits_OnesCount64.f S6 S5 S4 S3 S2 S1
  rfl
theorem S1_eq (n : Nat) (h : n < 18446744073709551616) (hs : st1 (rep 85 8) n < 18446744073709551616) : S1 (n : Int) = (st1 (rep 85 8) n : Nat) := by
  have e : (6148914691236517205 : Int) = ((rep 85 8 : Nat) : Int) := by decide
  unfold S1
  rw [e, show (n : Int) / 2 = ((n / 2 : Nat) : Int) by omega, andN _ _ (by omega) (by decide), andN _ _ h (by decide), ← Int.natCast_add]
  exact wrapN hs
theorem S2_eq (n : Nat) (h : n < 18446744073709551616) (hs : st2 (rep 51 8) n < 18446744073709551616) : S2 (n : Int) = (st2 (rep 51 8) n : Nat) := by
  have e : (3689348814741910323 : Int) = ((rep 51 8 : Nat) : Int) := by decide
  unfold S2
  rw [e, show (n : Int) / 4 = ((n / 4 : Nat) : Int) by omega, andN _ _ (by omega) (by decide), andN _ _ h (by decide), ← Int.natCast_add]
  exact wrapN hs
theorem S3_eq (n : Nat) (h : n / 16 + n < 18446744073709551616) : S3 (n : Int) = (st3 (rep 15 8) n : Nat) := by
  have e : (1085102592571150095 : Int) = ((rep 15 8 : Nat) : Int) := by decide
  unfold S3
  rw [e, show (n : Int) / 16 = ((n / 16 : Nat) : Int) by omega, ← Int.natCast_add, wrapN h, andN _ _ h (by decide)]
  rfl
theorem st1_lt {k : Nat} : ∀ x, x < 256 ^ k → st1 (rep 85 k) x < 256 ^ k := by
  induction k with
  | zero => intro x h; obtain rfl : x = 0 := by simpa using h
            rw [(st_zero _).1]; decide
  | succ k ih =>
    intro x h
    have hq : x / 256 < 256 ^ k := by rw [Nat.div_lt_iff_lt_mul (by omega), ← Nat.pow_succ]; exact h
    have hb := byte_tells (x % 256) (by omega)
    have e1 : st1 (rep 85 (k + 1)) x = st1 85 (x % 256) + 256 * st1 (rep 85 k) (x / 256) := by
      conv => lhs; rw [show x = x % 256 + 256 * (x / 256) by omega]
      exact st1_byte _ _ _ (by omega)
    have := ih _ hq
    rw [e1, Nat.pow_succ]; omega
theorem st2_lt {k : Nat} : ∀ x, x < 256 ^ k → 255 * st2 (rep 51 k) (st1 (rep 85 k) x) + 68 ≤ 68 * 256 ^ k := by
  induction k with
  | zero => intro x h; obtain rfl : x = 0 := by simpa using h
            rw [(st_zero _).1, (st_zero _).2.1]; decide
  | succ k ih =>
    intro x h
    have hq : x / 256 < 256 ^ k := by rw [Nat.div_lt_iff_lt_mul (by omega), ← Nat.pow_succ]; exact h
    have hb := byte_tells (x % 256) (by omega)
    have e1 : st1 (rep 85 (k + 1)) x = st1 85 (x % 256) + 256 * st1 (rep 85 k) (x / 256) := by
      conv => lhs; rw [show x = x % 256 + 256 * (x / 256) by omega]
      exact st1_byte _ _ _ (by omega)
    have e2 : st2 (rep 51 (k + 1)) (st1 (rep 85 (k + 1)) x) = st2 51 (st1 85 (x % 256)) + 256 * st2 (rep 51 k) (st1 (rep 85 k) (x / 256)) := by
      rw [e1]; exact st2_byte _ _ _ hb.1
    have := ih _ hq
    rw [e2, Nat.pow_succ]; omega
theorem mask7 (u : Nat) (h : u < 18446744073709551616) : Go.bits .and .i64 (wrap64 (u : Int)) 127 = ((u % 128 : Nat) : Int) := by
  have e : Go.bits .and .i64 (wrap64 (u : Int)) 127 = IntKind.i64.wrap ((BitVec.ofInt 64 (wrap64 (u : Int)) &&& BitVec.ofInt 64 127).toNat : Int) := rfl
  have e1 : (BitVec.ofInt 64 (wrap64 (u : Int))).toNat = u := by
    rw [BitVec.toNat_ofInt]
    unfold wrap64
    omega
  have e2 : (BitVec.ofInt 64 127).toNat = 2 ^ 7 - 1 := by decide
  rw [e, BitVec.toNat_and, e1, e2, Nat.and_two_pow_sub_one_eq_mod, IntKind.wrap_i64]
  omega
theorem ones_eq (n : Nat) (h : n < 18446744073709551616) : bits_OnesCount64.f (n : Int) = some ((pop 64 n : Nat) : Int) := by
  have hk : n < 256 ^ 8 := h
  have a1 := st1_lt n hk
  have a2 := st2_lt n hk
  obtain ⟨_, a3⟩ := steps 8 n hk
  rw [show (256 : Nat) ^ 8 = 18446744073709551616 by decide] at a1 a2
  rw [ones_steps, S1_eq n h a1, S2_eq _ a1 (by omega), S3_eq _ (by omega), a3]
  obtain ⟨f1, f2, f3, f4⟩ := fold_eight _ _ _ _ _ _ _ _ (bsum 8 n) (pop8_le _) (pop8_le _) (pop8_le _) (pop8_le _) (pop8_le _) (pop8_le _) (pop8_le _) (pop8_le _) (bsum_eight n)
  rw [← pop_eight] at f4
  have hp := pop_le 64 n
  generalize bsum 8 n = y at *
  have g1 : S4 (y : Int) = ((y + y / 256 : Nat) : Int) := by unfold S4; rw [show (y : Int) + (y : Int) / 256 = ((y + y / 256 : Nat) : Int) by omega]; exact wrapN f1
  rw [g1]
  generalize y + y / 256 = z at *
  have g2 : S5 (z : Int) = ((z + z / 65536 : Nat) : Int) := by unfold S5; rw [show (z : Int) + (z : Int) / 65536 = ((z + z / 65536 : Nat) : Int) by omega]; exact wrapN f2
  rw [g2]
  generalize z + z / 65536 = v at *
  have g3 : S6 (v : Int) = ((v + v / 4294967296 : Nat) : Int) := by unfold S6; rw [show (v : Int) + (v : Int) / 4294967296 = ((v + v / 4294967296 : Nat) : Int) by omega]; exact wrapN f3
  rw [g3]
  generalize v + v / 4294967296 = u at *
  rw [mask7 u f3, f4]
theorem ones_int (x : Int) (h0 : 0 ≤ x) (h1 : x < 18446744073709551616) : bits_OnesCount64.f x = some ((pop 64 x.toNat : Nat) : Int) := by
  obtain ⟨n, rfl⟩ := Int.eq_ofNat_of_zero_le h0
  rw [ones_eq n (by omega)]; rfl
theorem count_int (x : Int) (h0 : 0 ≤ x) (h1 : x < 18446744073709551616) : bits_Count.f x = some ((pop 64 x.toNat : Nat) : Int) := by
  unfold bits_Count.f; rw [ones_int x h0 h1]; rfl
end Go.Proofs.Ytllnlmcofaomlaa.BitsPure
namespace Go.Proofs.Ytllnlmcofaomlaa.Open
open Go.RowKit Go.Proofs.YtllnlmcofaomlaaW.PrintWords Go.Proofs.YtllnlmcofaomlaaW.PrintLast Go.WideShapes
set_option linter.unusedVariables false
structure Opens (P : Program) {α : Type} (k : Kd α) (t : TypeId) (W : α → Prop) : Prop where
  out : ∀ {H : Type} {enc : TypeId × Value → H} {w : World} {base : Nat} {spare : Nat → Bool} {held : Bool} {fuel : Nat} {cs : List Value} {x : DataW H × List MemPlace},
    DataW.trod enc P w base spare held fuel t cs = some x → ∃ a : α, k.K w a cs ∧ W a
theorem opens_int {P : Program} {t : TypeId} {k : IntKind} (ht : P.underlying t = some (.int k)) : Opens P (Kd.int k) t (fun n => (Lit.int k n).wf = true) := by
  refine ⟨fun {H enc w base spare held fuel cs x} h => ?_⟩
  obtain ⟨n, rfl, _, hw⟩ := DataW.trod_int ht h
  exact ⟨n, rfl, hw⟩
theorem opens_string {P : Program} {t : TypeId} (ht : P.underlying t = some .string) : Opens P Kd.string t (fun s => s.size ≤ maxLen) := by
  refine ⟨fun {H enc w base spare held fuel cs x} h => ?_⟩
  obtain ⟨s, rfl, _, hs⟩ := DataW.trod_string ht h
  exact ⟨s, rfl, hs⟩
theorem addr_add (a : Addr) (i j : Nat) : (a.add i).add j = a.add (i + j) := Go.Deep.add_add a i j
theorem opens_slice {P : Program} {α : Type} [Inhabited α] {d : Kd α} {t e : TypeId} {W : α → Prop} (ht : P.underlying t = some (.slice e)) (hs : P.cellsOf e = d.sz) (hd : Opens P d e W) :
    Opens P (Kd.slice e d) t (fun xs => ∀ x ∈ xs, W x) := by
  refine ⟨fun {H enc w base spare held fuel cs x} h => ?_⟩
  rcases Go.Deep.open_slice ht h with ⟨rfl, _⟩ | ⟨a, len, cap, m, n, D, Pl, rfl, hb, hl, hc, hm, _, hel⟩
  · exact ⟨[], ⟨none, 0, rfl, Nat.le_refl _, rfl, Nat.zero_le _, fun h => absurd h (Nat.lt_irrefl _)⟩, fun x hx => absurd hx (List.not_mem_nil)⟩
  · have hlm : len ≤ m := by rw [hm]; split <;> omega
    have each : ∀ i, i < len → ∃ y : α, (∃ cs', w.cells? base (a.add (i * P.cellsOf e)) (P.cellsOf e) = some cs' ∧ d.K w y cs') ∧ W y := fun i hi => by
      obtain ⟨cs', h1, h2⟩ := hel i (by omega)
      obtain ⟨y, hy, hw⟩ := hd.out h2
      exact ⟨y, ⟨cs', h1, hy⟩, hw⟩
    obtain ⟨f, hf⟩ := Go.Deep.choose_lt each
    have hlen : ((List.range len).map f).length = len := by simp
    refine ⟨(List.range len).map f, ⟨some a, cap, by rw [hlen], by rw [hlen]; exact hl, rfl, ?_, ?_⟩, ?_⟩
    · rw [hlen]; unfold maxLen at hc; omega
    · intro _
      refine ⟨a, rfl, fun j p hp => ?_⟩
      obtain ⟨hj, rfl⟩ := List.getElem?_eq_some_iff.1 hp
      rw [hlen] at hj
      obtain ⟨⟨cs', h1, h2⟩, _⟩ := hf j hj
      obtain ⟨_, h4, h5⟩ := World.cells?_some h1
      refine ⟨cs', by rw [h4, hs], by simpa using h2, fun i u hu => ?_⟩
      have hi : i < cs'.length := by
        by_cases q : i < cs'.length
        · exact q
        · rw [List.getElem?_eq_none (by omega)] at hu; cases hu
      have := h5 i (by omega)
      rw [addr_add, hs] at this
      rw [this]; exact hu
    · intro x hx
      obtain ⟨i, hi, rfl⟩ := List.mem_map.1 hx
      exact (hf i (List.mem_range.1 hi)).2
structure OpensFrom (P : Program) (fs : Array Field) (i : Nat) (off : Nat) {α : Type} (k : Kd α) (W : α → Prop) : Prop where
  out : ∀ {H : Type} {enc : TypeId × Value → H} {w : World} {base : Nat} {spare : Nat → Bool} {held : Bool} {n : Nat} {cs : List Value} {xs : List (DataW H × List MemPlace)},
    xs.length = fs.size → cs.length = off + k.sz →
    (∀ (j : Nat) (f : Field), fs[j]? = some f → DataW.trod enc P w base spare held n f.type ((cs.drop f.offset).take (P.cellsOf f.type)) = xs[j]?) → ∃ a : α, k.K w a (cs.drop off) ∧ W a
theorem opensFrom_last {P : Program} {fs : Array Field} {i off : Nat} {α : Type} {k : Kd α} {W : α → Prop} (f : Field) (hf : fs[i]? = some f) (ho : f.offset = off) (hs : P.cellsOf f.type = k.sz) (hd : Opens P k f.type W) : OpensFrom P fs i off k W := by
  refine ⟨fun {H enc w base spare held n cs xs} hx hl h => ?_⟩
  have hi : i < xs.length := by
    rw [hx]
    by_cases q : i < fs.size
    · exact q
    · rw [Array.getElem?_eq_none (by omega)] at hf; cases hf
  have h1 := h i f hf
  rw [List.getElem?_eq_getElem hi, ho, hs, List.take_of_length_le (by simp; omega)] at h1
  exact hd.out h1
theorem opensFrom_cons {P : Program} {fs : Array Field} {i off : Nat} {α β : Type} {k : Kd α} {l : Kd β} {W : α → Prop} {V : β → Prop} (f : Field) (hf : fs[i]? = some f) (ho : f.offset = off) (hs : P.cellsOf f.type = k.sz)
    (hd : Opens P k f.type W) (hr : OpensFrom P fs (i + 1) (off + k.sz) l V) : OpensFrom P fs i off (Kd.pair k l) (fun x => W x.1 ∧ V x.2) := by
  refine ⟨fun {H enc w base spare held n cs xs} hx hl h => ?_⟩
  have hi : i < xs.length := by
    rw [hx]
    by_cases q : i < fs.size
    · exact q
    · rw [Array.getElem?_eq_none (by omega)] at hf; cases hf
  have hl' : cs.length = off + (k.sz + l.sz) := hl
  have h1 := h i f hf
  rw [List.getElem?_eq_getElem hi, ho, hs] at h1
  obtain ⟨a, ka, wa⟩ := hd.out h1
  obtain ⟨b, kb, wb⟩ := hr.out hx (by omega) h
  refine ⟨(a, b), ⟨_, _, ?_, ka, kb⟩, wa, wb⟩
  rw [← List.drop_drop, List.take_append_drop]
theorem opens_struct {P : Program} {t : TypeId} {fs : Array Field} {α β : Type} {k : Kd α} {g : β → α} {W : α → Prop} {V : β → Prop} (ht : P.underlying t = some (.struct fs)) (hs : P.cellsOf t = k.sz) (hd : OpensFrom P fs 0 0 k W)
    (inv : α → β) (hg : ∀ a, g (inv a) = a) (hW : ∀ a, W a → V (inv a)) : Opens P (Kd.iso k g) t V := by
  refine ⟨fun {H enc w base spare held fuel cs x} h => ?_⟩
  obtain ⟨xs, n, _, _, hl, hx, hall⟩ := DataW.trod_struct ht h
  obtain ⟨a, ka, wa⟩ := hd.out hx (by rw [hl, hs]; omega) hall
  exact ⟨inv a, by show k.K w (g (inv a)) cs; rw [hg]; simpa using ka, hW a wa⟩
theorem arg_struct {P : Program} {H : Type} {enc : TypeId × Value → H} {w : World} {base : Nat} {spare : Nat → Bool} {held : Bool} {α : Type} {d : Kd α} {t : TypeId} {fs : Array Field} {W : α → Prop} {v : Value} {x : DataW H} {ps : List MemPlace} {r : Reach} {b0 : Nat}
    (ht : P.underlying t = some (.struct fs)) (hv : Value.okWide P w r b0 t v) (ho : Opens P d t W) (h : DataW.Trod enc P w base spare held t v x ps) :
    ∃ (a : α) (cs : List Value), v = .agg cs.toArray ∧ d.K w a cs ∧ W a := by
  obtain ⟨fuel, hf⟩ := h
  obtain ⟨cs, rfl, _⟩ := okWide_struct ht hv
  obtain ⟨a, ha, hw⟩ := ho.out hf
  exact ⟨a, cs.toList, by simp, ha, hw⟩
end Go.Proofs.Ytllnlmcofaomlaa.Open
namespace Go.Proofs.Ytllnlmcofaomlaa.QAc
open Go.RowKit Go.Proofs.YtllnlmcofaomlaaW.PrintWords Go.Proofs.YtllnlmcofaomlaaW.PrintLast Go.Proofs.Ytllnlmcofaomlaa.Open
set_option linter.unusedVariables false
instance : Inhabited S38 := ⟨z38⟩
def wf38 (x : S38) : Prop := ((x.f0).size ≤ maxLen) ∧ ((Lit.int .i64 x.f1).wf = true) ∧ ((Lit.int .i64 x.f2).wf = true) ∧ ((Lit.int .i64 x.f3).wf = true) ∧ ((Lit.int .i64 x.f4).wf = true) ∧ ((Lit.int .i64 x.f5).wf = true) ∧ (∀ y ∈ x.f6, (Lit.int .i64 y).wf = true) ∧ ((Lit.int .u64 x.f7).wf = true) ∧ ((Lit.int .u64 x.f8).wf = true)
theorem opens38 : Opens Try.prog k38 38 wf38 :=
  opens_struct Try.underlying38 (by kernel_rfl) (opensFrom_cons _ rfl rfl (by kernel_rfl) (opens_string Try.underlying9) (opensFrom_cons _ rfl rfl (by kernel_rfl) (opens_int Try.underlying2) (opensFrom_cons _ rfl rfl (by kernel_rfl) (opens_int Try.underlying2) (opensFrom_cons _ rfl rfl (by kernel_rfl) (opens_int Try.underlying3) (opensFrom_cons _ rfl rfl (by kernel_rfl) (opens_int Try.underlying2) (opensFrom_cons _ rfl rfl (by kernel_rfl) (opens_int Try.underlying3) (opensFrom_cons _ rfl rfl (by kernel_rfl) (opens_slice Try.underlying35 (by kernel_rfl) (opens_int Try.underlying2)) (opensFrom_cons _ rfl rfl (by kernel_rfl) (opens_int Try.underlying36) (opensFrom_last _ rfl rfl (by kernel_rfl) (opens_int Try.underlying36)))))))))) (fun a => ⟨a.1, a.2.1, a.2.2.1, a.2.2.2.1, a.2.2.2.2.1, a.2.2.2.2.2.1, a.2.2.2.2.2.2.1, a.2.2.2.2.2.2.2.1, a.2.2.2.2.2.2.2.2⟩) (fun _ => rfl) (fun _ h => h)
structure S24 where
  f0 : Int
  f1 : (List S38)
def z24 : S24 := ⟨0, []⟩
def k24 : Kd S24 := Kd.iso (Kd.pair (Kd.int .i64) (Kd.slice 38 k38)) (fun x : S24 => (x.f0, x.f1))
theorem k24_open {w : World} {x : S24} {cs : List Value} (h : k24.K w x cs) : ∃ A1 c1, cs = [.int .i64 x.f0, .slice A1 x.f1.length c1] ∧ x.f1.length ≤ c1 ∧ Kd.C k38 w A1 x.f1.length x.f1 := by
  obtain ⟨_, _, rfl, rfl, ⟨A1, c1, rfl, l1, g1⟩⟩ := h
  exact ⟨A1, c1, rfl, l1, g1⟩
instance : Inhabited S24 := ⟨z24⟩
def wf24 (x : S24) : Prop := ((Lit.int .i64 x.f0).wf = true) ∧ (∀ y ∈ x.f1, wf38 y)
theorem opens24 : Opens Try.prog k24 24 wf24 :=
  opens_struct Try.underlying24 (by kernel_rfl) (opensFrom_cons _ rfl rfl (by kernel_rfl) (opens_int Try.underlying2) (opensFrom_last _ rfl rfl (by kernel_rfl) (opens_slice Try.underlying22 (by kernel_rfl) opens38))) (fun a => ⟨a.1, a.2⟩) (fun _ => rfl) (fun _ h => h)
end Go.Proofs.Ytllnlmcofaomlaa.QAc
namespace Go.Proofs.Ytllnlmcofaomlaa.AgainPure
open Go.RowKit Go.Proofs.Ytllnlmcofaomlaa.QAc Go.Proofs.YtllnlmcofaomlaaW.PrintWords Go.Proofs.YtllnlmcofaomlaaW.PrintLast Go.Proofs.YtllnlmcofaomlaaW.PrintMore Go.Proofs.Ytllnlmcofaomlaa.RefSet Go.Proofs.Ytllnlmcofaomlaa.BitsPure Go.Proofs.Ytllnlmcofaomlaa.BitsMath
set_option linter.unusedVariables false
theorem u64_in {n : Int} (h : (Lit.int .u64 n).wf = true) : 0 ≤ n ∧ n < 18446744073709551616 := by
  simp only [Lit.wf, IntKind.min, IntKind.max, IntKind.signed, IntKind.bits, Bool.and_eq_true] at h
  simp at h
  omega
theorem i64_in' {n : Int} (h : (Lit.int .i64 n).wf = true) : -9223372036854775808 ≤ n ∧ n ≤ 9223372036854775807 := by
  simp only [Lit.wf, IntKind.min, IntKind.max, IntKind.signed, IntKind.bits, Bool.and_eq_true, decide_eq_true_eq, if_true] at h
  omega
def SetsOK (l : List S38) : Prop := ∀ y ∈ l, (0 ≤ y.f7 ∧ y.f7 < 18446744073709551616) ∧ (0 ≤ y.f8 ∧ y.f8 < 18446744073709551616)
theorem sets_of {l : List S38} (h : ∀ y ∈ l, wf38 y) : SetsOK l := fun y hy => ⟨u64_in (h y hy).2.2.2.2.2.2.2.1, u64_in (h y hy).2.2.2.2.2.2.2.2⟩
theorem sizes_of {l : List S38} (h : ∀ y ∈ l, wf38 y) : ∀ y ∈ l, y.f0.size ≤ 9223372036854775807 := fun y hy => (h y hy).1
theorem rd_in {l : List S38} {i : Int} (h0 : 0 ≤ i) (h1 : i < (l.length : Int)) : rd_T38 l i ∈ l := by
  unfold rd_T38; rw [List.getD_eq_getElem?_getD, List.getElem?_eq_getElem (show i.toNat < l.length by omega)]; exact List.getElem_mem _
theorem rd_dropT {l : List S38} {i : Nat} (h : i < l.length) : l.drop i = rd_T38 l (i : Int) :: l.drop (i + 1) := by
  rw [List.drop_eq_getElem_cons h]; unfold rd_T38
  rw [Int.toNat_natCast, List.getD_eq_getElem?_getD, List.getElem?_eq_getElem h]; rfl
def orAll : List S38 → Nat → Nat
  | [], a => a
  | x :: l, a => orAll l (a ||| x.f8.toNat)
theorem or_int {a : Nat} {u : Int} (ha : a < 18446744073709551616) (h : 0 ≤ u ∧ u < 18446744073709551616) : Go.bits .or .u64 (a : Int) u = ((a ||| u.toNat : Nat) : Int) := by
  obtain ⟨n, rfl⟩ := Int.eq_ofNat_of_zero_le h.1
  exact orN a n ha (by omega)
theorem and_int {a : Nat} {u : Int} (ha : a < 18446744073709551616) (h : 0 ≤ u ∧ u < 18446744073709551616) : Go.bits .and .u64 u (a : Int) = ((u.toNat &&& a : Nat) : Int) := by
  obtain ⟨n, rfl⟩ := Int.eq_ofNat_of_zero_le h.1
  exact andN n a (by omega) ha
theorem is_at (r : Int) (l : List S38) (i : Int) : again_is.f r l i = some (decide (0 ≤ i ∧ i < (l.length : Int))) := by
  unfold again_is.f
  by_cases h : 0 ≤ i
  · rw [if_pos (show i ≥ 0 from h)]; simp [h]
  · rw [if_neg (show ¬ i ≥ 0 from h)]; simp [h]
def ticksV (r : Int) (x : Nat) : Int := wrap64 (r * (pop 64 x : Nat))
theorem ticks_eq (r : Int) (l : List S38) (n : Nat) (h : n < 18446744073709551616) : again_ticks.f r l (n : Int) = some (ticksV r n) := by
  unfold again_ticks.f
  rw [count_int (n : Int) (by omega) (by omega), Option.bind_some]; rfl
theorem ticksV_in {r : Int} (h0 : 0 ≤ r) (h1 : r ≤ 10000) (x : Nat) : ticksV r x = r * (pop 64 x : Nat) ∧ 0 ≤ ticksV r x ∧ ticksV r x ≤ 640000 := by
  have hp := pop_le 64 x
  have a : 0 ≤ r * ((pop 64 x : Nat) : Int) := Int.mul_nonneg h0 (by omega)
  have b : r * ((pop 64 x : Nat) : Int) ≤ 10000 * 64 := Int.mul_le_mul h1 (by omega) (by omega) (by omega)
  have e : ticksV r x = r * (pop 64 x : Nat) := w64 (by omega) (by omega)
  rw [e]; exact ⟨rfl, a, by omega⟩
def ownV (r : Int) (l : List S38) (i : Int) : Int := if 0 ≤ i ∧ i < (l.length : Int) then ticksV r (rd_T38 l i).f8.toNat else 0
def madeV (r : Int) (l : List S38) (i : Int) : Int := if 0 ≤ i ∧ i < (l.length : Int) then ticksV r ((rd_T38 l i).f7.toNat &&& orAll (l.drop (i.toNat + 1)) 0) else 0
theorem own_eq {r : Int} {l : List S38} (h : SetsOK l) (i : Int) : again_Own.f r l i = some (ownV r l i) := by
  unfold again_Own.f ownV
  rw [is_at, Option.bind_some]
  by_cases c : 0 ≤ i ∧ i < (l.length : Int)
  · have hx := (h _ (rd_in c.1 c.2)).2
    rw [decide_eq_true c, if_pos rfl, if_pos c.1, if_pos c.2, if_pos c]
    have := ticks_eq r l (rd_T38 l i).f8.toNat (by omega)
    rw [Int.toNat_of_nonneg hx.1] at this
    rw [this]; rfl
  · rw [decide_eq_false c, if_neg (by simp), if_neg c]
theorem made_loop {r : Int} {l L : List S38} (h : SetsOK l) (hL : SetsOK L) (hl : l.length ≤ 9223372036854775807) {i : Int} (c : 0 ≤ i ∧ i < (L.length : Int)) (d : Nat) : ∀ (k j a : Nat), j + d = l.length → d < k → a < 18446744073709551616 →
    again_Made.l0 k i (a : Int) l (l.length : Int) (j : Int) r L = some (ticksV r ((rd_T38 L i).f7.toNat &&& orAll (l.drop j) a)) := by
  induction d with
  | zero =>
    intro k j a hj hk ha
    obtain ⟨k, rfl⟩ : ∃ m, k = m + 1 := ⟨k - 1, by omega⟩
    simp only [again_Made.l0]
    have hx := (hL _ (rd_in c.1 c.2)).1
    rw [if_neg (by omega), if_pos c.1, if_pos c.2, and_int ha hx, List.drop_eq_nil_of_le (by omega), ticks_eq _ _ _ (and_lt (by omega)), Option.bind_some]; rfl
  | succ d ih =>
    intro k j a hj hk ha
    obtain ⟨k, rfl⟩ : ∃ m, k = m + 1 := ⟨k - 1, by omega⟩
    have hlt : j < l.length := by omega
    have hx := (h _ (rd_in (i := (j : Int)) (by omega) (by omega))).2
    simp only [again_Made.l0]
    rw [if_pos (by omega), if_pos (by omega), if_pos (by omega), or_int ha hx, w64 (n := (j : Int) + 1) (by omega) (by omega), rd_dropT hlt]
    have := ih k (j + 1) (a ||| (rd_T38 l (j : Int)).f8.toNat) (by omega) (by omega) (or_lt ha (by omega))
    rw [show ((j + 1 : Nat) : Int) = (j : Int) + 1 by omega] at this
    exact this
theorem made_eq {r : Int} {l : List S38} (h : SetsOK l) (hl : l.length ≤ 1000) (i : Int) (k : Nat) (hk : 1000 < k) : again_Made.f k r l i = some (madeV r l i) := by
  unfold again_Made.f madeV
  rw [is_at, Option.bind_some]
  by_cases c : 0 ≤ i ∧ i < (l.length : Int)
  · rw [decide_eq_true c, if_pos rfl, if_pos c, w64 (n := i + 1) (by omega) (by omega), if_pos (by omega), if_pos (by omega), Option.bind_some, show (i + 1).toNat = i.toNat + 1 by omega]
    have hd : SetsOK (l.drop (i.toNat + 1)) := fun y hy => h y (List.mem_of_mem_drop hy)
    have hdl : (l.drop (i.toNat + 1)).length ≤ l.length := by rw [List.length_drop]; omega
    have := made_loop (r := r) hd h (by omega) c (l.drop (i.toNat + 1)).length k 0 0 (by omega) (by omega) (by omega)
    rw [List.drop_zero] at this
    exact this
  · rw [decide_eq_false c, if_neg (by simp), if_neg c]
theorem made_ev {r : Int} {l : List S38} (h : SetsOK l) (hl : l.length ≤ 1000) (i : Int) : Ev (fun k => again_Made.f k r l i) (madeV r l i) := ⟨1001, fun k hk => made_eq h hl i k (by omega)⟩
theorem ownV_in {r : Int} (h0 : 0 ≤ r) (h1 : r ≤ 10000) (l : List S38) (i : Int) : 0 ≤ ownV r l i ∧ ownV r l i ≤ 640000 := by
  unfold ownV
  split
  · exact (ticksV_in h0 h1 _).2
  · omega
theorem madeV_in {r : Int} (h0 : 0 ≤ r) (h1 : r ≤ 10000) (l : List S38) (i : Int) : 0 ≤ madeV r l i ∧ madeV r l i ≤ 640000 := by
  unfold madeV
  split
  · exact (ticksV_in h0 h1 _).2
  · omega
end Go.Proofs.Ytllnlmcofaomlaa.AgainPure
namespace Go.Proofs.Ytllnlmcofaomlaa.BlockPure
open Go.RowKit Go.Proofs.Ytllnlmcofaomlaa.QAc Go.Proofs.YtllnlmcofaomlaaW.PrintWords Go.Proofs.YtllnlmcofaomlaaW.PrintLast Go.Proofs.YtllnlmcofaomlaaW.PrintMore Go.Proofs.Ytllnlmcofaomlaa.RefSet
set_option linter.unusedVariables false
theorem twork_loop {l : List Int} (hl : l.length ≤ 8) (h : ∀ x ∈ l, 1 ≤ x ∧ x ≤ 10000) (d : Nat) : ∀ (k i : Nat) (acc : Int), i + d = l.length → d < k → 0 ≤ acc → acc ≤ 10000 * i →
    task_Work.l0 k acc l (l.length : Int) (i : Int) = some (acc + sum (l.drop i)) := by
  induction d with
  | zero =>
    intro k i acc hi hk h0 h1
    obtain ⟨k, rfl⟩ : ∃ m, k = m + 1 := ⟨k - 1, by omega⟩
    simp only [task_Work.l0]
    rw [if_neg (by omega), List.drop_eq_nil_of_le (by omega)]; simp [sum]
  | succ d ih =>
    intro k i acc hi hk h0 h1
    obtain ⟨k, rfl⟩ : ∃ m, k = m + 1 := ⟨k - 1, by omega⟩
    have hlt : i < l.length := by omega
    have hm : rd l (i : Int) ∈ l := by
      unfold rd; rw [Int.toNat_natCast, List.getD_eq_getElem?_getD, List.getElem?_eq_getElem hlt]; exact List.getElem_mem hlt
    have hx := h _ hm
    simp only [task_Work.l0]
    rw [if_pos (by omega), if_pos (by omega), if_pos (by omega), w64 (n := acc + rd l (i : Int)) (by omega) (by omega), w64 (n := (i : Int) + 1) (by omega) (by omega), rd_drop hlt]
    have := ih k (i + 1) (acc + rd l (i : Int)) (by omega) (by omega) (by omega) (by omega)
    rw [show ((i + 1 : Nat) : Int) = (i : Int) + 1 by omega] at this
    rw [this]
    simp only [sum]
    rw [Int.add_assoc]
theorem twork_eq (s : ByteArray) (a1 a2 a3 a4 a5 : Int) {l : List Int} (a7 a8 : Int) (hl : l.length ≤ 8) (h : ∀ x ∈ l, 1 ≤ x ∧ x ≤ 10000) (k : Nat) (hk : 8 < k) : task_Work.f k s a1 a2 a3 a4 a5 l a7 a8 = some (sum l) := by
  unfold task_Work.f
  have := twork_loop hl h l.length k 0 0 (by omega) (by omega) (by omega) (by omega)
  rw [List.drop_zero, Int.zero_add] at this
  exact this
theorem twork_ev (s : ByteArray) (a1 a2 a3 a4 a5 : Int) {l : List Int} (a7 a8 : Int) (hl : l.length ≤ 8) (h : ∀ x ∈ l, 1 ≤ x ∧ x ≤ 10000) : Ev (fun k => task_Work.f k s a1 a2 a3 a4 a5 l a7 a8) (sum l) := ⟨9, fun k hk => twork_eq s a1 a2 a3 a4 a5 a7 a8 hl h k (by omega)⟩
end Go.Proofs.Ytllnlmcofaomlaa.BlockPure
namespace Go.Proofs.Ytllnlmcofaomlaa.FixMath
set_option linter.unusedVariables false
theorem ups_ge {w t q : Int} (ht : 1 ≤ t) (h : q * t < w) : q + 1 ≤ ups w t := by
  unfold ups
  rw [Int.le_ediv_iff_mul_le (by omega), Int.add_mul, Int.one_mul]
  omega
theorem good_init {l : List (Int × Int)} {x : Int × Int} (h : good (l ++ [x])) : good l ∧ (1 ≤ x.1 ∧ x.1 ≤ 1000000 ∧ 0 ≤ x.2 ∧ x.2 ≤ 1000000) := by
  obtain ⟨h1, h2⟩ := h
  refine ⟨⟨by rw [List.length_append] at h1; simp at h1; omega, fun y hy => h2 y (List.mem_append.mpr (Or.inl hy))⟩, h2 x (List.mem_append.mpr (Or.inr (List.mem_singleton.mpr rfl)))⟩
def baseQ (a c q : Int) : Int := a + (q + 1) * c
theorem busy {a : Int} {l : List (Int × Int)} {t c long q : Int} (hg : good (l ++ [(t, c)])) (hl : Least (tot a (l ++ [(t, c)])) long true) (q0 : 0 ≤ q) (hq : q * t < long) : tot (baseQ a c q) l long ≤ long := by
  obtain ⟨g1, g2⟩ := good_init hg
  rcases hl with ⟨_, h1, h2, h3, _⟩ | ⟨e, _⟩
  · rw [tot_snoc] at h3
    unfold baseQ
    rw [tot_shift]
    have := Int.mul_le_mul_of_nonneg_right (ups_ge (w := long) g2.1 hq) g2.2.2.1
    have e : (t, c).2 * ups long (t, c).1 = ups long t * c := Int.mul_comm _ _
    rw [e] at h3
    simp only at this
    omega
  · cases e
def fQ (a : Int) (l : List (Int × Int)) (c q : Int) : Int := (leastR (baseQ a c q) l).1
theorem fQ_tells {a : Int} {l : List (Int × Int)} {t c long q : Int} (a0 : 0 ≤ a) (hc : 1 ≤ c) (hg : good (l ++ [(t, c)])) (hl : Least (tot a (l ++ [(t, c)])) long true) (q0 : 0 ≤ q) (hq : q * t < long) :
    Least (tot (baseQ a c q) l) (fQ a l c q) true ∧ fQ a l c q ≤ long ∧ 1 ≤ long ∧ long ≤ 1000000 ∧ 1 ≤ baseQ a c q ∧ baseQ a c q ≤ long ∧ (leastR (baseQ a c q) l).2 = true := by
  obtain ⟨g1, g2⟩ := good_init hg
  have hb := busy hg hl q0 hq
  have hbase : 1 ≤ baseQ a c q := by
    unfold baseQ
    have := Int.mul_le_mul_of_nonneg_right (show 1 ≤ q + 1 by omega) (show 0 ≤ c by omega)
    omega
  have hlong : 1 ≤ long ∧ long ≤ 1000000 := by
    rcases hl with ⟨_, h1, h2, _⟩ | ⟨e, _⟩
    · exact ⟨h1, h2⟩
    · cases e
  have hle := tot_ge (good_two g1) (baseQ a c q) (w := long) (by omega)
  have hR := leastR_least (a := baseQ a c q) g1
  have h1 := tot_ge (good_two g1) (baseQ a c q) (w := 1) (by omega)
  obtain ⟨e, hf⟩ := hR.le hlong.1 hlong.2 hb (by omega)
  rw [e] at hR
  exact ⟨hR, hf, hlong.1, hlong.2, hbase, by omega, e⟩
theorem Least.fix {S : Int → Int} {r : Int} (h : Least S r true) : 1 ≤ r ∧ r ≤ 1000000 ∧ S r = r ∧ ∀ w, 1 ≤ w → w < r → w < S w := by
  rcases h with ⟨_, h1, h2, h3, h4⟩ | ⟨e, _⟩
  · exact ⟨h1, h2, h3, h4⟩
  · cases e
theorem Least.mono {S S' : Int → Int} {r r' : Int} (h : Least S r true) (h' : Least S' r' true) (hS : ∀ w, 1 ≤ w → S' w ≤ S w) : r' ≤ r := by
  obtain ⟨h1, h2, h3, h4⟩ := h.fix
  obtain ⟨g1, g2, g3, g4⟩ := h'.fix
  by_cases e : r < r'
  · have := g4 r h1 e
    have := hS r h1
    omega
  · omega
def mx2 (a b : Int) : Int := if a < b then b else a
def rGo (f : Int → Int) (t long : Int) : Nat → Int → Int → Int
  | 0, _, r => r
  | n + 1, q, r => if q * t < long then rGo f t long n (q + 1) (mx2 r (f q - q * t)) else r
theorem mx2_ge (a b : Int) : a ≤ mx2 a b ∧ b ≤ mx2 a b ∧ (mx2 a b = a ∨ mx2 a b = b) := by unfold mx2; split <;> omega
theorem rGo_ge (f : Int → Int) (t long : Int) : ∀ (n : Nat) (q r : Int), r ≤ rGo f t long n q r
  | 0, q, r => Int.le_refl _
  | n + 1, q, r => by
    unfold rGo
    split
    · have := rGo_ge f t long n (q + 1) (mx2 r (f q - q * t)); have := mx2_ge r (f q - q * t); omega
    · exact Int.le_refl _
theorem rGo_le {f : Int → Int} {t long B : Int} (t0 : 0 ≤ t) (hf : ∀ q, 0 ≤ q → q * t < long → f q ≤ B) : ∀ (n : Nat) (q r : Int), 0 ≤ q → r ≤ B → rGo f t long n q r ≤ B
  | 0, q, r, _, h => h
  | n + 1, q, r, q0, h => by
    unfold rGo
    split
    · rename_i hq
      have h1 := hf q q0 hq
      have h2 := Int.mul_nonneg q0 t0
      have h3 := mx2_ge r (f q - q * t)
      exact rGo_le t0 hf n (q + 1) _ (by omega) (by omega)
    · exact h
theorem rGo_mono {f f' : Int → Int} {t long long' : Int} (hlong : long' ≤ long) (hf : ∀ q, 0 ≤ q → q * t < long' → f' q ≤ f q) : ∀ (n : Nat) (q r r' : Int), 0 ≤ q → r' ≤ r → rGo f' t long' n q r' ≤ rGo f t long n q r
  | 0, q, r, r', _, h => h
  | n + 1, q, r, r', q0, h => by
    have e' : rGo f' t long' (n + 1) q r' = if q * t < long' then rGo f' t long' n (q + 1) (mx2 r' (f' q - q * t)) else r' := rfl
    have e : rGo f t long (n + 1) q r = if q * t < long then rGo f t long n (q + 1) (mx2 r (f q - q * t)) else r := rfl
    by_cases hq : q * t < long'
    · rw [e', if_pos hq, e, if_pos (by omega)]
      have h1 := hf q q0 hq
      have h2 := mx2_ge r (f q - q * t)
      have h3 := mx2_ge r' (f' q - q * t)
      exact rGo_mono hlong hf n (q + 1) _ _ (by omega) (by omega)
    · rw [e', if_neg hq]
      have := rGo_ge f t long (n + 1) q r
      omega
theorem rGo_first {f : Int → Int} {t long : Int} (hl : 1 ≤ long) (n : Nat) (r : Int) : f 0 ≤ rGo f t long (n + 1) 0 r := by
  have e : rGo f t long (n + 1) 0 r = if 0 * t < long then rGo f t long n (0 + 1) (mx2 r (f 0 - 0 * t)) else r := rfl
  rw [e, if_pos (by omega)]
  have h1 := rGo_ge f t long n (0 + 1) (mx2 r (f 0 - 0 * t))
  have h2 := mx2_ge r (f 0 - 0 * t)
  omega
end Go.Proofs.Ytllnlmcofaomlaa.FixMath

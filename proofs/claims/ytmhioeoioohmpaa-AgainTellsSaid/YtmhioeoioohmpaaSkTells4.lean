/- What is proved: contracts and plain facts on the way to the row RowAgainTells, and, in the last text, the row itself; conditions as each theorem names them. -/
import Derived.Laws.BitsLemmas
import Derived.Laws.Entries
import Derived.ChangeArms
import Derived.Deep.Slices
import Derived.DataReads
import Derived.WideShapes
import Derived.KernelRfl
import Derived.Laws.FloatArith
import Derived.Test.YtmhioeoioohmpaaRows
import Derived.WalkKit
import Derived.ProofKit
import Derived.OpenShut
import Derived.ShutString
import Derived.ChangeOld
import Derived.Below
import Derived.SizedLaws
import Derived.Test.YtmhioeoioohmpaaSkTells1
import Derived.Test.YtmhioeoioohmpaaSkTells2
import Derived.Test.YtmhioeoioohmpaaSkTells3
namespace Go.Proofs.Ytmhioeoioohmpaa.QAg
open Go.RowKit Go.Proofs.YtmhioeoioohmpaaW.PrintWords Go.Proofs.YtmhioeoioohmpaaW.PrintLast Go.Proofs.YtmhioeoioohmpaaW.PrintMore
attribute [local go_sem] max2_int min2_int max_two min_two max_three min_three max_four min_four   -- for this text's walks alone
set_option linter.unusedVariables false
set_option linter.unusedSimpArgs false
def taskmasterref8_Own.f (k : Nat) (a0_0 : Int) (l0_1 : List (S31)) (a1 : Int) : Option (Int) := if a1 < 0 then (some 0) else (if a1 ≥ (l0_1.length : Int) then (some 0) else (if 0 ≤ a1 then (if a1 < (l0_1.length : Int) then ((taskmasterref2_Count.f k ((rd_T31 l0_1 a1).f8)).bind fun t193 => (some (wrap64 (a0_0 * t193)))) else (none)) else (none)))
def taskmasterref8_Own.T3 : Bool × List (List Nat × List Nat) := (true, [([], []), ([0], [0]), ([], []), ([2], [2]), ([], []), ([3, 4], [3, 4]), ([5], [5]), ([6], [6]), ([7], [7]), ([1, 8], [1, 8]), ([9, 8, 0, 1, 2, 3, 4, 5, 6, 7, 8, 9], [9])])
def taskmasterref8_Own.B3 : List Nat := [0, 1, 0, 4, 0, 28, 60, 124, 252, 511, 1023]
theorem taskmasterref8_Own.tab3 : rtab .any (opsOf Try.f20 3) = taskmasterref8_Own.T3 := by kernel_rfl
theorem taskmasterref8_Own.bits3 : waitsOk taskmasterref8_Own.T3.2 taskmasterref8_Own.B3 = true := by kernel_rfl
set_option maxHeartbeats 8000000 in
set_option maxRecDepth 100000 in
theorem taskmasterref8_Own.calls (k : Nat) (a0_0 : Int) (A0_1 : Option Addr) (c0_1 : Nat) (l0_1 : List (S31)) (a1 : Int) (r : Int) (w : World) (hr0_1 : Kd.C k31 w A0_1 l0_1.length l0_1) (hc0_1 : l0_1.length ≤ c0_1) (h : taskmasterref8_Own.f k a0_0 l0_1 a1 = some r) :
    Calls Try.prog 20 #[.agg #[.int .i64 a0_0, .slice A0_1 l0_1.length c0_1], .int .i64 a1] w fun e w' => e = .returned (.int .i64 r) ∧ Below w.heap.size w w' := by
  have hu24 := Try.underlying24
  have HR0_1 := Aside0.mk hr0_1
  have HC0_1 := Aside0.mk hc0_1
  clear hr0_1 hc0_1
  have HB := Aside0.mk (Below.refl w.heap.size w)
  have H : (if a1 < 0 then (some 0) else (if a1 ≥ (l0_1.length : Int) then (some 0) else (if 0 ≤ a1 then (if a1 < (l0_1.length : Int) then ((taskmasterref2_Count.f k ((rd_T31 l0_1 a1).f8)).bind fun t193 => (some (wrap64 (a0_0 * t193)))) else (none)) else (none)))) = some r := h
  clear h
  by_cases c3 : a1 < 0
  · rw [if_pos c3] at H
    have c3b0 : decide (a1 < 0) = true := decide_eq_true c3
    clear c3
    obtain rfl := Option.some.inj H
    go_enter Try.func20, Try.ntmps20
    go_wp2_with (first | ((with_reducible refine gate_dst (N := 2) rfl ?_); (try (refine gate_guard (by rfl) ?_; dsimp only)); refine box_event ?hg (N := 2) ?hd (cs := #[.int .i64 a0_0, .slice A0_1 l0_1.length c0_1]) (t := 24) ?hr ?_; (case hd => rfl); (case hg => rfl); (case hr => first | (go_simp; done) | (go_simp; rfl)); intro gb191 hg w4 hbox hb; have n0_ := Aside0.mk (below_step (by repeat (first | (with_reducible first | exact HB.out | apply below_alloc | apply pw_below_drewN | apply below_drew1) | exact HB.out)) hb); have n1_ := Aside0.mk (hbox); have n2_ := Aside0.mk ((by rw [hg]; exact (below_size (by repeat (first | (with_reducible first | exact HB.out | apply below_alloc | apply pw_below_drewN | apply below_drew1) | exact HB.out))) : w.heap.size ≤ gb191)); have n3_ := Aside0.mk ((by rw [hg]; exact (below_size (by repeat (first | (with_reducible first | exact HB.out | apply below_alloc | apply pw_below_drewN | apply below_drew1) | exact HB.out))) : w.heap.size ≤ gb191)); clear HB; have HB := n0_; have BK191 := n1_; have GW191 := n2_; have GE191 := n3_; clear n0_ n1_ n2_ n3_; clear hb hbox hg))
    go_ret
    exact ⟨by first | rfl | (simp [errW_none, errW_some] <;> rfl) | (simp [*, errW_none, errW_some] <;> rfl), by repeat (first | (with_reducible first | exact HB.out | apply below_alloc | apply pw_below_drewN | apply below_drew1 | refine below_set ?_ GE191.out) | exact HB.out)⟩
  · rw [if_neg c3] at H
    have c3b0 : decide (a1 < 0) = false := decide_eq_false c3
    clear c3
    by_cases c5 : a1 ≥ (l0_1.length : Int)
    · rw [if_pos c5] at H
      have c5b0 : decide ((l0_1.length : Int) ≤ a1) = true := decide_eq_true c5
      clear c5
      obtain rfl := Option.some.inj H
      go_enter Try.func20, Try.ntmps20
      go_wp2_with (first | ((with_reducible refine gate_dst (N := 2) rfl ?_); (try (refine gate_guard (by rfl) ?_; dsimp only)); refine box_event ?hg (N := 2) ?hd (cs := #[.int .i64 a0_0, .slice A0_1 l0_1.length c0_1]) (t := 24) ?hr ?_; (case hd => rfl); (case hg => rfl); (case hr => first | (go_simp; done) | (go_simp; rfl)); intro gb191 hg w6 hbox hb; have n0_ := Aside0.mk (below_step (by repeat (first | (with_reducible first | exact HB.out | apply below_alloc | apply pw_below_drewN | apply below_drew1) | exact HB.out)) hb); have n1_ := Aside0.mk (hbox); have n2_ := Aside0.mk ((by rw [hg]; exact (below_size (by repeat (first | (with_reducible first | exact HB.out | apply below_alloc | apply pw_below_drewN | apply below_drew1) | exact HB.out))) : w.heap.size ≤ gb191)); have n3_ := Aside0.mk ((by rw [hg]; exact (below_size (by repeat (first | (with_reducible first | exact HB.out | apply below_alloc | apply pw_below_drewN | apply below_drew1) | exact HB.out))) : w.heap.size ≤ gb191)); clear HB; have HB := n0_; have BK191 := n1_; have GW191 := n2_; have GE191 := n3_; clear n0_ n1_ n2_ n3_; clear hb hbox hg; have hcz7_0 : w6.cell? ⟨gb191, 0, none⟩ = some (.int .i64 a0_0) := (blk_cell BK191.out 0).trans rfl; have hcz7_1 : w6.cell? ⟨gb191, 1, none⟩ = some (.slice A0_1 l0_1.length c0_1) := (blk_cell BK191.out 1).trans rfl; have hfz7_0 := blk_frozen BK191.out 0; have hfz7_1 := blk_frozen BK191.out 1))
      go_ret
      exact ⟨by first | rfl | (simp [errW_none, errW_some] <;> rfl) | (simp [*, errW_none, errW_some] <;> rfl), by repeat (first | (with_reducible first | exact HB.out | apply below_alloc | apply pw_below_drewN | apply below_drew1 | refine below_set ?_ GE191.out) | exact HB.out)⟩
    · rw [if_neg c5] at H
      have c5b0 : decide ((l0_1.length : Int) ≤ a1) = false := decide_eq_false c5
      clear c5
      by_cases c8 : 0 ≤ a1
      · rw [if_pos c8] at H
        have c8b0 : decide (0 ≤ a1) = true := decide_eq_true c8
        clear c8
        by_cases c9 : a1 < (l0_1.length : Int)
        · rw [if_pos c9] at H
          have c9b0 : decide (a1 < (l0_1.length : Int)) = true := decide_eq_true c9
          clear c9
          replace H := Option.bind_eq_some_iff.mp H
          obtain ⟨t193, A100, H⟩ := H
          replace H : (some (wrap64 (a0_0 * t193))) = some r := H
          have A10 := Aside0.mk A100
          clear A100
          obtain rfl := Option.some.inj H
          go_enter Try.func20, Try.ntmps20
          try go_wp2_with (first | ((with_reducible refine gate_dst (N := 2) rfl ?_); (try (refine gate_guard (by rfl) ?_; dsimp only)); refine box_event ?hg (N := 2) ?hd (cs := #[.int .i64 a0_0, .slice A0_1 l0_1.length c0_1]) (t := 24) ?hr ?_; (case hd => rfl); (case hg => rfl); (case hr => first | (go_simp; done) | (go_simp; rfl)); intro gb191 hg w11 hbox hb; have n0_ := Aside0.mk (below_step (by repeat (first | (with_reducible first | exact HB.out | apply below_alloc | apply pw_below_drewN | apply below_drew1) | exact HB.out)) hb); have n1_ := Aside0.mk (hbox); have n2_ := Aside0.mk ((by rw [hg]; exact (below_size (by repeat (first | (with_reducible first | exact HB.out | apply below_alloc | apply pw_below_drewN | apply below_drew1) | exact HB.out))) : w.heap.size ≤ gb191)); have n3_ := Aside0.mk ((by rw [hg]; exact (below_size (by repeat (first | (with_reducible first | exact HB.out | apply below_alloc | apply pw_below_drewN | apply below_drew1) | exact HB.out))) : w.heap.size ≤ gb191)); clear HB; have HB := n0_; have BK191 := n1_; have GW191 := n2_; have GE191 := n3_; clear n0_ n1_ n2_ n3_; clear hb hbox hg; have hcz12_0 : w11.cell? ⟨gb191, 0, none⟩ = some (.int .i64 a0_0) := (blk_cell BK191.out 0).trans rfl; have hcz12_1 : w11.cell? ⟨gb191, 1, none⟩ = some (.slice A0_1 l0_1.length c0_1) := (blk_cell BK191.out 1).trans rfl; have hfz12_0 := blk_frozen BK191.out 0; have hfz12_1 := blk_frozen BK191.out 1))
          have n0_ := Aside0.mk (blk_drew BK191.out)
          have n1_ := Aside0.mk (below_drew1 HB.out)
          clear BK191
          clear HB
          have BK191 := n0_
          have HB := n1_
          clear n0_ n1_
          have p192 : 0 ≤ (a1 : Int) := of_decide_eq_true (by first | (with_reducible assumption) | assumption)
          have q192 : a1 < (l0_1.length : Int) := of_decide_eq_true (by first | (with_reducible assumption) | assumption)
          obtain ⟨ad192, A192_6, c192_6, e192, hx192_0, hx192_1, hx192_2, hx192_3, hx192_4, hx192_5, hx192_6, hx192_7, hx192_8, hl192_6, hi192_6⟩ := at_T31 HR0_1.out a1 p192 q192
          have hw192_8 := hx192_8
          have hw192_7 := hx192_7
          have hw192_6 := hx192_6
          have hw192_5 := hx192_5
          have hw192_4 := hx192_4
          have hw192_3 := hx192_3
          have hw192_2 := hx192_2
          have hw192_1 := hx192_1
          have hw192_0 := hx192_0
          cases e192
          replace hx192_0 := (HB.out.cell (World.block_lt_of_cell? w _ hx192_0)).trans hx192_0
          replace hx192_1 := (HB.out.cell (World.block_lt_of_cell? w _ hx192_1)).trans hx192_1
          replace hx192_2 := (HB.out.cell (World.block_lt_of_cell? w _ hx192_2)).trans hx192_2
          replace hx192_3 := (HB.out.cell (World.block_lt_of_cell? w _ hx192_3)).trans hx192_3
          replace hx192_4 := (HB.out.cell (World.block_lt_of_cell? w _ hx192_4)).trans hx192_4
          replace hx192_5 := (HB.out.cell (World.block_lt_of_cell? w _ hx192_5)).trans hx192_5
          replace hx192_6 := (HB.out.cell (World.block_lt_of_cell? w _ hx192_6)).trans hx192_6
          replace hx192_7 := (HB.out.cell (World.block_lt_of_cell? w _ hx192_7)).trans hx192_7
          replace hx192_8 := (HB.out.cell (World.block_lt_of_cell? w _ hx192_8)).trans hx192_8
          have HR192_6 := Aside0.mk hi192_6
          have HC192_6 := Aside0.mk hl192_6
          clear hi192_6 hl192_6
          replace p192 := eq_true p192
          replace q192 := eq_true q192
          refine start_ (n := 11) (S := fun w' => w'.cell? ⟨gb191, 0, none⟩ = some (.int .i64 a0_0) ∧ w'.cell? ⟨gb191, 1, none⟩ = some (.slice (some ad192) l0_1.length c0_1) ∧ w'.cell? (ad192.add ((a1).toNat * 9)) = some (.string ((rd_T31 l0_1 a1).f0)) ∧ w'.cell? ⟨(ad192.add ((a1).toNat * 9)).block, (ad192.add ((a1).toNat * 9)).off + 1, none⟩ = some (.int .i64 ((rd_T31 l0_1 a1).f1)) ∧ w'.cell? ⟨(ad192.add ((a1).toNat * 9)).block, (ad192.add ((a1).toNat * 9)).off + 2, none⟩ = some (.int .i64 ((rd_T31 l0_1 a1).f2)) ∧ w'.cell? ⟨(ad192.add ((a1).toNat * 9)).block, (ad192.add ((a1).toNat * 9)).off + 3, none⟩ = some (.int .i64 ((rd_T31 l0_1 a1).f3)) ∧ w'.cell? ⟨(ad192.add ((a1).toNat * 9)).block, (ad192.add ((a1).toNat * 9)).off + 4, none⟩ = some (.int .i64 ((rd_T31 l0_1 a1).f4)) ∧ w'.cell? ⟨(ad192.add ((a1).toNat * 9)).block, (ad192.add ((a1).toNat * 9)).off + 5, none⟩ = some (.int .i64 ((rd_T31 l0_1 a1).f5)) ∧ w'.cell? ⟨(ad192.add ((a1).toNat * 9)).block, (ad192.add ((a1).toNat * 9)).off + 6, none⟩ = some (.slice A192_6 ((rd_T31 l0_1 a1).f6).length c192_6) ∧ w'.cell? ⟨(ad192.add ((a1).toNat * 9)).block, (ad192.add ((a1).toNat * 9)).off + 7, none⟩ = some (.int .u64 ((rd_T31 l0_1 a1).f7)) ∧ w'.cell? ⟨(ad192.add ((a1).toNat * 9)).block, (ad192.add ((a1).toNat * 9)).off + 8, none⟩ = some (.int .u64 ((rd_T31 l0_1 a1).f8))) (ds := []) #[false, false, false, false, false, false, false, false, false, false, false] (by kernel_rfl) rfl rfl ⟨(blk_cell BK191.out 0).trans rfl, (blk_cell BK191.out 1).trans rfl, ((HB.out.cell (World.block_lt_of_cell? w _ hw192_0)).trans hw192_0), ((HB.out.cell (World.block_lt_of_cell? w _ hw192_1)).trans hw192_1), ((HB.out.cell (World.block_lt_of_cell? w _ hw192_2)).trans hw192_2), ((HB.out.cell (World.block_lt_of_cell? w _ hw192_3)).trans hw192_3), ((HB.out.cell (World.block_lt_of_cell? w _ hw192_4)).trans hw192_4), ((HB.out.cell (World.block_lt_of_cell? w _ hw192_5)).trans hw192_5), ((HB.out.cell (World.block_lt_of_cell? w _ hw192_6)).trans hw192_6), ((HB.out.cell (World.block_lt_of_cell? w _ hw192_7)).trans hw192_7), ((HB.out.cell (World.block_lt_of_cell? w _ hw192_8)).trans hw192_8)⟩ (fun hHeld => ?_); refine with_tabW taskmasterref8_Own.tab3 taskmasterref8_Own.bits3 (fun HT_ HW_ => ?_)
          generalize w11.drew = w13 at BK191 HB HR192_6 hx192_0 hx192_1 hx192_2 hx192_3 hx192_4 hx192_5 hx192_6 hx192_7 hx192_8 hHeld ⊢
          refine pure_ (i := 0) (N := some 14) (v := ?_) (a' := ?_) #[true, false, false, false, false, false, false, false, false, false, false] rfl rfl (any_of HT_.out (by kernel_rfl)) (fun _ _ _ h => h) (Or.inl ⟨by rfl, ?_⟩) ?_ ?_
          rotate_left
          · intro w'
            go_simp
            with_reducible rfl
          rotate_left
          · simp only [Act.put, List.setIfInBounds_toArray, List.set_cons_zero, List.set_cons_succ, i64_w, i32_w]
            rfl
          refine pure_ (i := 2) (N := some 16) (v := ?_) (a' := ?_) #[true, false, true, false, false, false, false, false, false, false, false] rfl rfl (any_of HT_.out (by kernel_rfl)) (fun _ _ _ h => h) (Or.inl ⟨by rfl, ?_⟩) ?_ ?_
          rotate_left
          · intro w'
            go_simp
            with_reducible rfl
          rotate_left
          · simp only [Act.put, List.setIfInBounds_toArray, List.set_cons_zero, List.set_cons_succ, i64_w, i32_w]
            rfl
          refine pure_ (i := 4) (N := some 18) (v := ?_) (a' := ?_) #[true, false, true, false, true, false, false, false, false, false, false] rfl rfl (any_of HT_.out (by kernel_rfl)) (fun _ _ _ h => h) (Or.inl ⟨by rfl, ?_⟩) ?_ ?_
          rotate_left
          · intro w'
            go_simp
            with_reducible rfl
          rotate_left
          · simp only [Act.put, List.setIfInBounds_toArray, List.set_cons_zero, List.set_cons_succ, i64_w, i32_w]
            rfl
          refine take_ (i := 1) (N := some 15) (v := ?_) (a' := ?_) #[true, true, true, false, true, false, false, false, false, false, false] rfl rfl (take_ofW HT_.out HW_.out (by kernel_rfl)) (fun _ _ _ h => h) (Or.inl ⟨by rfl, ?_⟩) hHeld ?_ ?_
          rotate_left
          · rintro w' ⟨s0, s1, s2, s3, s4, s5, s6, s7, s8, s9, s10⟩
            go_simp
            with_reducible rfl
          rotate_left
          · simp only [Act.put, List.setIfInBounds_toArray, List.set_cons_zero, List.set_cons_succ, i64_w, i32_w]
            rfl
          refine take_ (i := 3) (N := some 17) (v := ?_) (a' := ?_) #[true, true, true, true, true, false, false, false, false, false, false] rfl rfl (take_ofW HT_.out HW_.out (by kernel_rfl)) (fun _ _ _ h => h) (Or.inl ⟨by rfl, ?_⟩) hHeld ?_ ?_
          rotate_left
          · rintro w' ⟨s0, s1, s2, s3, s4, s5, s6, s7, s8, s9, s10⟩
            go_simp
            with_reducible rfl
          rotate_left
          · simp only [Act.put, List.setIfInBounds_toArray, List.set_cons_zero, List.set_cons_succ, i64_w, i32_w]
            rfl
          refine pure_ (i := 5) (N := some 19) (v := ?_) (a' := ?_) #[true, true, true, true, true, true, false, false, false, false, false] rfl rfl (any_of HT_.out (by kernel_rfl)) (fun _ _ _ h => h) (Or.inl ⟨by rfl, ?_⟩) ?_ ?_
          rotate_left
          · intro w'
            go_simp
            with_reducible rfl
          rotate_left
          · simp only [Act.put, List.setIfInBounds_toArray, List.set_cons_zero, List.set_cons_succ, i64_w, i32_w]
            rfl
          refine pure_ (i := 6) (N := some 20) (v := ?_) (a' := ?_) #[true, true, true, true, true, true, true, false, false, false, false] rfl rfl (any_of HT_.out (by kernel_rfl)) (fun _ _ _ h => h) (Or.inl ⟨by rfl, ?_⟩) ?_ ?_
          rotate_left
          · intro w'
            go_simp
            with_reducible rfl
          rotate_left
          · simp only [Act.put, List.setIfInBounds_toArray, List.set_cons_zero, List.set_cons_succ, i64_w, i32_w]
            rfl
          refine take_ (i := 7) (N := some 21) (v := ?_) (a' := ?_) #[true, true, true, true, true, true, true, true, false, false, false] rfl rfl (take_ofW HT_.out HW_.out (by kernel_rfl)) (fun _ _ _ h => h) (Or.inl ⟨by rfl, ?_⟩) hHeld ?_ ?_
          rotate_left
          · rintro w' ⟨s0, s1, s2, s3, s4, s5, s6, s7, s8, s9, s10⟩
            go_simp
            with_reducible rfl
          rotate_left
          · simp only [Act.put, List.setIfInBounds_toArray, List.set_cons_zero, List.set_cons_succ, i64_w, i32_w]
            rfl
          refine one_ (i := 8) (N := some 22) #[true, true, true, true, true, true, true, true, true, false, false] rfl rfl (one_of HT_.out (by kernel_rfl)) (by decide) (fun K hK => ?_)
          refine goes_ Try.func12 (by kernel_rfl) rfl #[.int .u64 ((rd_T31 l0_1 a1).f8)] (by rfl) rfl rfl (by (try simp only [List.map_toArray, List.map_cons, List.map_nil]); first | done | rfl | (simp only [List.length_drop, List.length_take]; rfl)) ?_
          with_reducible refine (taskmasterref2_Count.calls k ((rd_T31 l0_1 a1).f8) t193 _ A10.out).mono ?_
          rintro e w14 ⟨rfl, hb⟩
          refine ⟨_, rfl, ?_⟩
          have n0_ := Aside0.mk (blk_below (g := gb191) (o := .cells #[.int .i64 a0_0, .slice (some ad192) l0_1.length c0_1] 24 (0, 0)) (by (with_reducible repeat (first | refine blk_drewN ?_ _ | refine blk_drew ?_ | refine blk_alloc ?_ _)); exact BK191.out) hb)
          have n1_ := Aside0.mk (below_step (by repeat (first | (with_reducible first | exact HB.out | apply below_alloc | apply pw_below_drewN | apply below_drew1 | refine below_set ?_ GE191.out) | exact HB.out)) hb)
          clear BK191
          clear HB
          have BK191 := n0_
          have HB := n1_
          clear n0_ n1_
          (try clear hb)
          (try clear hb2)
          (try clear hk)
          (try clear hi)
          refine hK.out _ _ ⟨(blk_cell BK191.out 0).trans rfl, (blk_cell BK191.out 1).trans rfl, ((HB.out.cell (World.block_lt_of_cell? w _ hw192_0)).trans hw192_0), ((HB.out.cell (World.block_lt_of_cell? w _ hw192_1)).trans hw192_1), ((HB.out.cell (World.block_lt_of_cell? w _ hw192_2)).trans hw192_2), ((HB.out.cell (World.block_lt_of_cell? w _ hw192_3)).trans hw192_3), ((HB.out.cell (World.block_lt_of_cell? w _ hw192_4)).trans hw192_4), ((HB.out.cell (World.block_lt_of_cell? w _ hw192_5)).trans hw192_5), ((HB.out.cell (World.block_lt_of_cell? w _ hw192_6)).trans hw192_6), ((HB.out.cell (World.block_lt_of_cell? w _ hw192_7)).trans hw192_7), ((HB.out.cell (World.block_lt_of_cell? w _ hw192_8)).trans hw192_8)⟩ (fun hHeld => ?_)
          clear hK K
          refine norm_ (a' := ?_) ?_ ?_
          rotate_left
          · show Act.put _ (some 22) _ = _
            simp only [Act.put, List.setIfInBounds_toArray, List.set_cons_zero, List.set_cons_succ, i64_w, i32_w]
            rfl
          refine pure_ (i := 9) (N := some 23) (v := ?_) (a' := ?_) #[true, true, true, true, true, true, true, true, true, true, false] rfl rfl (any_of HT_.out (by kernel_rfl)) (fun _ _ _ h => h) (Or.inl ⟨by rfl, ?_⟩) ?_ ?_
          rotate_left
          · intro w'
            go_simp
            with_reducible rfl
          rotate_left
          · simp only [Act.put, List.setIfInBounds_toArray, List.set_cons_zero, List.set_cons_succ, i64_w, i32_w]
            rfl
          refine pure_ (i := 10) (N := some 4) (v := ?_) (a' := ?_) #[true, true, true, true, true, true, true, true, true, true, true] rfl rfl (any_of HT_.out (by kernel_rfl)) (fun _ _ _ h => h) (Or.inl ⟨by rfl, ?_⟩) ?_ ?_
          rotate_left
          · intro w'
            go_simp
            with_reducible rfl
          rotate_left
          · simp only [Act.put, List.setIfInBounds_toArray, List.set_cons_zero, List.set_cons_succ, i64_w, i32_w]
            rfl
          refine done_ (done_of HT_.out (by kernel_rfl)) ?_
          try go_wp2
          go_ret
          exact ⟨by first | rfl | (simp [errW_none, errW_some] <;> rfl) | (simp [*, errW_none, errW_some] <;> rfl), by repeat (first | (with_reducible first | exact HB.out | apply below_alloc | apply pw_below_drewN | apply below_drew1 | refine below_set ?_ GE191.out) | exact HB.out)⟩
        · rw [if_neg c9] at H
          exact absurd H (by simp)
      · rw [if_neg c8] at H
        exact absurd H (by simp)
end Go.Proofs.Ytmhioeoioohmpaa.QAg
namespace Go.Proofs.Ytmhioeoioohmpaa.QAg
open Go.RowKit Go.Proofs.YtmhioeoioohmpaaW.PrintWords Go.Proofs.YtmhioeoioohmpaaW.PrintLast Go.Proofs.YtmhioeoioohmpaaW.PrintMore
attribute [local go_sem] max2_int min2_int max_two min_two max_three min_three max_four min_four   -- for this text's walks alone
set_option linter.unusedVariables false
set_option linter.unusedSimpArgs false
mutual
def taskmasterlaw8_AgainTells.j0 : Nat → Int → Bool → Int → List (S31) → Option (Bool)
  | 0, _, _, _, _ => none
  | k + 1, x1, x17, x195000, x195001 => if x17 = true then (some true) else ((again_Cost.f k x195000 x195001 x1).bind fun bt196 => (if x1 ≥ 0 then (taskmasterlaw8_AgainTells.j1 k x1 bt196.1 bt196.2 (decide (x1 < (x195001.length : Int))) x195000 x195001) else (taskmasterlaw8_AgainTells.j1 k x1 bt196.1 bt196.2 false x195000 x195001)))
def taskmasterlaw8_AgainTells.j1 : Nat → Int → (Nat × Nat) → Bool → Bool → Int → List (S31) → Option (Bool)
  | 0, _, _, _, _, _, _ => none
  | k + 1, x1, x5, x6, x7, x195000, x195001 => if x7 = true then ((taskmasterref8_Work.f k x195000 x195001 x1).bind fun t198 => ((taskmasterref8_Made.f k x195000 x195001 x1).bind fun t199 => ((taskmasterref3_Of.f t198 t199).bind fun bt200 => (taskmasterlaw8_AgainTells.j2 k x1 x5 x6 x7 bt200.1 x195000 x195001)))) else (taskmasterlaw8_AgainTells.j2 k x1 x5 x6 x7 ((0, 0) : Nat × Nat) x195000 x195001)
def taskmasterlaw8_AgainTells.j2 : Nat → Int → (Nat × Nat) → Bool → Bool → (Nat × Nat) → Int → List (S31) → Option (Bool)
  | 0, _, _, _, _, _, _, _ => none
  | k + 1, x1, x5, x6, x7, x8, x195000, x195001 => (again_Own.f x195000 x195001 x1).bind fun t202 => ((taskmasterref8_Own.f k x195000 x195001 x1).bind fun t203 => (if t202 = t203 then ((again_Made.f k x195000 x195001 x1).bind fun t204 => ((taskmasterref8_Made.f k x195000 x195001 x1).bind fun t205 => (if t204 = t205 then (if ((FloatKind.f64.format.order x5.1 x8.1 == some .eq) && (FloatKind.f64.format.order x5.2 x8.2 == some .eq)) = true then (if (x6 == x7) = true then ((taskmasterlaw8_known.f k).bind fun t206 => (some t206)) else (some false)) else (some false)) else (some false)))) else (some false)))
end
def taskmasterlaw8_AgainTells.f (k : Nat) (a0_0 : Int) (l0_1 : List (S31)) (a1 : Int) : Option (Bool) := if (l0_1.length : Int) > 10 then (taskmasterlaw8_AgainTells.j0 k a1 true a0_0 l0_1) else ((taskmasterref5_All.f k a0_0 l0_1).bind fun t195 => (taskmasterlaw8_AgainTells.j0 k a1 (!t195) a0_0 l0_1))
def taskmasterlaw8_AgainTells.T7 : Bool × List (List Nat × List Nat) := (true, [([], []), ([], []), ([0, 1], [0, 1]), ([], []), ([], []), ([3, 4, 2], [3, 4]), ([2, 5, 5], [2, 5]), ([6], [6]), ([7], [7]), ([7], [7]), ([8, 6, 0, 1, 2, 3, 4, 5, 6, 7, 8], [8])])
def taskmasterlaw8_AgainTells.B7 : List Nat := [0, 0, 3, 0, 0, 31, 63, 127, 255, 255, 511]
theorem taskmasterlaw8_AgainTells.tab7 : rtab .any (opsOf Try.f6 7) = taskmasterlaw8_AgainTells.T7 := by kernel_rfl
theorem taskmasterlaw8_AgainTells.bits7 : waitsOk taskmasterlaw8_AgainTells.T7.2 taskmasterlaw8_AgainTells.B7 = true := by kernel_rfl
def taskmasterlaw8_AgainTells.T8 : Bool × List (List Nat × List Nat) := (true, [([], []), ([], []), ([0, 1], [0, 1]), ([], []), ([], []), ([3, 4, 2], [3, 4]), ([2, 5], [2, 5]), ([6, 5], [6]), ([7], [7]), ([7], [7]), ([8, 9, 7, 7], [7, 8, 9]), ([7], [7]), ([7], [7]), ([11, 12, 10, 7], [7, 11, 12]), ([10, 13, 7], [7, 10, 13]), ([7, 14], [7, 14]), ([15, 13], [15]), ([16], [16]), ([16], [16]), ([17, 18, 16], [16, 17, 18]), ([16, 19], [16, 19]), ([20, 16], [20]), ([21], [21]), ([21], [21]), ([22, 23, 21], [21, 22, 23]), ([21, 24], [21, 24]), ([25, 21], [25]), ([26, 26], [26]), ([26, 27], [26, 27]), ([28, 27, 0, 1, 2, 3, 4, 5, 6, 7, 8, 9, 10, 11, 12, 13, 14, 15, 16, 17, 18, 19, 20, 21, 22, 23, 24, 25, 26, 27, 28], [28])])
def taskmasterlaw8_AgainTells.B8 : List Nat := [0, 0, 3, 0, 0, 31, 63, 127, 255, 255, 1023, 255, 255, 8191, 16383, 32767, 65535, 131071, 131071, 524287, 1048575, 2097151, 4194303, 4194303, 16777215, 33554431, 67108863, 134217727, 268435455, 536870911]
theorem taskmasterlaw8_AgainTells.tab8 : rtab .any (opsOf Try.f6 8) = taskmasterlaw8_AgainTells.T8 := by kernel_rfl
theorem taskmasterlaw8_AgainTells.bits8 : waitsOk taskmasterlaw8_AgainTells.T8.2 taskmasterlaw8_AgainTells.B8 = true := by kernel_rfl
set_option maxHeartbeats 8000000 in
set_option maxRecDepth 100000 in
theorem taskmasterlaw8_AgainTells.calls (k : Nat) (a0_0 : Int) (A0_1 : Option Addr) (c0_1 : Nat) (l0_1 : List (S31)) (a1 : Int) (r : Bool) (w : World) (hr0_1 : Kd.C k31 w A0_1 l0_1.length l0_1) (hc0_1 : l0_1.length ≤ c0_1) (h : taskmasterlaw8_AgainTells.f k a0_0 l0_1 a1 = some r) :
    Calls Try.prog 6 #[.agg #[.int .i64 a0_0, .slice A0_1 l0_1.length c0_1], .int .i64 a1] w fun e w' => e = .returned (.bool r) ∧ Below w.heap.size w w' := by
  have hu24 := Try.underlying24
  have HR0_1 := Aside0.mk hr0_1
  have HC0_1 := Aside0.mk hc0_1
  clear hr0_1 hc0_1
  have HB := Aside0.mk (Below.refl w.heap.size w)
  have H : (if (l0_1.length : Int) > 10 then (taskmasterlaw8_AgainTells.j0 k a1 true a0_0 l0_1) else ((taskmasterref5_All.f k a0_0 l0_1).bind fun t195 => (taskmasterlaw8_AgainTells.j0 k a1 (!t195) a0_0 l0_1))) = some r := h
  clear h
  have HC3 := Aside0.mk H
  clear H
  go_enter Try.func6, Try.ntmps6
  go_upto_region 1 with (first | ((with_reducible refine gate_dst (N := 2) rfl ?_); (try (refine gate_guard (by rfl) ?_; dsimp only)); refine box_event ?hg (N := 2) ?hd (cs := #[.int .i64 a0_0, .slice A0_1 l0_1.length c0_1]) (t := 24) ?hr ?_; (case hd => rfl); (case hg => rfl); (case hr => first | (go_simp; done) | (go_simp; rfl)); intro gb194 hg w4 hbox hb; have n0_ := Aside0.mk (below_step (by repeat (first | (with_reducible first | exact HB.out | apply below_alloc | apply pw_below_drewN | apply below_drew1) | exact HB.out)) hb); have n1_ := Aside0.mk (hbox); have n2_ := Aside0.mk ((by rw [hg]; exact (below_size (by repeat (first | (with_reducible first | exact HB.out | apply below_alloc | apply pw_below_drewN | apply below_drew1) | exact HB.out))) : w.heap.size ≤ gb194)); have n3_ := Aside0.mk ((by rw [hg]; exact (below_size (by repeat (first | (with_reducible first | exact HB.out | apply below_alloc | apply pw_below_drewN | apply below_drew1) | exact HB.out))) : w.heap.size ≤ gb194)); clear HB; have HB := n0_; have BK194 := n1_; have GW194 := n2_; have GE194 := n3_; clear n0_ n1_ n2_ n3_; clear hb hbox hg))
  (try simp only [Act.put, List.setIfInBounds_toArray, List.set_cons_zero, List.set_cons_succ])
  go_cut [17] (fun v17 wc => ∃ (kq : Nat) (x17_2 : Bool), v17 = .bool x17_2 ∧ Aside0 (taskmasterlaw8_AgainTells.j0 kq a1 x17_2 a0_0 l0_1 = some r) ∧ Aside0 (kq ≤ k) ∧ Aside0 (wc.heap[gb194]? = some (.cells #[.int .i64 a0_0, (.slice A0_1 l0_1.length c0_1)] 24 (0, 0))) ∧ Aside0 (Below w.heap.size w wc))
  case first =>
    have H := HC3.out
    clear HC3
    by_cases c5 : (l0_1.length : Int) > 10
    · rw [if_pos c5] at H
      have c5b0 : decide (10 < (l0_1.length : Int)) = true := decide_eq_true c5
      have c5b1 : decide (10 < l0_1.length) = true := decide_eq_true (by omega)
      clear c5
      (first | rw [c5b0] | (simp only [i64_w, i32_w]; rw [c5b0]) | skip)
      have H' := Aside0.mk H
      clear H
      have hcz6_0 : w4.cell? ⟨gb194, 0, none⟩ = some (.int .i64 a0_0) := (blk_cell BK194.out 0).trans rfl
      have hcz6_1 : w4.cell? ⟨gb194, 1, none⟩ = some (.slice A0_1 l0_1.length c0_1) := (blk_cell BK194.out 1).trans rfl
      have hfz6_0 := blk_frozen BK194.out 0
      have hfz6_1 := blk_frozen BK194.out 1
      go_wp2
      go_meet
      case rel => exact ⟨_, (true), (by first | rfl | (simp; done) | (simp [*]; done)), H', ⟨by first | omega | exact Nat.le_refl _⟩, ⟨by (with_reducible repeat (first | refine blk_drewN ?_ _ | refine blk_drew ?_ | refine blk_alloc ?_ _)); exact BK194.out⟩, ⟨by repeat (first | (with_reducible first | exact HB.out | apply below_alloc | apply pw_below_drewN | apply below_drew1 | refine below_set ?_ GE194.out) | exact HB.out)⟩⟩
    · rw [if_neg c5] at H
      have c5b0 : decide (10 < (l0_1.length : Int)) = false := decide_eq_false c5
      have c5b1 : decide (10 < l0_1.length) = false := decide_eq_false (by omega)
      clear c5
      (first | rw [c5b0] | (simp only [i64_w, i32_w]; rw [c5b0]) | skip)
      replace H := Option.bind_eq_some_iff.mp H
      obtain ⟨t195, A70, H⟩ := H
      replace H : (taskmasterlaw8_AgainTells.j0 k a1 (!t195) a0_0 l0_1) = some r := H
      have A7 := Aside0.mk A70
      clear A70
      have H' := Aside0.mk H
      clear H
      have hcz8_0 : w4.cell? ⟨gb194, 0, none⟩ = some (.int .i64 a0_0) := (blk_cell BK194.out 0).trans rfl
      have hcz8_1 : w4.cell? ⟨gb194, 1, none⟩ = some (.slice A0_1 l0_1.length c0_1) := (blk_cell BK194.out 1).trans rfl
      have hfz8_0 := blk_frozen BK194.out 0
      have hfz8_1 := blk_frozen BK194.out 1
      go_wp2_with (first | (go_at_call 10; (with_reducible refine (taskmasterref5_All.calls k a0_0 _ _ l0_1 t195 _ ?side1 ?side2 A7.out).mono ?_); (case side1 => repeat (first | exact (Kd.C_below HR0_1.out HB.out) | (with_reducible refine Kd.C_alloc ?_ _) | (with_reducible refine Kd.C_drewN ?_ _) | (with_reducible refine Kd.C_drew ?_))); (case side2 => exact HC0_1.out); rintro e w9 ⟨rfl, hb⟩; have n0_ := Aside0.mk (blk_below (g := gb194) (o := .cells #[.int .i64 a0_0, .slice A0_1 l0_1.length c0_1] 24 (0, 0)) (by (with_reducible repeat (first | refine blk_drewN ?_ _ | refine blk_drew ?_ | refine blk_alloc ?_ _)); exact BK194.out) hb); have n1_ := Aside0.mk (below_step (by repeat (first | (with_reducible first | exact HB.out | apply below_alloc | apply pw_below_drewN | apply below_drew1 | refine below_set ?_ GE194.out) | exact HB.out)) hb); clear BK194; clear HB; have BK194 := n0_; have HB := n1_; clear n0_ n1_; (try clear hb); (try clear hb2); (try clear hk); (try clear hi)))
      go_meet
      case rel => exact ⟨_, (!t195), (by first | rfl | (simp; done) | (simp [*]; done)), H', ⟨by first | omega | exact Nat.le_refl _⟩, ⟨by (with_reducible repeat (first | refine blk_drewN ?_ _ | refine blk_drew ?_ | refine blk_alloc ?_ _)); exact BK194.out⟩, ⟨by repeat (first | (with_reducible first | exact HB.out | apply below_alloc | apply pw_below_drewN | apply below_drew1 | refine below_set ?_ GE194.out) | exact HB.out)⟩⟩
  case rest =>
    clear HC3
    try clear p2
    try clear c5
    try clear c5b0
    try clear c5b1
    try clear c6
    try clear hcz6_0
    try clear hcz6_1
    try clear hcz8_0
    try clear hcz8_1
    try clear hfz6_0
    try clear hfz6_1
    try clear hfz8_0
    try clear hfz8_1
    obtain ⟨kq, x17_2, rfl, HA, HJ2, BK194, HB⟩ := hcut
    cases kq with
    | zero => exact absurd HA.out (by simp [taskmasterlaw8_AgainTells.j0])
    | succ kj2 =>
      have H := HA.out
      clear HA
      simp only [taskmasterlaw8_AgainTells.j0] at H
      by_cases c10 : x17_2 = true
      · subst c10
        have H1 : (some true) = some r := by rw [if_pos rfl] at H; exact H
        clear H
        have H := H1
        clear H1
        obtain rfl := Option.some.inj H
        go_wp2
        go_ret
        exact ⟨by first | rfl | (simp [errW_none, errW_some] <;> rfl) | (simp [*, errW_none, errW_some] <;> rfl), by repeat (first | (with_reducible first | exact HB.out | apply below_alloc | apply pw_below_drewN | apply below_drew1 | refine below_set ?_ GE194.out) | exact HB.out)⟩
      · replace c10 := Bool.eq_false_iff.mpr c10
        subst c10
        have H1 : ((again_Cost.f kj2 a0_0 l0_1 a1).bind fun bt196 => (if a1 ≥ 0 then (taskmasterlaw8_AgainTells.j1 kj2 a1 bt196.1 bt196.2 (decide (a1 < (l0_1.length : Int))) a0_0 l0_1) else (taskmasterlaw8_AgainTells.j1 kj2 a1 bt196.1 bt196.2 false a0_0 l0_1))) = some r := by rw [if_neg (show ¬ (false = true) by decide)] at H; exact H
        clear H
        have H := H1
        clear H1
        replace H := Option.bind_eq_some_iff.mp H
        obtain ⟨⟨t196, t197⟩, A110, H⟩ := H
        replace H : (if a1 ≥ 0 then (taskmasterlaw8_AgainTells.j1 kj2 a1 t196 t197 (decide (a1 < (l0_1.length : Int))) a0_0 l0_1) else (taskmasterlaw8_AgainTells.j1 kj2 a1 t196 t197 false a0_0 l0_1)) = some r := H
        have A11 := Aside0.mk A110
        clear A110
        have HC12 := Aside0.mk H
        clear H
        have hcz13_0 : wc.cell? ⟨gb194, 0, none⟩ = some (.int .i64 a0_0) := (blk_cell BK194.out 0).trans rfl
        have hcz13_1 : wc.cell? ⟨gb194, 1, none⟩ = some (.slice A0_1 l0_1.length c0_1) := (blk_cell BK194.out 1).trans rfl
        have hfz13_0 := blk_frozen BK194.out 0
        have hfz13_1 := blk_frozen BK194.out 1
        go_upto_region 4 with (first | ((with_reducible refine gate_callee (f := 16) rfl ?_); refine goesL_ (some 21) rfl rfl Try.func16 (by kernel_rfl) rfl #[.agg #[.int .i64 a0_0, .slice A0_1 l0_1.length c0_1], .int .i64 a1] rfl (by (try simp only [List.map_toArray, List.map_cons, List.map_nil]); first | done | rfl | (simp only [List.length_drop, List.length_take]; rfl)) ?_; (with_reducible refine (again_Cost.calls kj2 a0_0 _ _ l0_1 a1 t196 t197 _ ?side1 ?side2 A11.out).mono ?_); (case side1 => repeat (first | exact (Kd.C_below HR0_1.out HB.out) | (with_reducible refine Kd.C_alloc ?_ _) | (with_reducible refine Kd.C_drewN ?_ _) | (with_reducible refine Kd.C_drew ?_))); (case side2 => exact HC0_1.out); rintro e w14 ⟨rfl, hb⟩; refine ⟨_, rfl, ?_⟩; have n0_ := Aside0.mk (blk_below (g := gb194) (o := .cells #[.int .i64 a0_0, .slice A0_1 l0_1.length c0_1] 24 (0, 0)) (by (with_reducible repeat (first | refine blk_drewN ?_ _ | refine blk_drew ?_ | refine blk_alloc ?_ _)); exact BK194.out) hb); have n1_ := Aside0.mk (below_step (by repeat (first | (with_reducible first | exact HB.out | apply below_alloc | apply pw_below_drewN | apply below_drew1 | refine below_set ?_ GE194.out) | exact HB.out)) hb); clear BK194; clear HB; have BK194 := n0_; have HB := n1_; clear n0_ n1_; (try clear hb); (try clear hb2); (try clear hk); (try clear hi)))
        (try simp only [Act.put, List.setIfInBounds_toArray, List.set_cons_zero, List.set_cons_succ])
        go_cut [7] (fun v7 wc => ∃ (kq : Nat) (x7_11 : Bool), v7 = .bool x7_11 ∧ Aside0 (taskmasterlaw8_AgainTells.j1 kq a1 t196 t197 x7_11 a0_0 l0_1 = some r) ∧ Aside0 (kq ≤ kj2) ∧ Aside0 (wc.heap[gb194]? = some (.cells #[.int .i64 a0_0, (.slice A0_1 l0_1.length c0_1)] 24 (0, 0))) ∧ Aside0 (Below w.heap.size w wc))
        case first =>
          have H := HC12.out
          clear HC12
          by_cases c15 : a1 ≥ 0
          · rw [if_pos c15] at H
            have c15b0 : decide (0 ≤ a1) = true := decide_eq_true c15
            clear c15
            (first | rw [c15b0] | (simp only [i64_w, i32_w]; rw [c15b0]) | skip)
            have H' := Aside0.mk H
            clear H
            have hcz16_0 : w14.cell? ⟨gb194, 0, none⟩ = some (.int .i64 a0_0) := (blk_cell BK194.out 0).trans rfl
            have hcz16_1 : w14.cell? ⟨gb194, 1, none⟩ = some (.slice A0_1 l0_1.length c0_1) := (blk_cell BK194.out 1).trans rfl
            have hfz16_0 := blk_frozen BK194.out 0
            have hfz16_1 := blk_frozen BK194.out 1
            go_wp2
            go_meet
            case rel => exact ⟨_, (decide (a1 < (l0_1.length : Int))), (by first | rfl | (simp; done) | (simp [*]; done)), H', ⟨by have := HJ2.out; first | omega | exact Nat.le_refl _⟩, ⟨by (with_reducible repeat (first | refine blk_drewN ?_ _ | refine blk_drew ?_ | refine blk_alloc ?_ _)); exact BK194.out⟩, ⟨by repeat (first | (with_reducible first | exact HB.out | apply below_alloc | apply pw_below_drewN | apply below_drew1 | refine below_set ?_ GE194.out) | exact HB.out)⟩⟩
          · rw [if_neg c15] at H
            have c15b0 : decide (0 ≤ a1) = false := decide_eq_false c15
            clear c15
            (first | rw [c15b0] | (simp only [i64_w, i32_w]; rw [c15b0]) | skip)
            have H' := Aside0.mk H
            clear H
            go_wp2
            go_meet
            case rel => exact ⟨_, (false), (by first | rfl | (simp; done) | (simp [*]; done)), H', ⟨by have := HJ2.out; first | omega | exact Nat.le_refl _⟩, ⟨by (with_reducible repeat (first | refine blk_drewN ?_ _ | refine blk_drew ?_ | refine blk_alloc ?_ _)); exact BK194.out⟩, ⟨by repeat (first | (with_reducible first | exact HB.out | apply below_alloc | apply pw_below_drewN | apply below_drew1 | refine below_set ?_ GE194.out) | exact HB.out)⟩⟩
        case rest =>
          clear HC12
          try clear c1
          try clear p2
          try clear c5
          try clear c5b0
          try clear c5b1
          try clear c6
          try clear c10
          try clear c15
          try clear c15b0
          try clear c16
          try clear hcz13_0
          try clear hcz13_1
          try clear hcz16_0
          try clear hcz16_1
          try clear hcz6_0
          try clear hcz6_1
          try clear hcz8_0
          try clear hcz8_1
          try clear hfz13_0
          try clear hfz13_1
          try clear hfz16_0
          try clear hfz16_1
          try clear hfz6_0
          try clear hfz6_1
          try clear hfz8_0
          try clear hfz8_1
          try clear p2
          obtain ⟨kq, x7_11, rfl, HA, HJ11, BK194, HB⟩ := hcut
          cases kq with
          | zero => exact absurd HA.out (by simp [taskmasterlaw8_AgainTells.j1])
          | succ kj11 =>
            have H := HA.out
            clear HA
            simp only [taskmasterlaw8_AgainTells.j1] at H
            have HC17 := Aside0.mk H
            clear H
            go_upto_if 33 with (fail)
            go_cut [8] (fun v8 wc => ∃ (kq : Nat) (x8_16 : (Nat × Nat)), v8 = .complex .f64 x8_16.1 x8_16.2 ∧ Aside0 (taskmasterlaw8_AgainTells.j2 kq a1 t196 t197 x7_11 x8_16 a0_0 l0_1 = some r) ∧ Aside0 (kq ≤ kj11) ∧ Aside0 (wc.heap[gb194]? = some (.cells #[.int .i64 a0_0, (.slice A0_1 l0_1.length c0_1)] 24 (0, 0))) ∧ Aside0 (Below w.heap.size w wc))
            case first =>
              have H := HC17.out
              clear HC17
              by_cases c18 : x7_11 = true
              · subst c18
                have H1 : ((taskmasterref8_Work.f kj11 a0_0 l0_1 a1).bind fun t198 => ((taskmasterref8_Made.f kj11 a0_0 l0_1 a1).bind fun t199 => ((taskmasterref3_Of.f t198 t199).bind fun bt200 => (taskmasterlaw8_AgainTells.j2 kj11 a1 t196 t197 true bt200.1 a0_0 l0_1)))) = some r := by rw [if_pos rfl] at H; exact H
                clear H
                have H := H1
                clear H1
                replace H := Option.bind_eq_some_iff.mp H
                obtain ⟨t198, A190, H⟩ := H
                replace H : ((taskmasterref8_Made.f kj11 a0_0 l0_1 a1).bind fun t199 => ((taskmasterref3_Of.f t198 t199).bind fun bt200 => (taskmasterlaw8_AgainTells.j2 kj11 a1 t196 t197 true bt200.1 a0_0 l0_1))) = some r := H
                have A19 := Aside0.mk A190
                clear A190
                replace H := Option.bind_eq_some_iff.mp H
                obtain ⟨t199, A200, H⟩ := H
                replace H : ((taskmasterref3_Of.f t198 t199).bind fun bt200 => (taskmasterlaw8_AgainTells.j2 kj11 a1 t196 t197 true bt200.1 a0_0 l0_1)) = some r := H
                have A20 := Aside0.mk A200
                clear A200
                replace H := Option.bind_eq_some_iff.mp H
                obtain ⟨⟨t200, t201⟩, A210, H⟩ := H
                replace H : (taskmasterlaw8_AgainTells.j2 kj11 a1 t196 t197 true t200 a0_0 l0_1) = some r := H
                have A21 := Aside0.mk A210
                clear A210
                have H' := Aside0.mk H
                clear H
                try go_wp2
                have n0_ := Aside0.mk (blk_drew BK194.out)
                have n1_ := Aside0.mk (below_drew1 HB.out)
                clear BK194
                clear HB
                have BK194 := n0_
                have HB := n1_
                clear n0_ n1_
                refine start_ (n := 11) (S := fun w' => w'.cell? ⟨gb194, 0, none⟩ = some (.int .i64 a0_0) ∧ w'.cell? ⟨gb194, 1, none⟩ = some (.slice A0_1 l0_1.length c0_1)) (ds := []) #[false, false, false, false, false, false, false, false, false, false, false] (by kernel_rfl) rfl rfl ⟨(blk_cell BK194.out 0).trans rfl, (blk_cell BK194.out 1).trans rfl⟩ (fun hHeld => ?_); refine with_tabW taskmasterlaw8_AgainTells.tab7 taskmasterlaw8_AgainTells.bits7 (fun HT_ HW_ => ?_)
                generalize wc.drew = w22 at BK194 HB hHeld ⊢
                refine pure_ (i := 1) (N := some 36) (v := ?_) (a' := ?_) #[false, true, false, false, false, false, false, false, false, false, false] rfl rfl (any_of HT_.out (by kernel_rfl)) (fun _ _ _ h => h) (Or.inl ⟨by rfl, ?_⟩) ?_ ?_
                rotate_left
                · intro w'
                  go_simp
                  with_reducible rfl
                rotate_left
                · simp only [Act.put, List.setIfInBounds_toArray, List.set_cons_zero, List.set_cons_succ, i64_w, i32_w]
                  rfl
                refine pure_ (i := 4) (N := some 39) (v := ?_) (a' := ?_) #[false, true, false, false, true, false, false, false, false, false, false] rfl rfl (any_of HT_.out (by kernel_rfl)) (fun _ _ _ h => h) (Or.inl ⟨by rfl, ?_⟩) ?_ ?_
                rotate_left
                · intro w'
                  go_simp
                  with_reducible rfl
                rotate_left
                · simp only [Act.put, List.setIfInBounds_toArray, List.set_cons_zero, List.set_cons_succ, i64_w, i32_w]
                  rfl
                refine take_ (i := 0) (N := some 35) (v := ?_) (a' := ?_) #[true, true, false, false, true, false, false, false, false, false, false] rfl rfl (take_ofW HT_.out HW_.out (by kernel_rfl)) (fun _ _ _ h => h) (Or.inl ⟨by rfl, ?_⟩) hHeld ?_ ?_
                rotate_left
                · rintro w' ⟨s0, s1⟩
                  go_simp
                  with_reducible rfl
                rotate_left
                · simp only [Act.put, List.setIfInBounds_toArray, List.set_cons_zero, List.set_cons_succ, i64_w, i32_w]
                  rfl
                refine take_ (i := 3) (N := some 38) (v := ?_) (a' := ?_) #[true, true, false, true, true, false, false, false, false, false, false] rfl rfl (take_ofW HT_.out HW_.out (by kernel_rfl)) (fun _ _ _ h => h) (Or.inl ⟨by rfl, ?_⟩) hHeld ?_ ?_
                rotate_left
                · rintro w' ⟨s0, s1⟩
                  go_simp
                  with_reducible rfl
                rotate_left
                · simp only [Act.put, List.setIfInBounds_toArray, List.set_cons_zero, List.set_cons_succ, i64_w, i32_w]
                  rfl
                refine one_ (i := 2) (N := some 37) #[true, true, true, true, true, false, false, false, false, false, false] rfl rfl (one_of HT_.out (by kernel_rfl)) (by decide) (fun K hK => ?_)
                refine goes_ Try.func18 (by kernel_rfl) rfl #[.agg #[.int .i64 a0_0, .slice A0_1 l0_1.length c0_1], .int .i64 a1] (by rfl) rfl rfl (by (try simp only [List.map_toArray, List.map_cons, List.map_nil]); first | done | rfl | (simp only [List.length_drop, List.length_take]; rfl)) ?_
                with_reducible refine (taskmasterref8_Work.calls kj11 a0_0 _ _ l0_1 a1 t198 _ ?side1 ?side2 A19.out).mono ?_
                (case side1 => repeat (first | exact (Kd.C_below HR0_1.out HB.out) | (with_reducible refine Kd.C_alloc ?_ _) | (with_reducible refine Kd.C_drewN ?_ _) | (with_reducible refine Kd.C_drew ?_)))
                (case side2 => exact HC0_1.out)
                rintro e w23 ⟨rfl, hb⟩
                refine ⟨_, rfl, ?_⟩
                have n0_ := Aside0.mk (blk_below (g := gb194) (o := .cells #[.int .i64 a0_0, .slice A0_1 l0_1.length c0_1] 24 (0, 0)) (by (with_reducible repeat (first | refine blk_drewN ?_ _ | refine blk_drew ?_ | refine blk_alloc ?_ _)); exact BK194.out) hb)
                have n1_ := Aside0.mk (below_step (by repeat (first | (with_reducible first | exact HB.out | apply below_alloc | apply pw_below_drewN | apply below_drew1 | refine below_set ?_ GE194.out) | exact HB.out)) hb)
                clear BK194
                clear HB
                have BK194 := n0_
                have HB := n1_
                clear n0_ n1_
                (try clear hb)
                (try clear hb2)
                (try clear hk)
                (try clear hi)
                refine hK.out _ _ ⟨(blk_cell BK194.out 0).trans rfl, (blk_cell BK194.out 1).trans rfl⟩ (fun hHeld => ?_)
                clear hK K
                refine norm_ (a' := ?_) ?_ ?_
                rotate_left
                · show Act.put _ (some 37) _ = _
                  simp only [Act.put, List.setIfInBounds_toArray, List.set_cons_zero, List.set_cons_succ, i64_w, i32_w]
                  rfl
                refine one_ (i := 5) (N := some 40) #[true, true, true, true, true, true, false, false, false, false, false] rfl rfl (one_of HT_.out (by kernel_rfl)) (by decide) (fun K hK => ?_)
                refine goes_ Try.func19 (by kernel_rfl) rfl #[.agg #[.int .i64 a0_0, .slice A0_1 l0_1.length c0_1], .int .i64 a1] (by rfl) rfl rfl (by (try simp only [List.map_toArray, List.map_cons, List.map_nil]); first | done | rfl | (simp only [List.length_drop, List.length_take]; rfl)) ?_
                with_reducible refine (taskmasterref8_Made.calls kj11 a0_0 _ _ l0_1 a1 t199 _ ?side1 ?side2 A20.out).mono ?_
                (case side1 => repeat (first | exact (Kd.C_below HR0_1.out HB.out) | (with_reducible refine Kd.C_alloc ?_ _) | (with_reducible refine Kd.C_drewN ?_ _) | (with_reducible refine Kd.C_drew ?_)))
                (case side2 => exact HC0_1.out)
                rintro e w24 ⟨rfl, hb⟩
                refine ⟨_, rfl, ?_⟩
                have n0_ := Aside0.mk (blk_below (g := gb194) (o := .cells #[.int .i64 a0_0, .slice A0_1 l0_1.length c0_1] 24 (0, 0)) (by (with_reducible repeat (first | refine blk_drewN ?_ _ | refine blk_drew ?_ | refine blk_alloc ?_ _)); exact BK194.out) hb)
                have n1_ := Aside0.mk (below_step (by repeat (first | (with_reducible first | exact HB.out | apply below_alloc | apply pw_below_drewN | apply below_drew1 | refine below_set ?_ GE194.out) | exact HB.out)) hb)
                clear BK194
                clear HB
                have BK194 := n0_
                have HB := n1_
                clear n0_ n1_
                (try clear hb)
                (try clear hb2)
                (try clear hk)
                (try clear hi)
                refine hK.out _ _ ⟨(blk_cell BK194.out 0).trans rfl, (blk_cell BK194.out 1).trans rfl⟩ (fun hHeld => ?_)
                clear hK K
                refine norm_ (a' := ?_) ?_ ?_
                rotate_left
                · show Act.put _ (some 40) _ = _
                  simp only [Act.put, List.setIfInBounds_toArray, List.set_cons_zero, List.set_cons_succ, i64_w, i32_w]
                  rfl
                refine one_ (i := 6) (N := some 41) #[true, true, true, true, true, true, true, false, false, false, false] rfl rfl (one_of HT_.out (by kernel_rfl)) (by decide) (fun K hK => ?_)
                refine goes_ Try.func17 (by kernel_rfl) rfl #[.int .i64 t198, .int .i64 t199] (by rfl) rfl rfl (by (try simp only [List.map_toArray, List.map_cons, List.map_nil]); first | done | rfl | (simp only [List.length_drop, List.length_take]; rfl)) ?_
                with_reducible refine (taskmasterref3_Of.calls t198 t199 t200 t201 _ A21.out).mono ?_
                rintro e w25 ⟨rfl, hb⟩
                refine ⟨_, rfl, ?_⟩
                have n0_ := Aside0.mk (blk_below (g := gb194) (o := .cells #[.int .i64 a0_0, .slice A0_1 l0_1.length c0_1] 24 (0, 0)) (by (with_reducible repeat (first | refine blk_drewN ?_ _ | refine blk_drew ?_ | refine blk_alloc ?_ _)); exact BK194.out) hb)
                have n1_ := Aside0.mk (below_step (by repeat (first | (with_reducible first | exact HB.out | apply below_alloc | apply pw_below_drewN | apply below_drew1 | refine below_set ?_ GE194.out) | exact HB.out)) hb)
                clear BK194
                clear HB
                have BK194 := n0_
                have HB := n1_
                clear n0_ n1_
                (try clear hb)
                (try clear hb2)
                (try clear hk)
                (try clear hi)
                refine hK.out _ _ ⟨(blk_cell BK194.out 0).trans rfl, (blk_cell BK194.out 1).trans rfl⟩ (fun hHeld => ?_)
                clear hK K
                refine norm_ (a' := ?_) ?_ ?_
                rotate_left
                · show Act.put _ (some 41) _ = _
                  simp only [Act.put, List.setIfInBounds_toArray, List.set_cons_zero, List.set_cons_succ, i64_w, i32_w]
                  rfl
                refine pure_ (i := 7) (N := some 34) (v := ?_) (a' := ?_) #[true, true, true, true, true, true, true, true, false, false, false] rfl rfl (any_of HT_.out (by kernel_rfl)) (fun _ _ _ h => h) (Or.inl ⟨by rfl, ?_⟩) ?_ ?_
                rotate_left
                · intro w'
                  go_simp
                  with_reducible rfl
                rotate_left
                · simp only [Act.put, List.setIfInBounds_toArray, List.set_cons_zero, List.set_cons_succ, i64_w, i32_w]
                  rfl
                refine pure_ (i := 8) (N := some 42) (v := ?_) (a' := ?_) #[true, true, true, true, true, true, true, true, true, false, false] rfl rfl (any_of HT_.out (by kernel_rfl)) (fun _ _ _ h => h) (Or.inl ⟨by rfl, ?_⟩) ?_ ?_
                rotate_left
                · intro w'
                  go_simp
                  with_reducible rfl
                rotate_left
                · simp only [Act.put, List.setIfInBounds_toArray, List.set_cons_zero, List.set_cons_succ, i64_w, i32_w]
                  rfl
                refine pure_ (i := 9) (N := some 43) (v := ?_) (a' := ?_) #[true, true, true, true, true, true, true, true, true, true, false] rfl rfl (any_of HT_.out (by kernel_rfl)) (fun _ _ _ h => h) (Or.inl ⟨by rfl, ?_⟩) ?_ ?_
                rotate_left
                · intro w'
                  go_simp
                  with_reducible rfl
                rotate_left
                · simp only [Act.put, List.setIfInBounds_toArray, List.set_cons_zero, List.set_cons_succ, i64_w, i32_w]
                  rfl
                refine pure_ (i := 10) (N := some 8) (v := ?_) (a' := ?_) #[true, true, true, true, true, true, true, true, true, true, true] rfl rfl (any_of HT_.out (by kernel_rfl)) (fun _ _ _ h => h) (Or.inl ⟨by rfl, ?_⟩) ?_ ?_
                rotate_left
                · intro w'
                  go_simp
                  with_reducible rfl
                rotate_left
                · simp only [Act.put, List.setIfInBounds_toArray, List.set_cons_zero, List.set_cons_succ, i64_w, i32_w]
                  rfl
                refine done_ (done_of HT_.out (by kernel_rfl)) ?_
                try go_wp2
                go_meet
                case rel => exact ⟨_, (t200), (by first | rfl | (simp; done) | (simp [*]; done)), H', ⟨by have := HJ2.out; have := HJ11.out; first | omega | exact Nat.le_refl _⟩, ⟨by (with_reducible repeat (first | refine blk_drewN ?_ _ | refine blk_drew ?_ | refine blk_alloc ?_ _)); exact BK194.out⟩, ⟨by repeat (first | (with_reducible first | exact HB.out | apply below_alloc | apply pw_below_drewN | apply below_drew1 | refine below_set ?_ GE194.out) | exact HB.out)⟩⟩
              · replace c18 := Bool.eq_false_iff.mpr c18
                subst c18
                have H1 : (taskmasterlaw8_AgainTells.j2 kj11 a1 t196 t197 false ((0, 0) : Nat × Nat) a0_0 l0_1) = some r := by rw [if_neg (show ¬ (false = true) by decide)] at H; exact H
                clear H
                have H := H1
                clear H1
                have H' := Aside0.mk H
                clear H
                go_wp2
                go_meet
                case rel => exact ⟨_, (((0, 0) : Nat × Nat)), (by first | rfl | (simp; done) | (simp [*]; done)), H', ⟨by have := HJ2.out; have := HJ11.out; first | omega | exact Nat.le_refl _⟩, ⟨by (with_reducible repeat (first | refine blk_drewN ?_ _ | refine blk_drew ?_ | refine blk_alloc ?_ _)); exact BK194.out⟩, ⟨by repeat (first | (with_reducible first | exact HB.out | apply below_alloc | apply pw_below_drewN | apply below_drew1 | refine below_set ?_ GE194.out) | exact HB.out)⟩⟩
            case rest =>
              clear HC17
              try clear c1
              try clear p2
              try clear c5
              try clear c5b0
              try clear c5b1
              try clear c6
              try clear c10
              try clear c15
              try clear c15b0
              try clear c16
              try clear c17
              try clear c18
              try clear c19
              try clear hcz13_0
              try clear hcz13_1
              try clear hcz16_0
              try clear hcz16_1
              try clear hcz6_0
              try clear hcz6_1
              try clear hcz8_0
              try clear hcz8_1
              try clear hfz13_0
              try clear hfz13_1
              try clear hfz16_0
              try clear hfz16_1
              try clear hfz6_0
              try clear hfz6_1
              try clear hfz8_0
              try clear hfz8_1
              try clear p2
              obtain ⟨kq, x8_16, rfl, HA, HJ16, BK194, HB⟩ := hcut
              cases kq with
              | zero => exact absurd HA.out (by simp [taskmasterlaw8_AgainTells.j2])
              | succ kj16 =>
                have H := HA.out
                clear HA
                simp only [taskmasterlaw8_AgainTells.j2] at H
                replace H := Option.bind_eq_some_iff.mp H
                obtain ⟨t202, A260, H⟩ := H
                replace H : ((taskmasterref8_Own.f kj16 a0_0 l0_1 a1).bind fun t203 => (if t202 = t203 then ((again_Made.f kj16 a0_0 l0_1 a1).bind fun t204 => ((taskmasterref8_Made.f kj16 a0_0 l0_1 a1).bind fun t205 => (if t204 = t205 then (if ((FloatKind.f64.format.order t196.1 x8_16.1 == some .eq) && (FloatKind.f64.format.order t196.2 x8_16.2 == some .eq)) = true then (if (t197 == x7_11) = true then ((taskmasterlaw8_known.f kj16).bind fun t206 => (some t206)) else (some false)) else (some false)) else (some false)))) else (some false))) = some r := H
                have A26 := Aside0.mk A260
                clear A260
                replace H := Option.bind_eq_some_iff.mp H
                obtain ⟨t203, A270, H⟩ := H
                replace H : (if t202 = t203 then ((again_Made.f kj16 a0_0 l0_1 a1).bind fun t204 => ((taskmasterref8_Made.f kj16 a0_0 l0_1 a1).bind fun t205 => (if t204 = t205 then (if ((FloatKind.f64.format.order t196.1 x8_16.1 == some .eq) && (FloatKind.f64.format.order t196.2 x8_16.2 == some .eq)) = true then (if (t197 == x7_11) = true then ((taskmasterlaw8_known.f kj16).bind fun t206 => (some t206)) else (some false)) else (some false)) else (some false)))) else (some false)) = some r := H
                have A27 := Aside0.mk A270
                clear A270
                by_cases c28 : t202 = t203
                · rw [if_pos c28] at H
                  have c28b0 : (t202 == t203) = true := beq_iff_eq.mpr c28
                  have c28b1 : (t202 != t203) = false := bne_eq_false_iff_eq.mpr c28
                  clear c28
                  replace H := Option.bind_eq_some_iff.mp H
                  obtain ⟨t204, A290, H⟩ := H
                  replace H : ((taskmasterref8_Made.f kj16 a0_0 l0_1 a1).bind fun t205 => (if t204 = t205 then (if ((FloatKind.f64.format.order t196.1 x8_16.1 == some .eq) && (FloatKind.f64.format.order t196.2 x8_16.2 == some .eq)) = true then (if (t197 == x7_11) = true then ((taskmasterlaw8_known.f kj16).bind fun t206 => (some t206)) else (some false)) else (some false)) else (some false))) = some r := H
                  have A29 := Aside0.mk A290
                  clear A290
                  replace H := Option.bind_eq_some_iff.mp H
                  obtain ⟨t205, A300, H⟩ := H
                  replace H : (if t204 = t205 then (if ((FloatKind.f64.format.order t196.1 x8_16.1 == some .eq) && (FloatKind.f64.format.order t196.2 x8_16.2 == some .eq)) = true then (if (t197 == x7_11) = true then ((taskmasterlaw8_known.f kj16).bind fun t206 => (some t206)) else (some false)) else (some false)) else (some false)) = some r := H
                  have A30 := Aside0.mk A300
                  clear A300
                  by_cases c31 : t204 = t205
                  · rw [if_pos c31] at H
                    have c31b0 : (t204 == t205) = true := beq_iff_eq.mpr c31
                    have c31b1 : (t204 != t205) = false := bne_eq_false_iff_eq.mpr c31
                    clear c31
                    by_cases c32 : ((FloatKind.f64.format.order t196.1 x8_16.1 == some .eq) && (FloatKind.f64.format.order t196.2 x8_16.2 == some .eq)) = true
                    · rw [if_pos c32] at H
                      have c32b0 : ((FloatKind.f64.format.order t196.1 x8_16.1 == some .eq) && (FloatKind.f64.format.order t196.2 x8_16.2 == some .eq)) = true := c32
                      clear c32
                      by_cases c33 : (t197 == x7_11) = true
                      · rw [if_pos c33] at H
                        have c33b0 : (t197 == x7_11) = true := c33
                        (try (have c33b1 : decide (t197 = x7_11) = true := by simpa using c33))
                        (try (have c33b2 : (t197 == x7_11) = true := by simpa using c33))
                        clear c33
                        replace H := Option.bind_eq_some_iff.mp H
                        obtain ⟨t206, A340, H⟩ := H
                        replace H : (some t206) = some r := H
                        have A34 := Aside0.mk A340
                        clear A340
                        obtain rfl := Option.some.inj H
                        try go_wp2
                        have n0_ := Aside0.mk (blk_drew BK194.out)
                        have n1_ := Aside0.mk (below_drew1 HB.out)
                        clear BK194
                        clear HB
                        have BK194 := n0_
                        have HB := n1_
                        clear n0_ n1_
                        refine start_ (n := 30) (S := fun w' => w'.cell? ⟨gb194, 0, none⟩ = some (.int .i64 a0_0) ∧ w'.cell? ⟨gb194, 1, none⟩ = some (.slice A0_1 l0_1.length c0_1)) (ds := []) #[false, false, false, false, false, false, false, false, false, false, false, false, false, false, false, false, false, false, false, false, false, false, false, false, false, false, false, false, false, false] (by kernel_rfl) rfl rfl ⟨(blk_cell BK194.out 0).trans rfl, (blk_cell BK194.out 1).trans rfl⟩ (fun hHeld => ?_); refine with_tabW taskmasterlaw8_AgainTells.tab8 taskmasterlaw8_AgainTells.bits8 (fun HT_ HW_ => ?_)
                        generalize wc.drew = w35 at BK194 HB hHeld ⊢
                        refine pure_ (i := 1) (N := some 45) (v := ?_) (a' := ?_) #[false, true, false, false, false, false, false, false, false, false, false, false, false, false, false, false, false, false, false, false, false, false, false, false, false, false, false, false, false, false] rfl rfl (any_of HT_.out (by kernel_rfl)) (fun _ _ _ h => h) (Or.inl ⟨by rfl, ?_⟩) ?_ ?_
                        rotate_left
                        · intro w'
                          go_simp
                          with_reducible rfl
                        rotate_left
                        · simp only [Act.put, List.setIfInBounds_toArray, List.set_cons_zero, List.set_cons_succ, i64_w, i32_w]
                          rfl
                        refine pure_ (i := 4) (N := some 48) (v := ?_) (a' := ?_) #[false, true, false, false, true, false, false, false, false, false, false, false, false, false, false, false, false, false, false, false, false, false, false, false, false, false, false, false, false, false] rfl rfl (any_of HT_.out (by kernel_rfl)) (fun _ _ _ h => h) (Or.inl ⟨by rfl, ?_⟩) ?_ ?_
                        rotate_left
                        · intro w'
                          go_simp
                          with_reducible rfl
                        rotate_left
                        · simp only [Act.put, List.setIfInBounds_toArray, List.set_cons_zero, List.set_cons_succ, i64_w, i32_w]
                          rfl
                        refine take_ (i := 0) (N := some 44) (v := ?_) (a' := ?_) #[true, true, false, false, true, false, false, false, false, false, false, false, false, false, false, false, false, false, false, false, false, false, false, false, false, false, false, false, false, false] rfl rfl (take_ofW HT_.out HW_.out (by kernel_rfl)) (fun _ _ _ h => h) (Or.inl ⟨by rfl, ?_⟩) hHeld ?_ ?_
                        rotate_left
                        · rintro w' ⟨s0, s1⟩
                          go_simp
                          with_reducible rfl
                        rotate_left
                        · simp only [Act.put, List.setIfInBounds_toArray, List.set_cons_zero, List.set_cons_succ, i64_w, i32_w]
                          rfl
                        refine take_ (i := 3) (N := some 47) (v := ?_) (a' := ?_) #[true, true, false, true, true, false, false, false, false, false, false, false, false, false, false, false, false, false, false, false, false, false, false, false, false, false, false, false, false, false] rfl rfl (take_ofW HT_.out HW_.out (by kernel_rfl)) (fun _ _ _ h => h) (Or.inl ⟨by rfl, ?_⟩) hHeld ?_ ?_
                        rotate_left
                        · rintro w' ⟨s0, s1⟩
                          go_simp
                          with_reducible rfl
                        rotate_left
                        · simp only [Act.put, List.setIfInBounds_toArray, List.set_cons_zero, List.set_cons_succ, i64_w, i32_w]
                          rfl
                        refine one_ (i := 2) (N := some 46) #[true, true, true, true, true, false, false, false, false, false, false, false, false, false, false, false, false, false, false, false, false, false, false, false, false, false, false, false, false, false] rfl rfl (one_of HT_.out (by kernel_rfl)) (by decide) (fun K hK => ?_)
                        refine goes_ Try.func15 (by kernel_rfl) rfl #[.agg #[.int .i64 a0_0, .slice A0_1 l0_1.length c0_1], .int .i64 a1] (by rfl) rfl rfl (by (try simp only [List.map_toArray, List.map_cons, List.map_nil]); first | done | rfl | (simp only [List.length_drop, List.length_take]; rfl)) ?_
                        with_reducible refine (again_Own.calls a0_0 _ _ l0_1 a1 t202 _ ?side1 ?side2 A26.out).mono ?_
                        (case side1 => repeat (first | exact (Kd.C_below HR0_1.out HB.out) | (with_reducible refine Kd.C_alloc ?_ _) | (with_reducible refine Kd.C_drewN ?_ _) | (with_reducible refine Kd.C_drew ?_)))
                        (case side2 => exact HC0_1.out)
                        rintro e w36 ⟨rfl, hb⟩
                        refine ⟨_, rfl, ?_⟩
                        have n0_ := Aside0.mk (blk_below (g := gb194) (o := .cells #[.int .i64 a0_0, .slice A0_1 l0_1.length c0_1] 24 (0, 0)) (by (with_reducible repeat (first | refine blk_drewN ?_ _ | refine blk_drew ?_ | refine blk_alloc ?_ _)); exact BK194.out) hb)
                        have n1_ := Aside0.mk (below_step (by repeat (first | (with_reducible first | exact HB.out | apply below_alloc | apply pw_below_drewN | apply below_drew1 | refine below_set ?_ GE194.out) | exact HB.out)) hb)
                        clear BK194
                        clear HB
                        have BK194 := n0_
                        have HB := n1_
                        clear n0_ n1_
                        (try clear hb)
                        (try clear hb2)
                        (try clear hk)
                        (try clear hi)
                        refine hK.out _ _ ⟨(blk_cell BK194.out 0).trans rfl, (blk_cell BK194.out 1).trans rfl⟩ (fun hHeld => ?_)
                        clear hK K
                        refine norm_ (a' := ?_) ?_ ?_
                        rotate_left
                        · show Act.put _ (some 46) _ = _
                          simp only [Act.put, List.setIfInBounds_toArray, List.set_cons_zero, List.set_cons_succ, i64_w, i32_w]
                          rfl
                        refine one_ (i := 5) (N := some 49) #[true, true, true, true, true, true, false, false, false, false, false, false, false, false, false, false, false, false, false, false, false, false, false, false, false, false, false, false, false, false] rfl rfl (one_of HT_.out (by kernel_rfl)) (by decide) (fun K hK => ?_)
                        refine goes_ Try.func20 (by kernel_rfl) rfl #[.agg #[.int .i64 a0_0, .slice A0_1 l0_1.length c0_1], .int .i64 a1] (by rfl) rfl rfl (by (try simp only [List.map_toArray, List.map_cons, List.map_nil]); first | done | rfl | (simp only [List.length_drop, List.length_take]; rfl)) ?_
                        with_reducible refine (taskmasterref8_Own.calls kj16 a0_0 _ _ l0_1 a1 t203 _ ?side1 ?side2 A27.out).mono ?_
                        (case side1 => repeat (first | exact (Kd.C_below HR0_1.out HB.out) | (with_reducible refine Kd.C_alloc ?_ _) | (with_reducible refine Kd.C_drewN ?_ _) | (with_reducible refine Kd.C_drew ?_)))
                        (case side2 => exact HC0_1.out)
                        rintro e w37 ⟨rfl, hb⟩
                        refine ⟨_, rfl, ?_⟩
                        have n0_ := Aside0.mk (blk_below (g := gb194) (o := .cells #[.int .i64 a0_0, .slice A0_1 l0_1.length c0_1] 24 (0, 0)) (by (with_reducible repeat (first | refine blk_drewN ?_ _ | refine blk_drew ?_ | refine blk_alloc ?_ _)); exact BK194.out) hb)
                        have n1_ := Aside0.mk (below_step (by repeat (first | (with_reducible first | exact HB.out | apply below_alloc | apply pw_below_drewN | apply below_drew1 | refine below_set ?_ GE194.out) | exact HB.out)) hb)
                        clear BK194
                        clear HB
                        have BK194 := n0_
                        have HB := n1_
                        clear n0_ n1_
                        (try clear hb)
                        (try clear hb2)
                        (try clear hk)
                        (try clear hi)
                        refine hK.out _ _ ⟨(blk_cell BK194.out 0).trans rfl, (blk_cell BK194.out 1).trans rfl⟩ (fun hHeld => ?_)
                        clear hK K
                        refine norm_ (a' := ?_) ?_ ?_
                        rotate_left
                        · show Act.put _ (some 49) _ = _
                          simp only [Act.put, List.setIfInBounds_toArray, List.set_cons_zero, List.set_cons_succ, i64_w, i32_w]
                          rfl
                        refine pure_ (i := 6) (N := some 50) (v := ?_) (a' := ?_) #[true, true, true, true, true, true, true, false, false, false, false, false, false, false, false, false, false, false, false, false, false, false, false, false, false, false, false, false, false, false] rfl rfl (any_of HT_.out (by kernel_rfl)) (fun _ _ _ h => h) (Or.inl ⟨by rfl, ?_⟩) ?_ ?_
                        rotate_left
                        · intro w'
                          go_simp
                          with_reducible rfl
                        rotate_left
                        · simp only [Act.put, List.setIfInBounds_toArray, List.set_cons_zero, List.set_cons_succ, i64_w, i32_w]
                          rfl
                        refine pure_ (i := 7) (N := some 51) (v := ?_) (a' := ?_) #[true, true, true, true, true, true, true, true, false, false, false, false, false, false, false, false, false, false, false, false, false, false, false, false, false, false, false, false, false, false] rfl rfl (any_of HT_.out (by kernel_rfl)) (fun _ _ _ h => h) (Or.inl ⟨by rfl, ?_⟩) ?_ ?_
                        rotate_left
                        · intro w'
                          go_simp
                          with_reducible rfl
                        rotate_left
                        · simp only [Act.put, List.setIfInBounds_toArray, List.set_cons_zero, List.set_cons_succ, i64_w, i32_w]
                          rfl
                        refine pure_ (i := 9) (N := some 53) (v := ?_) (a' := ?_) #[true, true, true, true, true, true, true, true, false, true, false, false, false, false, false, false, false, false, false, false, false, false, false, false, false, false, false, false, false, false] rfl rfl (any_of HT_.out (by kernel_rfl)) (fun _ _ _ h => h) (Or.inl ⟨by rfl, ?_⟩) ?_ ?_
                        rotate_left
                        · intro w'
                          go_simp
                          with_reducible rfl
                        rotate_left
                        · simp only [Act.put, List.setIfInBounds_toArray, List.set_cons_zero, List.set_cons_succ, i64_w, i32_w]
                          rfl
                        refine pure_ (i := 12) (N := some 56) (v := ?_) (a' := ?_) #[true, true, true, true, true, true, true, true, false, true, false, false, true, false, false, false, false, false, false, false, false, false, false, false, false, false, false, false, false, false] rfl rfl (any_of HT_.out (by kernel_rfl)) (fun _ _ _ h => h) (Or.inl ⟨by rfl, ?_⟩) ?_ ?_
                        rotate_left
                        · intro w'
                          go_simp
                          with_reducible rfl
                        rotate_left
                        · simp only [Act.put, List.setIfInBounds_toArray, List.set_cons_zero, List.set_cons_succ, i64_w, i32_w]
                          rfl
                        refine take_ (i := 8) (N := some 52) (v := ?_) (a' := ?_) #[true, true, true, true, true, true, true, true, true, true, false, false, true, false, false, false, false, false, false, false, false, false, false, false, false, false, false, false, false, false] rfl rfl (take_ofW HT_.out HW_.out (by kernel_rfl)) (fun _ _ _ h => h) (Or.inl ⟨by rfl, ?_⟩) hHeld ?_ ?_
                        rotate_left
                        · rintro w' ⟨s0, s1⟩
                          go_simp
                          with_reducible rfl
                        rotate_left
                        · simp only [Act.put, List.setIfInBounds_toArray, List.set_cons_zero, List.set_cons_succ, i64_w, i32_w]
                          rfl
                        refine take_ (i := 11) (N := some 55) (v := ?_) (a' := ?_) #[true, true, true, true, true, true, true, true, true, true, false, true, true, false, false, false, false, false, false, false, false, false, false, false, false, false, false, false, false, false] rfl rfl (take_ofW HT_.out HW_.out (by kernel_rfl)) (fun _ _ _ h => h) (Or.inl ⟨by rfl, ?_⟩) hHeld ?_ ?_
                        rotate_left
                        · rintro w' ⟨s0, s1⟩
                          go_simp
                          with_reducible rfl
                        rotate_left
                        · simp only [Act.put, List.setIfInBounds_toArray, List.set_cons_zero, List.set_cons_succ, i64_w, i32_w]
                          rfl
                        refine one_ (i := 10) (N := some 54) #[true, true, true, true, true, true, true, true, true, true, true, true, true, false, false, false, false, false, false, false, false, false, false, false, false, false, false, false, false, false] rfl rfl (one_of HT_.out (by kernel_rfl)) (by decide) (fun K hK => ?_)
                        refine goes_ Try.func11 (by kernel_rfl) rfl #[.agg #[.int .i64 a0_0, .slice A0_1 l0_1.length c0_1], .int .i64 a1] (by rfl) rfl rfl (by (try simp only [List.map_toArray, List.map_cons, List.map_nil]); first | done | rfl | (simp only [List.length_drop, List.length_take]; rfl)) ?_
                        with_reducible refine (again_Made.calls kj16 a0_0 _ _ l0_1 a1 t204 _ ?side1 ?side2 A29.out).mono ?_
                        (case side1 => repeat (first | exact (Kd.C_below HR0_1.out HB.out) | (with_reducible refine Kd.C_alloc ?_ _) | (with_reducible refine Kd.C_drewN ?_ _) | (with_reducible refine Kd.C_drew ?_)))
                        (case side2 => exact HC0_1.out)
                        rintro e w38 ⟨rfl, hb⟩
                        refine ⟨_, rfl, ?_⟩
                        have n0_ := Aside0.mk (blk_below (g := gb194) (o := .cells #[.int .i64 a0_0, .slice A0_1 l0_1.length c0_1] 24 (0, 0)) (by (with_reducible repeat (first | refine blk_drewN ?_ _ | refine blk_drew ?_ | refine blk_alloc ?_ _)); exact BK194.out) hb)
                        have n1_ := Aside0.mk (below_step (by repeat (first | (with_reducible first | exact HB.out | apply below_alloc | apply pw_below_drewN | apply below_drew1 | refine below_set ?_ GE194.out) | exact HB.out)) hb)
                        clear BK194
                        clear HB
                        have BK194 := n0_
                        have HB := n1_
                        clear n0_ n1_
                        (try clear hb)
                        (try clear hb2)
                        (try clear hk)
                        (try clear hi)
                        refine hK.out _ _ ⟨(blk_cell BK194.out 0).trans rfl, (blk_cell BK194.out 1).trans rfl⟩ (fun hHeld => ?_)
                        clear hK K
                        refine norm_ (a' := ?_) ?_ ?_
                        rotate_left
                        · show Act.put _ (some 54) _ = _
                          simp only [Act.put, List.setIfInBounds_toArray, List.set_cons_zero, List.set_cons_succ, i64_w, i32_w]
                          rfl
                        refine one_ (i := 13) (N := some 57) #[true, true, true, true, true, true, true, true, true, true, true, true, true, true, false, false, false, false, false, false, false, false, false, false, false, false, false, false, false, false] rfl rfl (one_of HT_.out (by kernel_rfl)) (by decide) (fun K hK => ?_)
                        refine goes_ Try.func19 (by kernel_rfl) rfl #[.agg #[.int .i64 a0_0, .slice A0_1 l0_1.length c0_1], .int .i64 a1] (by rfl) rfl rfl (by (try simp only [List.map_toArray, List.map_cons, List.map_nil]); first | done | rfl | (simp only [List.length_drop, List.length_take]; rfl)) ?_
                        with_reducible refine (taskmasterref8_Made.calls kj16 a0_0 _ _ l0_1 a1 t205 _ ?side1 ?side2 A30.out).mono ?_
                        (case side1 => repeat (first | exact (Kd.C_below HR0_1.out HB.out) | (with_reducible refine Kd.C_alloc ?_ _) | (with_reducible refine Kd.C_drewN ?_ _) | (with_reducible refine Kd.C_drew ?_)))
                        (case side2 => exact HC0_1.out)
                        rintro e w39 ⟨rfl, hb⟩
                        refine ⟨_, rfl, ?_⟩
                        have n0_ := Aside0.mk (blk_below (g := gb194) (o := .cells #[.int .i64 a0_0, .slice A0_1 l0_1.length c0_1] 24 (0, 0)) (by (with_reducible repeat (first | refine blk_drewN ?_ _ | refine blk_drew ?_ | refine blk_alloc ?_ _)); exact BK194.out) hb)
                        have n1_ := Aside0.mk (below_step (by repeat (first | (with_reducible first | exact HB.out | apply below_alloc | apply pw_below_drewN | apply below_drew1 | refine below_set ?_ GE194.out) | exact HB.out)) hb)
                        clear BK194
                        clear HB
                        have BK194 := n0_
                        have HB := n1_
                        clear n0_ n1_
                        (try clear hb)
                        (try clear hb2)
                        (try clear hk)
                        (try clear hi)
                        refine hK.out _ _ ⟨(blk_cell BK194.out 0).trans rfl, (blk_cell BK194.out 1).trans rfl⟩ (fun hHeld => ?_)
                        clear hK K
                        refine norm_ (a' := ?_) ?_ ?_
                        rotate_left
                        · show Act.put _ (some 57) _ = _
                          simp only [Act.put, List.setIfInBounds_toArray, List.set_cons_zero, List.set_cons_succ, i64_w, i32_w]
                          rfl
                        refine pure_ (i := 14) (N := some 58) (v := ?_) (a' := ?_) #[true, true, true, true, true, true, true, true, true, true, true, true, true, true, true, false, false, false, false, false, false, false, false, false, false, false, false, false, false, false] rfl rfl (any_of HT_.out (by kernel_rfl)) (fun _ _ _ h => h) (Or.inl ⟨by rfl, ?_⟩) ?_ ?_
                        rotate_left
                        · intro w'
                          go_simp
                          with_reducible rfl
                        rotate_left
                        · simp only [Act.put, List.setIfInBounds_toArray, List.set_cons_zero, List.set_cons_succ, i64_w, i32_w]
                          rfl
                        refine pure_ (i := 15) (N := some 59) (v := ?_) (a' := ?_) #[true, true, true, true, true, true, true, true, true, true, true, true, true, true, true, true, false, false, false, false, false, false, false, false, false, false, false, false, false, false] rfl rfl (any_of HT_.out (by kernel_rfl)) (fun _ _ _ h => h) (Or.inl ⟨by rfl, ?_⟩) ?_ ?_
                        rotate_left
                        · intro w'
                          go_simp
                          with_reducible rfl
                        rotate_left
                        · simp only [Act.put, List.setIfInBounds_toArray, List.set_cons_zero, List.set_cons_succ, i64_w, i32_w]
                          rfl
                        refine pure_ (i := 16) (N := some 60) (v := ?_) (a' := ?_) #[true, true, true, true, true, true, true, true, true, true, true, true, true, true, true, true, true, false, false, false, false, false, false, false, false, false, false, false, false, false] rfl rfl (any_of HT_.out (by kernel_rfl)) (fun _ _ _ h => h) (Or.inl ⟨by rfl, ?_⟩) ?_ ?_
                        rotate_left
                        · intro w'
                          go_simp
                          with_reducible rfl
                        rotate_left
                        · simp only [Act.put, List.setIfInBounds_toArray, List.set_cons_zero, List.set_cons_succ, i64_w, i32_w]
                          rfl
                        refine pure_ (i := 17) (N := some 61) (v := ?_) (a' := ?_) #[true, true, true, true, true, true, true, true, true, true, true, true, true, true, true, true, true, true, false, false, false, false, false, false, false, false, false, false, false, false] rfl rfl (any_of HT_.out (by kernel_rfl)) (fun _ _ _ h => h) (Or.inl ⟨by rfl, ?_⟩) ?_ ?_
                        rotate_left
                        · intro w'
                          go_simp
                          with_reducible rfl
                        rotate_left
                        · simp only [Act.put, List.setIfInBounds_toArray, List.set_cons_zero, List.set_cons_succ, i64_w, i32_w]
                          rfl
                        refine pure_ (i := 18) (N := some 62) (v := ?_) (a' := ?_) #[true, true, true, true, true, true, true, true, true, true, true, true, true, true, true, true, true, true, true, false, false, false, false, false, false, false, false, false, false, false] rfl rfl (any_of HT_.out (by kernel_rfl)) (fun _ _ _ h => h) (Or.inl ⟨by rfl, ?_⟩) ?_ ?_
                        rotate_left
                        · intro w'
                          go_simp
                          with_reducible rfl
                        rotate_left
                        · simp only [Act.put, List.setIfInBounds_toArray, List.set_cons_zero, List.set_cons_succ, i64_w, i32_w]
                          rfl
                        refine pure_ (i := 19) (N := some 63) (v := ?_) (a' := ?_) #[true, true, true, true, true, true, true, true, true, true, true, true, true, true, true, true, true, true, true, true, false, false, false, false, false, false, false, false, false, false] rfl rfl (any_of HT_.out (by kernel_rfl)) (fun _ _ _ h => h) (Or.inl ⟨by rfl, ?_⟩) ?_ ?_
                        rotate_left
                        · intro w'
                          go_simp
                          with_reducible rfl
                        rotate_left
                        · simp only [Act.put, List.setIfInBounds_toArray, List.set_cons_zero, List.set_cons_succ, i64_w, i32_w]
                          rfl
                        refine pure_ (i := 20) (N := some 64) (v := ?_) (a' := ?_) #[true, true, true, true, true, true, true, true, true, true, true, true, true, true, true, true, true, true, true, true, true, false, false, false, false, false, false, false, false, false] rfl rfl (any_of HT_.out (by kernel_rfl)) (fun _ _ _ h => h) (Or.inl ⟨by rfl, ?_⟩) ?_ ?_
                        rotate_left
                        · intro w'
                          go_simp
                          with_reducible rfl
                        rotate_left
                        · simp only [Act.put, List.setIfInBounds_toArray, List.set_cons_zero, List.set_cons_succ, i64_w, i32_w]
                          rfl
                        refine pure_ (i := 21) (N := some 65) (v := ?_) (a' := ?_) #[true, true, true, true, true, true, true, true, true, true, true, true, true, true, true, true, true, true, true, true, true, true, false, false, false, false, false, false, false, false] rfl rfl (any_of HT_.out (by kernel_rfl)) (fun _ _ _ h => h) (Or.inl ⟨by rfl, ?_⟩) ?_ ?_
                        rotate_left
                        · intro w'
                          go_simp
                          with_reducible rfl
                        rotate_left
                        · simp only [Act.put, List.setIfInBounds_toArray, List.set_cons_zero, List.set_cons_succ, i64_w, i32_w]
                          rfl
                        refine pure_ (i := 22) (N := some 66) (v := ?_) (a' := ?_) #[true, true, true, true, true, true, true, true, true, true, true, true, true, true, true, true, true, true, true, true, true, true, true, false, false, false, false, false, false, false] rfl rfl (any_of HT_.out (by kernel_rfl)) (fun _ _ _ h => h) (Or.inl ⟨by rfl, ?_⟩) ?_ ?_
                        rotate_left
                        · intro w'
                          go_simp
                          with_reducible rfl
                        rotate_left
                        · simp only [Act.put, List.setIfInBounds_toArray, List.set_cons_zero, List.set_cons_succ, i64_w, i32_w]
                          rfl
                        refine pure_ (i := 23) (N := some 67) (v := ?_) (a' := ?_) #[true, true, true, true, true, true, true, true, true, true, true, true, true, true, true, true, true, true, true, true, true, true, true, true, false, false, false, false, false, false] rfl rfl (any_of HT_.out (by kernel_rfl)) (fun _ _ _ h => h) (Or.inl ⟨by rfl, ?_⟩) ?_ ?_
                        rotate_left
                        · intro w'
                          go_simp
                          with_reducible rfl
                        rotate_left
                        · simp only [Act.put, List.setIfInBounds_toArray, List.set_cons_zero, List.set_cons_succ, i64_w, i32_w]
                          rfl
                        refine pure_ (i := 24) (N := some 68) (v := ?_) (a' := ?_) #[true, true, true, true, true, true, true, true, true, true, true, true, true, true, true, true, true, true, true, true, true, true, true, true, true, false, false, false, false, false] rfl rfl (any_of HT_.out (by kernel_rfl)) (fun _ _ _ h => h) (Or.inl ⟨by rfl, ?_⟩) ?_ ?_
                        rotate_left
                        · intro w'
                          go_simp
                          with_reducible rfl
                        rotate_left
                        · simp only [Act.put, List.setIfInBounds_toArray, List.set_cons_zero, List.set_cons_succ, i64_w, i32_w]
                          rfl
                        refine pure_ (i := 25) (N := some 69) (v := ?_) (a' := ?_) #[true, true, true, true, true, true, true, true, true, true, true, true, true, true, true, true, true, true, true, true, true, true, true, true, true, true, false, false, false, false] rfl rfl (any_of HT_.out (by kernel_rfl)) (fun _ _ _ h => h) (Or.inl ⟨by rfl, ?_⟩) ?_ ?_
                        rotate_left
                        · intro w'
                          go_simp
                          with_reducible rfl
                        rotate_left
                        · simp only [Act.put, List.setIfInBounds_toArray, List.set_cons_zero, List.set_cons_succ, i64_w, i32_w]
                          rfl
                        refine pure_ (i := 26) (N := some 70) (v := ?_) (a' := ?_) #[true, true, true, true, true, true, true, true, true, true, true, true, true, true, true, true, true, true, true, true, true, true, true, true, true, true, true, false, false, false] rfl rfl (any_of HT_.out (by kernel_rfl)) (fun _ _ _ h => h) (Or.inl ⟨by rfl, ?_⟩) ?_ ?_
                        rotate_left
                        · intro w'
                          go_simp
                          with_reducible rfl
                        rotate_left
                        · simp only [Act.put, List.setIfInBounds_toArray, List.set_cons_zero, List.set_cons_succ, i64_w, i32_w]
                          rfl
                        refine one_ (i := 27) (N := some 71) #[true, true, true, true, true, true, true, true, true, true, true, true, true, true, true, true, true, true, true, true, true, true, true, true, true, true, true, true, false, false] rfl rfl (one_of HT_.out (by kernel_rfl)) (by decide) (fun K hK => ?_)
                        refine goes_ Try.func13 (by kernel_rfl) rfl #[] (by rfl) rfl rfl (by (try simp only [List.map_toArray, List.map_cons, List.map_nil]); first | done | rfl | (simp only [List.length_drop, List.length_take]; rfl)) ?_
                        with_reducible refine (taskmasterlaw8_known.calls kj16  t206 _ A34.out).mono ?_
                        rintro e w40 ⟨rfl, hb⟩
                        refine ⟨_, rfl, ?_⟩
                        have n0_ := Aside0.mk (blk_below (g := gb194) (o := .cells #[.int .i64 a0_0, .slice A0_1 l0_1.length c0_1] 24 (0, 0)) (by (with_reducible repeat (first | refine blk_drewN ?_ _ | refine blk_drew ?_ | refine blk_alloc ?_ _)); exact BK194.out) hb)
                        have n1_ := Aside0.mk (below_step (by repeat (first | (with_reducible first | exact HB.out | apply below_alloc | apply pw_below_drewN | apply below_drew1 | refine below_set ?_ GE194.out) | exact HB.out)) hb)
                        clear BK194
                        clear HB
                        have BK194 := n0_
                        have HB := n1_
                        clear n0_ n1_
                        (try clear hb)
                        (try clear hb2)
                        (try clear hk)
                        (try clear hi)
                        refine hK.out _ _ ⟨(blk_cell BK194.out 0).trans rfl, (blk_cell BK194.out 1).trans rfl⟩ (fun hHeld => ?_)
                        clear hK K
                        refine norm_ (a' := ?_) ?_ ?_
                        rotate_left
                        · show Act.put _ (some 71) _ = _
                          simp only [Act.put, List.setIfInBounds_toArray, List.set_cons_zero, List.set_cons_succ, i64_w, i32_w]
                          rfl
                        refine pure_ (i := 28) (N := some 72) (v := ?_) (a' := ?_) #[true, true, true, true, true, true, true, true, true, true, true, true, true, true, true, true, true, true, true, true, true, true, true, true, true, true, true, true, true, false] rfl rfl (any_of HT_.out (by kernel_rfl)) (fun _ _ _ h => h) (Or.inl ⟨by rfl, ?_⟩) ?_ ?_
                        rotate_left
                        · intro w'
                          go_simp
                          with_reducible rfl
                        rotate_left
                        · simp only [Act.put, List.setIfInBounds_toArray, List.set_cons_zero, List.set_cons_succ, i64_w, i32_w]
                          rfl
                        refine pure_ (i := 29) (N := some 4) (v := ?_) (a' := ?_) #[true, true, true, true, true, true, true, true, true, true, true, true, true, true, true, true, true, true, true, true, true, true, true, true, true, true, true, true, true, true] rfl rfl (any_of HT_.out (by kernel_rfl)) (fun _ _ _ h => h) (Or.inl ⟨by rfl, ?_⟩) ?_ ?_
                        rotate_left
                        · intro w'
                          go_simp
                          with_reducible rfl
                        rotate_left
                        · simp only [Act.put, List.setIfInBounds_toArray, List.set_cons_zero, List.set_cons_succ, i64_w, i32_w]
                          rfl
                        refine done_ (done_of HT_.out (by kernel_rfl)) ?_
                        try go_wp2
                        go_ret
                        exact ⟨by first | rfl | (simp [errW_none, errW_some] <;> rfl) | (simp [*, errW_none, errW_some] <;> rfl), by repeat (first | (with_reducible first | exact HB.out | apply below_alloc | apply pw_below_drewN | apply below_drew1 | refine below_set ?_ GE194.out) | exact HB.out)⟩
                      · rw [if_neg c33] at H
                        have c33b0 : (t197 == x7_11) = false := by simpa using c33
                        (try (have c33b1 : decide (t197 = x7_11) = false := by simpa using c33))
                        (try (have c33b2 : (t197 == x7_11) = false := by simpa using c33))
                        (try (have c33b3 : ¬ (t197 = x7_11) := by simpa using c33))
                        clear c33
                        obtain rfl := Option.some.inj H
                        try go_wp2
                        have n0_ := Aside0.mk (blk_drew BK194.out)
                        have n1_ := Aside0.mk (below_drew1 HB.out)
                        clear BK194
                        clear HB
                        have BK194 := n0_
                        have HB := n1_
                        clear n0_ n1_
                        refine start_ (n := 30) (S := fun w' => w'.cell? ⟨gb194, 0, none⟩ = some (.int .i64 a0_0) ∧ w'.cell? ⟨gb194, 1, none⟩ = some (.slice A0_1 l0_1.length c0_1)) (ds := []) #[false, false, false, false, false, false, false, false, false, false, false, false, false, false, false, false, false, false, false, false, false, false, false, false, false, false, false, false, false, false] (by kernel_rfl) rfl rfl ⟨(blk_cell BK194.out 0).trans rfl, (blk_cell BK194.out 1).trans rfl⟩ (fun hHeld => ?_); refine with_tabW taskmasterlaw8_AgainTells.tab8 taskmasterlaw8_AgainTells.bits8 (fun HT_ HW_ => ?_)
                        generalize wc.drew = w41 at BK194 HB hHeld ⊢
                        refine pure_ (i := 1) (N := some 45) (v := ?_) (a' := ?_) #[false, true, false, false, false, false, false, false, false, false, false, false, false, false, false, false, false, false, false, false, false, false, false, false, false, false, false, false, false, false] rfl rfl (any_of HT_.out (by kernel_rfl)) (fun _ _ _ h => h) (Or.inl ⟨by rfl, ?_⟩) ?_ ?_
                        rotate_left
                        · intro w'
                          go_simp
                          with_reducible rfl
                        rotate_left
                        · simp only [Act.put, List.setIfInBounds_toArray, List.set_cons_zero, List.set_cons_succ, i64_w, i32_w]
                          rfl
                        refine pure_ (i := 4) (N := some 48) (v := ?_) (a' := ?_) #[false, true, false, false, true, false, false, false, false, false, false, false, false, false, false, false, false, false, false, false, false, false, false, false, false, false, false, false, false, false] rfl rfl (any_of HT_.out (by kernel_rfl)) (fun _ _ _ h => h) (Or.inl ⟨by rfl, ?_⟩) ?_ ?_
                        rotate_left
                        · intro w'
                          go_simp
                          with_reducible rfl
                        rotate_left
                        · simp only [Act.put, List.setIfInBounds_toArray, List.set_cons_zero, List.set_cons_succ, i64_w, i32_w]
                          rfl
                        refine take_ (i := 0) (N := some 44) (v := ?_) (a' := ?_) #[true, true, false, false, true, false, false, false, false, false, false, false, false, false, false, false, false, false, false, false, false, false, false, false, false, false, false, false, false, false] rfl rfl (take_ofW HT_.out HW_.out (by kernel_rfl)) (fun _ _ _ h => h) (Or.inl ⟨by rfl, ?_⟩) hHeld ?_ ?_
                        rotate_left
                        · rintro w' ⟨s0, s1⟩
                          go_simp
                          with_reducible rfl
                        rotate_left
                        · simp only [Act.put, List.setIfInBounds_toArray, List.set_cons_zero, List.set_cons_succ, i64_w, i32_w]
                          rfl
                        refine take_ (i := 3) (N := some 47) (v := ?_) (a' := ?_) #[true, true, false, true, true, false, false, false, false, false, false, false, false, false, false, false, false, false, false, false, false, false, false, false, false, false, false, false, false, false] rfl rfl (take_ofW HT_.out HW_.out (by kernel_rfl)) (fun _ _ _ h => h) (Or.inl ⟨by rfl, ?_⟩) hHeld ?_ ?_
                        rotate_left
                        · rintro w' ⟨s0, s1⟩
                          go_simp
                          with_reducible rfl
                        rotate_left
                        · simp only [Act.put, List.setIfInBounds_toArray, List.set_cons_zero, List.set_cons_succ, i64_w, i32_w]
                          rfl
                        refine one_ (i := 2) (N := some 46) #[true, true, true, true, true, false, false, false, false, false, false, false, false, false, false, false, false, false, false, false, false, false, false, false, false, false, false, false, false, false] rfl rfl (one_of HT_.out (by kernel_rfl)) (by decide) (fun K hK => ?_)
                        refine goes_ Try.func15 (by kernel_rfl) rfl #[.agg #[.int .i64 a0_0, .slice A0_1 l0_1.length c0_1], .int .i64 a1] (by rfl) rfl rfl (by (try simp only [List.map_toArray, List.map_cons, List.map_nil]); first | done | rfl | (simp only [List.length_drop, List.length_take]; rfl)) ?_
                        with_reducible refine (again_Own.calls a0_0 _ _ l0_1 a1 t202 _ ?side1 ?side2 A26.out).mono ?_
                        (case side1 => repeat (first | exact (Kd.C_below HR0_1.out HB.out) | (with_reducible refine Kd.C_alloc ?_ _) | (with_reducible refine Kd.C_drewN ?_ _) | (with_reducible refine Kd.C_drew ?_)))
                        (case side2 => exact HC0_1.out)
                        rintro e w42 ⟨rfl, hb⟩
                        refine ⟨_, rfl, ?_⟩
                        have n0_ := Aside0.mk (blk_below (g := gb194) (o := .cells #[.int .i64 a0_0, .slice A0_1 l0_1.length c0_1] 24 (0, 0)) (by (with_reducible repeat (first | refine blk_drewN ?_ _ | refine blk_drew ?_ | refine blk_alloc ?_ _)); exact BK194.out) hb)
                        have n1_ := Aside0.mk (below_step (by repeat (first | (with_reducible first | exact HB.out | apply below_alloc | apply pw_below_drewN | apply below_drew1 | refine below_set ?_ GE194.out) | exact HB.out)) hb)
                        clear BK194
                        clear HB
                        have BK194 := n0_
                        have HB := n1_
                        clear n0_ n1_
                        (try clear hb)
                        (try clear hb2)
                        (try clear hk)
                        (try clear hi)
                        refine hK.out _ _ ⟨(blk_cell BK194.out 0).trans rfl, (blk_cell BK194.out 1).trans rfl⟩ (fun hHeld => ?_)
                        clear hK K
                        refine norm_ (a' := ?_) ?_ ?_
                        rotate_left
                        · show Act.put _ (some 46) _ = _
                          simp only [Act.put, List.setIfInBounds_toArray, List.set_cons_zero, List.set_cons_succ, i64_w, i32_w]
                          rfl
                        refine one_ (i := 5) (N := some 49) #[true, true, true, true, true, true, false, false, false, false, false, false, false, false, false, false, false, false, false, false, false, false, false, false, false, false, false, false, false, false] rfl rfl (one_of HT_.out (by kernel_rfl)) (by decide) (fun K hK => ?_)
                        refine goes_ Try.func20 (by kernel_rfl) rfl #[.agg #[.int .i64 a0_0, .slice A0_1 l0_1.length c0_1], .int .i64 a1] (by rfl) rfl rfl (by (try simp only [List.map_toArray, List.map_cons, List.map_nil]); first | done | rfl | (simp only [List.length_drop, List.length_take]; rfl)) ?_
                        with_reducible refine (taskmasterref8_Own.calls kj16 a0_0 _ _ l0_1 a1 t203 _ ?side1 ?side2 A27.out).mono ?_
                        (case side1 => repeat (first | exact (Kd.C_below HR0_1.out HB.out) | (with_reducible refine Kd.C_alloc ?_ _) | (with_reducible refine Kd.C_drewN ?_ _) | (with_reducible refine Kd.C_drew ?_)))
                        (case side2 => exact HC0_1.out)
                        rintro e w43 ⟨rfl, hb⟩
                        refine ⟨_, rfl, ?_⟩
                        have n0_ := Aside0.mk (blk_below (g := gb194) (o := .cells #[.int .i64 a0_0, .slice A0_1 l0_1.length c0_1] 24 (0, 0)) (by (with_reducible repeat (first | refine blk_drewN ?_ _ | refine blk_drew ?_ | refine blk_alloc ?_ _)); exact BK194.out) hb)
                        have n1_ := Aside0.mk (below_step (by repeat (first | (with_reducible first | exact HB.out | apply below_alloc | apply pw_below_drewN | apply below_drew1 | refine below_set ?_ GE194.out) | exact HB.out)) hb)
                        clear BK194
                        clear HB
                        have BK194 := n0_
                        have HB := n1_
                        clear n0_ n1_
                        (try clear hb)
                        (try clear hb2)
                        (try clear hk)
                        (try clear hi)
                        refine hK.out _ _ ⟨(blk_cell BK194.out 0).trans rfl, (blk_cell BK194.out 1).trans rfl⟩ (fun hHeld => ?_)
                        clear hK K
                        refine norm_ (a' := ?_) ?_ ?_
                        rotate_left
                        · show Act.put _ (some 49) _ = _
                          simp only [Act.put, List.setIfInBounds_toArray, List.set_cons_zero, List.set_cons_succ, i64_w, i32_w]
                          rfl
                        refine pure_ (i := 6) (N := some 50) (v := ?_) (a' := ?_) #[true, true, true, true, true, true, true, false, false, false, false, false, false, false, false, false, false, false, false, false, false, false, false, false, false, false, false, false, false, false] rfl rfl (any_of HT_.out (by kernel_rfl)) (fun _ _ _ h => h) (Or.inl ⟨by rfl, ?_⟩) ?_ ?_
                        rotate_left
                        · intro w'
                          go_simp
                          with_reducible rfl
                        rotate_left
                        · simp only [Act.put, List.setIfInBounds_toArray, List.set_cons_zero, List.set_cons_succ, i64_w, i32_w]
                          rfl
                        refine pure_ (i := 7) (N := some 51) (v := ?_) (a' := ?_) #[true, true, true, true, true, true, true, true, false, false, false, false, false, false, false, false, false, false, false, false, false, false, false, false, false, false, false, false, false, false] rfl rfl (any_of HT_.out (by kernel_rfl)) (fun _ _ _ h => h) (Or.inl ⟨by rfl, ?_⟩) ?_ ?_
                        rotate_left
                        · intro w'
                          go_simp
                          with_reducible rfl
                        rotate_left
                        · simp only [Act.put, List.setIfInBounds_toArray, List.set_cons_zero, List.set_cons_succ, i64_w, i32_w]
                          rfl
                        refine pure_ (i := 9) (N := some 53) (v := ?_) (a' := ?_) #[true, true, true, true, true, true, true, true, false, true, false, false, false, false, false, false, false, false, false, false, false, false, false, false, false, false, false, false, false, false] rfl rfl (any_of HT_.out (by kernel_rfl)) (fun _ _ _ h => h) (Or.inl ⟨by rfl, ?_⟩) ?_ ?_
                        rotate_left
                        · intro w'
                          go_simp
                          with_reducible rfl
                        rotate_left
                        · simp only [Act.put, List.setIfInBounds_toArray, List.set_cons_zero, List.set_cons_succ, i64_w, i32_w]
                          rfl
                        refine pure_ (i := 12) (N := some 56) (v := ?_) (a' := ?_) #[true, true, true, true, true, true, true, true, false, true, false, false, true, false, false, false, false, false, false, false, false, false, false, false, false, false, false, false, false, false] rfl rfl (any_of HT_.out (by kernel_rfl)) (fun _ _ _ h => h) (Or.inl ⟨by rfl, ?_⟩) ?_ ?_
                        rotate_left
                        · intro w'
                          go_simp
                          with_reducible rfl
                        rotate_left
                        · simp only [Act.put, List.setIfInBounds_toArray, List.set_cons_zero, List.set_cons_succ, i64_w, i32_w]
                          rfl
                        refine take_ (i := 8) (N := some 52) (v := ?_) (a' := ?_) #[true, true, true, true, true, true, true, true, true, true, false, false, true, false, false, false, false, false, false, false, false, false, false, false, false, false, false, false, false, false] rfl rfl (take_ofW HT_.out HW_.out (by kernel_rfl)) (fun _ _ _ h => h) (Or.inl ⟨by rfl, ?_⟩) hHeld ?_ ?_
                        rotate_left
                        · rintro w' ⟨s0, s1⟩
                          go_simp
                          with_reducible rfl
                        rotate_left
                        · simp only [Act.put, List.setIfInBounds_toArray, List.set_cons_zero, List.set_cons_succ, i64_w, i32_w]
                          rfl
                        refine take_ (i := 11) (N := some 55) (v := ?_) (a' := ?_) #[true, true, true, true, true, true, true, true, true, true, false, true, true, false, false, false, false, false, false, false, false, false, false, false, false, false, false, false, false, false] rfl rfl (take_ofW HT_.out HW_.out (by kernel_rfl)) (fun _ _ _ h => h) (Or.inl ⟨by rfl, ?_⟩) hHeld ?_ ?_
                        rotate_left
                        · rintro w' ⟨s0, s1⟩
                          go_simp
                          with_reducible rfl
                        rotate_left
                        · simp only [Act.put, List.setIfInBounds_toArray, List.set_cons_zero, List.set_cons_succ, i64_w, i32_w]
                          rfl
                        refine one_ (i := 10) (N := some 54) #[true, true, true, true, true, true, true, true, true, true, true, true, true, false, false, false, false, false, false, false, false, false, false, false, false, false, false, false, false, false] rfl rfl (one_of HT_.out (by kernel_rfl)) (by decide) (fun K hK => ?_)
                        refine goes_ Try.func11 (by kernel_rfl) rfl #[.agg #[.int .i64 a0_0, .slice A0_1 l0_1.length c0_1], .int .i64 a1] (by rfl) rfl rfl (by (try simp only [List.map_toArray, List.map_cons, List.map_nil]); first | done | rfl | (simp only [List.length_drop, List.length_take]; rfl)) ?_
                        with_reducible refine (again_Made.calls kj16 a0_0 _ _ l0_1 a1 t204 _ ?side1 ?side2 A29.out).mono ?_
                        (case side1 => repeat (first | exact (Kd.C_below HR0_1.out HB.out) | (with_reducible refine Kd.C_alloc ?_ _) | (with_reducible refine Kd.C_drewN ?_ _) | (with_reducible refine Kd.C_drew ?_)))
                        (case side2 => exact HC0_1.out)
                        rintro e w44 ⟨rfl, hb⟩
                        refine ⟨_, rfl, ?_⟩
                        have n0_ := Aside0.mk (blk_below (g := gb194) (o := .cells #[.int .i64 a0_0, .slice A0_1 l0_1.length c0_1] 24 (0, 0)) (by (with_reducible repeat (first | refine blk_drewN ?_ _ | refine blk_drew ?_ | refine blk_alloc ?_ _)); exact BK194.out) hb)
                        have n1_ := Aside0.mk (below_step (by repeat (first | (with_reducible first | exact HB.out | apply below_alloc | apply pw_below_drewN | apply below_drew1 | refine below_set ?_ GE194.out) | exact HB.out)) hb)
                        clear BK194
                        clear HB
                        have BK194 := n0_
                        have HB := n1_
                        clear n0_ n1_
                        (try clear hb)
                        (try clear hb2)
                        (try clear hk)
                        (try clear hi)
                        refine hK.out _ _ ⟨(blk_cell BK194.out 0).trans rfl, (blk_cell BK194.out 1).trans rfl⟩ (fun hHeld => ?_)
                        clear hK K
                        refine norm_ (a' := ?_) ?_ ?_
                        rotate_left
                        · show Act.put _ (some 54) _ = _
                          simp only [Act.put, List.setIfInBounds_toArray, List.set_cons_zero, List.set_cons_succ, i64_w, i32_w]
                          rfl
                        refine one_ (i := 13) (N := some 57) #[true, true, true, true, true, true, true, true, true, true, true, true, true, true, false, false, false, false, false, false, false, false, false, false, false, false, false, false, false, false] rfl rfl (one_of HT_.out (by kernel_rfl)) (by decide) (fun K hK => ?_)
                        refine goes_ Try.func19 (by kernel_rfl) rfl #[.agg #[.int .i64 a0_0, .slice A0_1 l0_1.length c0_1], .int .i64 a1] (by rfl) rfl rfl (by (try simp only [List.map_toArray, List.map_cons, List.map_nil]); first | done | rfl | (simp only [List.length_drop, List.length_take]; rfl)) ?_
                        with_reducible refine (taskmasterref8_Made.calls kj16 a0_0 _ _ l0_1 a1 t205 _ ?side1 ?side2 A30.out).mono ?_
                        (case side1 => repeat (first | exact (Kd.C_below HR0_1.out HB.out) | (with_reducible refine Kd.C_alloc ?_ _) | (with_reducible refine Kd.C_drewN ?_ _) | (with_reducible refine Kd.C_drew ?_)))
                        (case side2 => exact HC0_1.out)
                        rintro e w45 ⟨rfl, hb⟩
                        refine ⟨_, rfl, ?_⟩
                        have n0_ := Aside0.mk (blk_below (g := gb194) (o := .cells #[.int .i64 a0_0, .slice A0_1 l0_1.length c0_1] 24 (0, 0)) (by (with_reducible repeat (first | refine blk_drewN ?_ _ | refine blk_drew ?_ | refine blk_alloc ?_ _)); exact BK194.out) hb)
                        have n1_ := Aside0.mk (below_step (by repeat (first | (with_reducible first | exact HB.out | apply below_alloc | apply pw_below_drewN | apply below_drew1 | refine below_set ?_ GE194.out) | exact HB.out)) hb)
                        clear BK194
                        clear HB
                        have BK194 := n0_
                        have HB := n1_
                        clear n0_ n1_
                        (try clear hb)
                        (try clear hb2)
                        (try clear hk)
                        (try clear hi)
                        refine hK.out _ _ ⟨(blk_cell BK194.out 0).trans rfl, (blk_cell BK194.out 1).trans rfl⟩ (fun hHeld => ?_)
                        clear hK K
                        refine norm_ (a' := ?_) ?_ ?_
                        rotate_left
                        · show Act.put _ (some 57) _ = _
                          simp only [Act.put, List.setIfInBounds_toArray, List.set_cons_zero, List.set_cons_succ, i64_w, i32_w]
                          rfl
                        refine pure_ (i := 14) (N := some 58) (v := ?_) (a' := ?_) #[true, true, true, true, true, true, true, true, true, true, true, true, true, true, true, false, false, false, false, false, false, false, false, false, false, false, false, false, false, false] rfl rfl (any_of HT_.out (by kernel_rfl)) (fun _ _ _ h => h) (Or.inl ⟨by rfl, ?_⟩) ?_ ?_
                        rotate_left
                        · intro w'
                          go_simp
                          with_reducible rfl
                        rotate_left
                        · simp only [Act.put, List.setIfInBounds_toArray, List.set_cons_zero, List.set_cons_succ, i64_w, i32_w]
                          rfl
                        refine pure_ (i := 15) (N := some 59) (v := ?_) (a' := ?_) #[true, true, true, true, true, true, true, true, true, true, true, true, true, true, true, true, false, false, false, false, false, false, false, false, false, false, false, false, false, false] rfl rfl (any_of HT_.out (by kernel_rfl)) (fun _ _ _ h => h) (Or.inl ⟨by rfl, ?_⟩) ?_ ?_
                        rotate_left
                        · intro w'
                          go_simp
                          with_reducible rfl
                        rotate_left
                        · simp only [Act.put, List.setIfInBounds_toArray, List.set_cons_zero, List.set_cons_succ, i64_w, i32_w]
                          rfl
                        refine pure_ (i := 16) (N := some 60) (v := ?_) (a' := ?_) #[true, true, true, true, true, true, true, true, true, true, true, true, true, true, true, true, true, false, false, false, false, false, false, false, false, false, false, false, false, false] rfl rfl (any_of HT_.out (by kernel_rfl)) (fun _ _ _ h => h) (Or.inl ⟨by rfl, ?_⟩) ?_ ?_
                        rotate_left
                        · intro w'
                          go_simp
                          with_reducible rfl
                        rotate_left
                        · simp only [Act.put, List.setIfInBounds_toArray, List.set_cons_zero, List.set_cons_succ, i64_w, i32_w]
                          rfl
                        refine pure_ (i := 17) (N := some 61) (v := ?_) (a' := ?_) #[true, true, true, true, true, true, true, true, true, true, true, true, true, true, true, true, true, true, false, false, false, false, false, false, false, false, false, false, false, false] rfl rfl (any_of HT_.out (by kernel_rfl)) (fun _ _ _ h => h) (Or.inl ⟨by rfl, ?_⟩) ?_ ?_
                        rotate_left
                        · intro w'
                          go_simp
                          with_reducible rfl
                        rotate_left
                        · simp only [Act.put, List.setIfInBounds_toArray, List.set_cons_zero, List.set_cons_succ, i64_w, i32_w]
                          rfl
                        refine pure_ (i := 18) (N := some 62) (v := ?_) (a' := ?_) #[true, true, true, true, true, true, true, true, true, true, true, true, true, true, true, true, true, true, true, false, false, false, false, false, false, false, false, false, false, false] rfl rfl (any_of HT_.out (by kernel_rfl)) (fun _ _ _ h => h) (Or.inl ⟨by rfl, ?_⟩) ?_ ?_
                        rotate_left
                        · intro w'
                          go_simp
                          with_reducible rfl
                        rotate_left
                        · simp only [Act.put, List.setIfInBounds_toArray, List.set_cons_zero, List.set_cons_succ, i64_w, i32_w]
                          rfl
                        refine pure_ (i := 19) (N := some 63) (v := ?_) (a' := ?_) #[true, true, true, true, true, true, true, true, true, true, true, true, true, true, true, true, true, true, true, true, false, false, false, false, false, false, false, false, false, false] rfl rfl (any_of HT_.out (by kernel_rfl)) (fun _ _ _ h => h) (Or.inl ⟨by rfl, ?_⟩) ?_ ?_
                        rotate_left
                        · intro w'
                          go_simp
                          with_reducible rfl
                        rotate_left
                        · simp only [Act.put, List.setIfInBounds_toArray, List.set_cons_zero, List.set_cons_succ, i64_w, i32_w]
                          rfl
                        refine pure_ (i := 20) (N := some 64) (v := ?_) (a' := ?_) #[true, true, true, true, true, true, true, true, true, true, true, true, true, true, true, true, true, true, true, true, true, false, false, false, false, false, false, false, false, false] rfl rfl (any_of HT_.out (by kernel_rfl)) (fun _ _ _ h => h) (Or.inl ⟨by rfl, ?_⟩) ?_ ?_
                        rotate_left
                        · intro w'
                          go_simp
                          with_reducible rfl
                        rotate_left
                        · simp only [Act.put, List.setIfInBounds_toArray, List.set_cons_zero, List.set_cons_succ, i64_w, i32_w]
                          rfl
                        refine pure_ (i := 21) (N := some 65) (v := ?_) (a' := ?_) #[true, true, true, true, true, true, true, true, true, true, true, true, true, true, true, true, true, true, true, true, true, true, false, false, false, false, false, false, false, false] rfl rfl (any_of HT_.out (by kernel_rfl)) (fun _ _ _ h => h) (Or.inl ⟨by rfl, ?_⟩) ?_ ?_
                        rotate_left
                        · intro w'
                          go_simp
                          with_reducible rfl
                        rotate_left
                        · simp only [Act.put, List.setIfInBounds_toArray, List.set_cons_zero, List.set_cons_succ, i64_w, i32_w]
                          rfl
                        refine pure_ (i := 22) (N := some 66) (v := ?_) (a' := ?_) #[true, true, true, true, true, true, true, true, true, true, true, true, true, true, true, true, true, true, true, true, true, true, true, false, false, false, false, false, false, false] rfl rfl (any_of HT_.out (by kernel_rfl)) (fun _ _ _ h => h) (Or.inl ⟨by rfl, ?_⟩) ?_ ?_
                        rotate_left
                        · intro w'
                          go_simp
                          with_reducible rfl
                        rotate_left
                        · simp only [Act.put, List.setIfInBounds_toArray, List.set_cons_zero, List.set_cons_succ, i64_w, i32_w]
                          rfl
                        refine pure_ (i := 23) (N := some 67) (v := ?_) (a' := ?_) #[true, true, true, true, true, true, true, true, true, true, true, true, true, true, true, true, true, true, true, true, true, true, true, true, false, false, false, false, false, false] rfl rfl (any_of HT_.out (by kernel_rfl)) (fun _ _ _ h => h) (Or.inl ⟨by rfl, ?_⟩) ?_ ?_
                        rotate_left
                        · intro w'
                          go_simp
                          with_reducible rfl
                        rotate_left
                        · simp only [Act.put, List.setIfInBounds_toArray, List.set_cons_zero, List.set_cons_succ, i64_w, i32_w]
                          rfl
                        refine pure_ (i := 24) (N := some 68) (v := ?_) (a' := ?_) #[true, true, true, true, true, true, true, true, true, true, true, true, true, true, true, true, true, true, true, true, true, true, true, true, true, false, false, false, false, false] rfl rfl (any_of HT_.out (by kernel_rfl)) (fun _ _ _ h => h) (Or.inl ⟨by rfl, ?_⟩) ?_ ?_
                        rotate_left
                        · intro w'
                          go_simp
                          with_reducible rfl
                        rotate_left
                        · simp only [Act.put, List.setIfInBounds_toArray, List.set_cons_zero, List.set_cons_succ, i64_w, i32_w]
                          rfl
                        refine pure_ (i := 25) (N := some 69) (v := ?_) (a' := ?_) #[true, true, true, true, true, true, true, true, true, true, true, true, true, true, true, true, true, true, true, true, true, true, true, true, true, true, false, false, false, false] rfl rfl (any_of HT_.out (by kernel_rfl)) (fun _ _ _ h => h) (Or.inl ⟨by rfl, ?_⟩) ?_ ?_
                        rotate_left
                        · intro w'
                          go_simp
                          with_reducible rfl
                        rotate_left
                        · simp only [Act.put, List.setIfInBounds_toArray, List.set_cons_zero, List.set_cons_succ, i64_w, i32_w]
                          rfl
                        refine pure_ (i := 26) (N := some 70) (v := ?_) (a' := ?_) #[true, true, true, true, true, true, true, true, true, true, true, true, true, true, true, true, true, true, true, true, true, true, true, true, true, true, true, false, false, false] rfl rfl (any_of HT_.out (by kernel_rfl)) (fun _ _ _ h => h) (Or.inl ⟨by rfl, ?_⟩) ?_ ?_
                        rotate_left
                        · intro w'
                          go_simp
                          with_reducible rfl
                        rotate_left
                        · simp only [Act.put, List.setIfInBounds_toArray, List.set_cons_zero, List.set_cons_succ, i64_w, i32_w]
                          rfl
                        refine pure_ (i := 27) (N := some 71) (v := undef) (a' := ?_) #[true, true, true, true, true, true, true, true, true, true, true, true, true, true, true, true, true, true, true, true, true, true, true, true, true, true, true, true, false, false] rfl rfl (any_of HT_.out (by kernel_rfl)) (fun _ _ _ h => h) (Or.inr ⟨by rfl, rfl⟩) ?_ ?_
                        rotate_left
                        · simp only [Act.put, List.setIfInBounds_toArray, List.set_cons_zero, List.set_cons_succ, i64_w, i32_w]
                          rfl
                        refine pure_ (i := 28) (N := some 72) (v := ?_) (a' := ?_) #[true, true, true, true, true, true, true, true, true, true, true, true, true, true, true, true, true, true, true, true, true, true, true, true, true, true, true, true, true, false] rfl rfl (any_of HT_.out (by kernel_rfl)) (fun _ _ _ h => h) (Or.inl ⟨by rfl, ?_⟩) ?_ ?_
                        rotate_left
                        · intro w'
                          go_simp
                          with_reducible rfl
                        rotate_left
                        · simp only [Act.put, List.setIfInBounds_toArray, List.set_cons_zero, List.set_cons_succ, i64_w, i32_w]
                          rfl
                        refine pure_ (i := 29) (N := some 4) (v := ?_) (a' := ?_) #[true, true, true, true, true, true, true, true, true, true, true, true, true, true, true, true, true, true, true, true, true, true, true, true, true, true, true, true, true, true] rfl rfl (any_of HT_.out (by kernel_rfl)) (fun _ _ _ h => h) (Or.inl ⟨by rfl, ?_⟩) ?_ ?_
                        rotate_left
                        · intro w'
                          go_simp
                          with_reducible rfl
                        rotate_left
                        · simp only [Act.put, List.setIfInBounds_toArray, List.set_cons_zero, List.set_cons_succ, i64_w, i32_w]
                          rfl
                        refine done_ (done_of HT_.out (by kernel_rfl)) ?_
                        try go_wp2
                        go_ret
                        exact ⟨by first | rfl | (simp [errW_none, errW_some] <;> rfl) | (simp [*, errW_none, errW_some] <;> rfl), by repeat (first | (with_reducible first | exact HB.out | apply below_alloc | apply pw_below_drewN | apply below_drew1 | refine below_set ?_ GE194.out) | exact HB.out)⟩
                    · rw [if_neg c32] at H
                      have c32b0 : ((FloatKind.f64.format.order t196.1 x8_16.1 == some .eq) && (FloatKind.f64.format.order t196.2 x8_16.2 == some .eq)) = false := by simpa using c32
                      clear c32
                      obtain rfl := Option.some.inj H
                      try go_wp2
                      have n0_ := Aside0.mk (blk_drew BK194.out)
                      have n1_ := Aside0.mk (below_drew1 HB.out)
                      clear BK194
                      clear HB
                      have BK194 := n0_
                      have HB := n1_
                      clear n0_ n1_
                      refine start_ (n := 30) (S := fun w' => w'.cell? ⟨gb194, 0, none⟩ = some (.int .i64 a0_0) ∧ w'.cell? ⟨gb194, 1, none⟩ = some (.slice A0_1 l0_1.length c0_1)) (ds := []) #[false, false, false, false, false, false, false, false, false, false, false, false, false, false, false, false, false, false, false, false, false, false, false, false, false, false, false, false, false, false] (by kernel_rfl) rfl rfl ⟨(blk_cell BK194.out 0).trans rfl, (blk_cell BK194.out 1).trans rfl⟩ (fun hHeld => ?_); refine with_tabW taskmasterlaw8_AgainTells.tab8 taskmasterlaw8_AgainTells.bits8 (fun HT_ HW_ => ?_)
                      generalize wc.drew = w46 at BK194 HB hHeld ⊢
                      refine pure_ (i := 1) (N := some 45) (v := ?_) (a' := ?_) #[false, true, false, false, false, false, false, false, false, false, false, false, false, false, false, false, false, false, false, false, false, false, false, false, false, false, false, false, false, false] rfl rfl (any_of HT_.out (by kernel_rfl)) (fun _ _ _ h => h) (Or.inl ⟨by rfl, ?_⟩) ?_ ?_
                      rotate_left
                      · intro w'
                        go_simp
                        with_reducible rfl
                      rotate_left
                      · simp only [Act.put, List.setIfInBounds_toArray, List.set_cons_zero, List.set_cons_succ, i64_w, i32_w]
                        rfl
                      refine pure_ (i := 4) (N := some 48) (v := ?_) (a' := ?_) #[false, true, false, false, true, false, false, false, false, false, false, false, false, false, false, false, false, false, false, false, false, false, false, false, false, false, false, false, false, false] rfl rfl (any_of HT_.out (by kernel_rfl)) (fun _ _ _ h => h) (Or.inl ⟨by rfl, ?_⟩) ?_ ?_
                      rotate_left
                      · intro w'
                        go_simp
                        with_reducible rfl
                      rotate_left
                      · simp only [Act.put, List.setIfInBounds_toArray, List.set_cons_zero, List.set_cons_succ, i64_w, i32_w]
                        rfl
                      refine take_ (i := 0) (N := some 44) (v := ?_) (a' := ?_) #[true, true, false, false, true, false, false, false, false, false, false, false, false, false, false, false, false, false, false, false, false, false, false, false, false, false, false, false, false, false] rfl rfl (take_ofW HT_.out HW_.out (by kernel_rfl)) (fun _ _ _ h => h) (Or.inl ⟨by rfl, ?_⟩) hHeld ?_ ?_
                      rotate_left
                      · rintro w' ⟨s0, s1⟩
                        go_simp
                        with_reducible rfl
                      rotate_left
                      · simp only [Act.put, List.setIfInBounds_toArray, List.set_cons_zero, List.set_cons_succ, i64_w, i32_w]
                        rfl
                      refine take_ (i := 3) (N := some 47) (v := ?_) (a' := ?_) #[true, true, false, true, true, false, false, false, false, false, false, false, false, false, false, false, false, false, false, false, false, false, false, false, false, false, false, false, false, false] rfl rfl (take_ofW HT_.out HW_.out (by kernel_rfl)) (fun _ _ _ h => h) (Or.inl ⟨by rfl, ?_⟩) hHeld ?_ ?_
                      rotate_left
                      · rintro w' ⟨s0, s1⟩
                        go_simp
                        with_reducible rfl
                      rotate_left
                      · simp only [Act.put, List.setIfInBounds_toArray, List.set_cons_zero, List.set_cons_succ, i64_w, i32_w]
                        rfl
                      refine one_ (i := 2) (N := some 46) #[true, true, true, true, true, false, false, false, false, false, false, false, false, false, false, false, false, false, false, false, false, false, false, false, false, false, false, false, false, false] rfl rfl (one_of HT_.out (by kernel_rfl)) (by decide) (fun K hK => ?_)
                      refine goes_ Try.func15 (by kernel_rfl) rfl #[.agg #[.int .i64 a0_0, .slice A0_1 l0_1.length c0_1], .int .i64 a1] (by rfl) rfl rfl (by (try simp only [List.map_toArray, List.map_cons, List.map_nil]); first | done | rfl | (simp only [List.length_drop, List.length_take]; rfl)) ?_
                      with_reducible refine (again_Own.calls a0_0 _ _ l0_1 a1 t202 _ ?side1 ?side2 A26.out).mono ?_
                      (case side1 => repeat (first | exact (Kd.C_below HR0_1.out HB.out) | (with_reducible refine Kd.C_alloc ?_ _) | (with_reducible refine Kd.C_drewN ?_ _) | (with_reducible refine Kd.C_drew ?_)))
                      (case side2 => exact HC0_1.out)
                      rintro e w47 ⟨rfl, hb⟩
                      refine ⟨_, rfl, ?_⟩
                      have n0_ := Aside0.mk (blk_below (g := gb194) (o := .cells #[.int .i64 a0_0, .slice A0_1 l0_1.length c0_1] 24 (0, 0)) (by (with_reducible repeat (first | refine blk_drewN ?_ _ | refine blk_drew ?_ | refine blk_alloc ?_ _)); exact BK194.out) hb)
                      have n1_ := Aside0.mk (below_step (by repeat (first | (with_reducible first | exact HB.out | apply below_alloc | apply pw_below_drewN | apply below_drew1 | refine below_set ?_ GE194.out) | exact HB.out)) hb)
                      clear BK194
                      clear HB
                      have BK194 := n0_
                      have HB := n1_
                      clear n0_ n1_
                      (try clear hb)
                      (try clear hb2)
                      (try clear hk)
                      (try clear hi)
                      refine hK.out _ _ ⟨(blk_cell BK194.out 0).trans rfl, (blk_cell BK194.out 1).trans rfl⟩ (fun hHeld => ?_)
                      clear hK K
                      refine norm_ (a' := ?_) ?_ ?_
                      rotate_left
                      · show Act.put _ (some 46) _ = _
                        simp only [Act.put, List.setIfInBounds_toArray, List.set_cons_zero, List.set_cons_succ, i64_w, i32_w]
                        rfl
                      refine one_ (i := 5) (N := some 49) #[true, true, true, true, true, true, false, false, false, false, false, false, false, false, false, false, false, false, false, false, false, false, false, false, false, false, false, false, false, false] rfl rfl (one_of HT_.out (by kernel_rfl)) (by decide) (fun K hK => ?_)
                      refine goes_ Try.func20 (by kernel_rfl) rfl #[.agg #[.int .i64 a0_0, .slice A0_1 l0_1.length c0_1], .int .i64 a1] (by rfl) rfl rfl (by (try simp only [List.map_toArray, List.map_cons, List.map_nil]); first | done | rfl | (simp only [List.length_drop, List.length_take]; rfl)) ?_
                      with_reducible refine (taskmasterref8_Own.calls kj16 a0_0 _ _ l0_1 a1 t203 _ ?side1 ?side2 A27.out).mono ?_
                      (case side1 => repeat (first | exact (Kd.C_below HR0_1.out HB.out) | (with_reducible refine Kd.C_alloc ?_ _) | (with_reducible refine Kd.C_drewN ?_ _) | (with_reducible refine Kd.C_drew ?_)))
                      (case side2 => exact HC0_1.out)
                      rintro e w48 ⟨rfl, hb⟩
                      refine ⟨_, rfl, ?_⟩
                      have n0_ := Aside0.mk (blk_below (g := gb194) (o := .cells #[.int .i64 a0_0, .slice A0_1 l0_1.length c0_1] 24 (0, 0)) (by (with_reducible repeat (first | refine blk_drewN ?_ _ | refine blk_drew ?_ | refine blk_alloc ?_ _)); exact BK194.out) hb)
                      have n1_ := Aside0.mk (below_step (by repeat (first | (with_reducible first | exact HB.out | apply below_alloc | apply pw_below_drewN | apply below_drew1 | refine below_set ?_ GE194.out) | exact HB.out)) hb)
                      clear BK194
                      clear HB
                      have BK194 := n0_
                      have HB := n1_
                      clear n0_ n1_
                      (try clear hb)
                      (try clear hb2)
                      (try clear hk)
                      (try clear hi)
                      refine hK.out _ _ ⟨(blk_cell BK194.out 0).trans rfl, (blk_cell BK194.out 1).trans rfl⟩ (fun hHeld => ?_)
                      clear hK K
                      refine norm_ (a' := ?_) ?_ ?_
                      rotate_left
                      · show Act.put _ (some 49) _ = _
                        simp only [Act.put, List.setIfInBounds_toArray, List.set_cons_zero, List.set_cons_succ, i64_w, i32_w]
                        rfl
                      refine pure_ (i := 6) (N := some 50) (v := ?_) (a' := ?_) #[true, true, true, true, true, true, true, false, false, false, false, false, false, false, false, false, false, false, false, false, false, false, false, false, false, false, false, false, false, false] rfl rfl (any_of HT_.out (by kernel_rfl)) (fun _ _ _ h => h) (Or.inl ⟨by rfl, ?_⟩) ?_ ?_
                      rotate_left
                      · intro w'
                        go_simp
                        with_reducible rfl
                      rotate_left
                      · simp only [Act.put, List.setIfInBounds_toArray, List.set_cons_zero, List.set_cons_succ, i64_w, i32_w]
                        rfl
                      refine pure_ (i := 7) (N := some 51) (v := ?_) (a' := ?_) #[true, true, true, true, true, true, true, true, false, false, false, false, false, false, false, false, false, false, false, false, false, false, false, false, false, false, false, false, false, false] rfl rfl (any_of HT_.out (by kernel_rfl)) (fun _ _ _ h => h) (Or.inl ⟨by rfl, ?_⟩) ?_ ?_
                      rotate_left
                      · intro w'
                        go_simp
                        with_reducible rfl
                      rotate_left
                      · simp only [Act.put, List.setIfInBounds_toArray, List.set_cons_zero, List.set_cons_succ, i64_w, i32_w]
                        rfl
                      refine pure_ (i := 9) (N := some 53) (v := ?_) (a' := ?_) #[true, true, true, true, true, true, true, true, false, true, false, false, false, false, false, false, false, false, false, false, false, false, false, false, false, false, false, false, false, false] rfl rfl (any_of HT_.out (by kernel_rfl)) (fun _ _ _ h => h) (Or.inl ⟨by rfl, ?_⟩) ?_ ?_
                      rotate_left
                      · intro w'
                        go_simp
                        with_reducible rfl
                      rotate_left
                      · simp only [Act.put, List.setIfInBounds_toArray, List.set_cons_zero, List.set_cons_succ, i64_w, i32_w]
                        rfl
                      refine pure_ (i := 12) (N := some 56) (v := ?_) (a' := ?_) #[true, true, true, true, true, true, true, true, false, true, false, false, true, false, false, false, false, false, false, false, false, false, false, false, false, false, false, false, false, false] rfl rfl (any_of HT_.out (by kernel_rfl)) (fun _ _ _ h => h) (Or.inl ⟨by rfl, ?_⟩) ?_ ?_
                      rotate_left
                      · intro w'
                        go_simp
                        with_reducible rfl
                      rotate_left
                      · simp only [Act.put, List.setIfInBounds_toArray, List.set_cons_zero, List.set_cons_succ, i64_w, i32_w]
                        rfl
                      refine take_ (i := 8) (N := some 52) (v := ?_) (a' := ?_) #[true, true, true, true, true, true, true, true, true, true, false, false, true, false, false, false, false, false, false, false, false, false, false, false, false, false, false, false, false, false] rfl rfl (take_ofW HT_.out HW_.out (by kernel_rfl)) (fun _ _ _ h => h) (Or.inl ⟨by rfl, ?_⟩) hHeld ?_ ?_
                      rotate_left
                      · rintro w' ⟨s0, s1⟩
                        go_simp
                        with_reducible rfl
                      rotate_left
                      · simp only [Act.put, List.setIfInBounds_toArray, List.set_cons_zero, List.set_cons_succ, i64_w, i32_w]
                        rfl
                      refine take_ (i := 11) (N := some 55) (v := ?_) (a' := ?_) #[true, true, true, true, true, true, true, true, true, true, false, true, true, false, false, false, false, false, false, false, false, false, false, false, false, false, false, false, false, false] rfl rfl (take_ofW HT_.out HW_.out (by kernel_rfl)) (fun _ _ _ h => h) (Or.inl ⟨by rfl, ?_⟩) hHeld ?_ ?_
                      rotate_left
                      · rintro w' ⟨s0, s1⟩
                        go_simp
                        with_reducible rfl
                      rotate_left
                      · simp only [Act.put, List.setIfInBounds_toArray, List.set_cons_zero, List.set_cons_succ, i64_w, i32_w]
                        rfl
                      refine one_ (i := 10) (N := some 54) #[true, true, true, true, true, true, true, true, true, true, true, true, true, false, false, false, false, false, false, false, false, false, false, false, false, false, false, false, false, false] rfl rfl (one_of HT_.out (by kernel_rfl)) (by decide) (fun K hK => ?_)
                      refine goes_ Try.func11 (by kernel_rfl) rfl #[.agg #[.int .i64 a0_0, .slice A0_1 l0_1.length c0_1], .int .i64 a1] (by rfl) rfl rfl (by (try simp only [List.map_toArray, List.map_cons, List.map_nil]); first | done | rfl | (simp only [List.length_drop, List.length_take]; rfl)) ?_
                      with_reducible refine (again_Made.calls kj16 a0_0 _ _ l0_1 a1 t204 _ ?side1 ?side2 A29.out).mono ?_
                      (case side1 => repeat (first | exact (Kd.C_below HR0_1.out HB.out) | (with_reducible refine Kd.C_alloc ?_ _) | (with_reducible refine Kd.C_drewN ?_ _) | (with_reducible refine Kd.C_drew ?_)))
                      (case side2 => exact HC0_1.out)
                      rintro e w49 ⟨rfl, hb⟩
                      refine ⟨_, rfl, ?_⟩
                      have n0_ := Aside0.mk (blk_below (g := gb194) (o := .cells #[.int .i64 a0_0, .slice A0_1 l0_1.length c0_1] 24 (0, 0)) (by (with_reducible repeat (first | refine blk_drewN ?_ _ | refine blk_drew ?_ | refine blk_alloc ?_ _)); exact BK194.out) hb)
                      have n1_ := Aside0.mk (below_step (by repeat (first | (with_reducible first | exact HB.out | apply below_alloc | apply pw_below_drewN | apply below_drew1 | refine below_set ?_ GE194.out) | exact HB.out)) hb)
                      clear BK194
                      clear HB
                      have BK194 := n0_
                      have HB := n1_
                      clear n0_ n1_
                      (try clear hb)
                      (try clear hb2)
                      (try clear hk)
                      (try clear hi)
                      refine hK.out _ _ ⟨(blk_cell BK194.out 0).trans rfl, (blk_cell BK194.out 1).trans rfl⟩ (fun hHeld => ?_)
                      clear hK K
                      refine norm_ (a' := ?_) ?_ ?_
                      rotate_left
                      · show Act.put _ (some 54) _ = _
                        simp only [Act.put, List.setIfInBounds_toArray, List.set_cons_zero, List.set_cons_succ, i64_w, i32_w]
                        rfl
                      refine one_ (i := 13) (N := some 57) #[true, true, true, true, true, true, true, true, true, true, true, true, true, true, false, false, false, false, false, false, false, false, false, false, false, false, false, false, false, false] rfl rfl (one_of HT_.out (by kernel_rfl)) (by decide) (fun K hK => ?_)
                      refine goes_ Try.func19 (by kernel_rfl) rfl #[.agg #[.int .i64 a0_0, .slice A0_1 l0_1.length c0_1], .int .i64 a1] (by rfl) rfl rfl (by (try simp only [List.map_toArray, List.map_cons, List.map_nil]); first | done | rfl | (simp only [List.length_drop, List.length_take]; rfl)) ?_
                      with_reducible refine (taskmasterref8_Made.calls kj16 a0_0 _ _ l0_1 a1 t205 _ ?side1 ?side2 A30.out).mono ?_
                      (case side1 => repeat (first | exact (Kd.C_below HR0_1.out HB.out) | (with_reducible refine Kd.C_alloc ?_ _) | (with_reducible refine Kd.C_drewN ?_ _) | (with_reducible refine Kd.C_drew ?_)))
                      (case side2 => exact HC0_1.out)
                      rintro e w50 ⟨rfl, hb⟩
                      refine ⟨_, rfl, ?_⟩
                      have n0_ := Aside0.mk (blk_below (g := gb194) (o := .cells #[.int .i64 a0_0, .slice A0_1 l0_1.length c0_1] 24 (0, 0)) (by (with_reducible repeat (first | refine blk_drewN ?_ _ | refine blk_drew ?_ | refine blk_alloc ?_ _)); exact BK194.out) hb)
                      have n1_ := Aside0.mk (below_step (by repeat (first | (with_reducible first | exact HB.out | apply below_alloc | apply pw_below_drewN | apply below_drew1 | refine below_set ?_ GE194.out) | exact HB.out)) hb)
                      clear BK194
                      clear HB
                      have BK194 := n0_
                      have HB := n1_
                      clear n0_ n1_
                      (try clear hb)
                      (try clear hb2)
                      (try clear hk)
                      (try clear hi)
                      refine hK.out _ _ ⟨(blk_cell BK194.out 0).trans rfl, (blk_cell BK194.out 1).trans rfl⟩ (fun hHeld => ?_)
                      clear hK K
                      refine norm_ (a' := ?_) ?_ ?_
                      rotate_left
                      · show Act.put _ (some 57) _ = _
                        simp only [Act.put, List.setIfInBounds_toArray, List.set_cons_zero, List.set_cons_succ, i64_w, i32_w]
                        rfl
                      refine pure_ (i := 14) (N := some 58) (v := ?_) (a' := ?_) #[true, true, true, true, true, true, true, true, true, true, true, true, true, true, true, false, false, false, false, false, false, false, false, false, false, false, false, false, false, false] rfl rfl (any_of HT_.out (by kernel_rfl)) (fun _ _ _ h => h) (Or.inl ⟨by rfl, ?_⟩) ?_ ?_
                      rotate_left
                      · intro w'
                        go_simp
                        with_reducible rfl
                      rotate_left
                      · simp only [Act.put, List.setIfInBounds_toArray, List.set_cons_zero, List.set_cons_succ, i64_w, i32_w]
                        rfl
                      refine pure_ (i := 15) (N := some 59) (v := ?_) (a' := ?_) #[true, true, true, true, true, true, true, true, true, true, true, true, true, true, true, true, false, false, false, false, false, false, false, false, false, false, false, false, false, false] rfl rfl (any_of HT_.out (by kernel_rfl)) (fun _ _ _ h => h) (Or.inl ⟨by rfl, ?_⟩) ?_ ?_
                      rotate_left
                      · intro w'
                        go_simp
                        with_reducible rfl
                      rotate_left
                      · simp only [Act.put, List.setIfInBounds_toArray, List.set_cons_zero, List.set_cons_succ, i64_w, i32_w]
                        rfl
                      refine pure_ (i := 16) (N := some 60) (v := ?_) (a' := ?_) #[true, true, true, true, true, true, true, true, true, true, true, true, true, true, true, true, true, false, false, false, false, false, false, false, false, false, false, false, false, false] rfl rfl (any_of HT_.out (by kernel_rfl)) (fun _ _ _ h => h) (Or.inl ⟨by rfl, ?_⟩) ?_ ?_
                      rotate_left
                      · intro w'
                        go_simp
                        with_reducible rfl
                      rotate_left
                      · simp only [Act.put, List.setIfInBounds_toArray, List.set_cons_zero, List.set_cons_succ, i64_w, i32_w]
                        rfl
                      refine pure_ (i := 17) (N := some 61) (v := ?_) (a' := ?_) #[true, true, true, true, true, true, true, true, true, true, true, true, true, true, true, true, true, true, false, false, false, false, false, false, false, false, false, false, false, false] rfl rfl (any_of HT_.out (by kernel_rfl)) (fun _ _ _ h => h) (Or.inl ⟨by rfl, ?_⟩) ?_ ?_
                      rotate_left
                      · intro w'
                        go_simp
                        with_reducible rfl
                      rotate_left
                      · simp only [Act.put, List.setIfInBounds_toArray, List.set_cons_zero, List.set_cons_succ, i64_w, i32_w]
                        rfl
                      refine pure_ (i := 18) (N := some 62) (v := ?_) (a' := ?_) #[true, true, true, true, true, true, true, true, true, true, true, true, true, true, true, true, true, true, true, false, false, false, false, false, false, false, false, false, false, false] rfl rfl (any_of HT_.out (by kernel_rfl)) (fun _ _ _ h => h) (Or.inl ⟨by rfl, ?_⟩) ?_ ?_
                      rotate_left
                      · intro w'
                        go_simp
                        with_reducible rfl
                      rotate_left
                      · simp only [Act.put, List.setIfInBounds_toArray, List.set_cons_zero, List.set_cons_succ, i64_w, i32_w]
                        rfl
                      refine pure_ (i := 19) (N := some 63) (v := ?_) (a' := ?_) #[true, true, true, true, true, true, true, true, true, true, true, true, true, true, true, true, true, true, true, true, false, false, false, false, false, false, false, false, false, false] rfl rfl (any_of HT_.out (by kernel_rfl)) (fun _ _ _ h => h) (Or.inl ⟨by rfl, ?_⟩) ?_ ?_
                      rotate_left
                      · intro w'
                        go_simp
                        with_reducible rfl
                      rotate_left
                      · simp only [Act.put, List.setIfInBounds_toArray, List.set_cons_zero, List.set_cons_succ, i64_w, i32_w]
                        rfl
                      refine pure_ (i := 20) (N := some 64) (v := ?_) (a' := ?_) #[true, true, true, true, true, true, true, true, true, true, true, true, true, true, true, true, true, true, true, true, true, false, false, false, false, false, false, false, false, false] rfl rfl (any_of HT_.out (by kernel_rfl)) (fun _ _ _ h => h) (Or.inl ⟨by rfl, ?_⟩) ?_ ?_
                      rotate_left
                      · intro w'
                        go_simp
                        with_reducible rfl
                      rotate_left
                      · simp only [Act.put, List.setIfInBounds_toArray, List.set_cons_zero, List.set_cons_succ, i64_w, i32_w]
                        rfl
                      refine pure_ (i := 21) (N := some 65) (v := ?_) (a' := ?_) #[true, true, true, true, true, true, true, true, true, true, true, true, true, true, true, true, true, true, true, true, true, true, false, false, false, false, false, false, false, false] rfl rfl (any_of HT_.out (by kernel_rfl)) (fun _ _ _ h => h) (Or.inl ⟨by rfl, ?_⟩) ?_ ?_
                      rotate_left
                      · intro w'
                        go_simp
                        with_reducible rfl
                      rotate_left
                      · simp only [Act.put, List.setIfInBounds_toArray, List.set_cons_zero, List.set_cons_succ, i64_w, i32_w]
                        rfl
                      refine pure_ (i := 22) (N := some 66) (v := undef) (a' := ?_) #[true, true, true, true, true, true, true, true, true, true, true, true, true, true, true, true, true, true, true, true, true, true, true, false, false, false, false, false, false, false] rfl rfl (any_of HT_.out (by kernel_rfl)) (fun _ _ _ h => h) (Or.inr ⟨by rfl, rfl⟩) ?_ ?_
                      rotate_left
                      · simp only [Act.put, List.setIfInBounds_toArray, List.set_cons_zero, List.set_cons_succ, i64_w, i32_w]
                        rfl
                      refine pure_ (i := 23) (N := some 67) (v := undef) (a' := ?_) #[true, true, true, true, true, true, true, true, true, true, true, true, true, true, true, true, true, true, true, true, true, true, true, true, false, false, false, false, false, false] rfl rfl (any_of HT_.out (by kernel_rfl)) (fun _ _ _ h => h) (Or.inr ⟨by rfl, rfl⟩) ?_ ?_
                      rotate_left
                      · simp only [Act.put, List.setIfInBounds_toArray, List.set_cons_zero, List.set_cons_succ, i64_w, i32_w]
                        rfl
                      refine pure_ (i := 24) (N := some 68) (v := undef) (a' := ?_) #[true, true, true, true, true, true, true, true, true, true, true, true, true, true, true, true, true, true, true, true, true, true, true, true, true, false, false, false, false, false] rfl rfl (any_of HT_.out (by kernel_rfl)) (fun _ _ _ h => h) (Or.inr ⟨by rfl, rfl⟩) ?_ ?_
                      rotate_left
                      · simp only [Act.put, List.setIfInBounds_toArray, List.set_cons_zero, List.set_cons_succ, i64_w, i32_w]
                        rfl
                      refine pure_ (i := 25) (N := some 69) (v := ?_) (a' := ?_) #[true, true, true, true, true, true, true, true, true, true, true, true, true, true, true, true, true, true, true, true, true, true, true, true, true, true, false, false, false, false] rfl rfl (any_of HT_.out (by kernel_rfl)) (fun _ _ _ h => h) (Or.inl ⟨by rfl, ?_⟩) ?_ ?_
                      rotate_left
                      · intro w'
                        go_simp
                        with_reducible rfl
                      rotate_left
                      · simp only [Act.put, List.setIfInBounds_toArray, List.set_cons_zero, List.set_cons_succ, i64_w, i32_w]
                        rfl
                      refine pure_ (i := 26) (N := some 70) (v := ?_) (a' := ?_) #[true, true, true, true, true, true, true, true, true, true, true, true, true, true, true, true, true, true, true, true, true, true, true, true, true, true, true, false, false, false] rfl rfl (any_of HT_.out (by kernel_rfl)) (fun _ _ _ h => h) (Or.inl ⟨by rfl, ?_⟩) ?_ ?_
                      rotate_left
                      · intro w'
                        go_simp
                        with_reducible rfl
                      rotate_left
                      · simp only [Act.put, List.setIfInBounds_toArray, List.set_cons_zero, List.set_cons_succ, i64_w, i32_w]
                        rfl
                      refine pure_ (i := 27) (N := some 71) (v := undef) (a' := ?_) #[true, true, true, true, true, true, true, true, true, true, true, true, true, true, true, true, true, true, true, true, true, true, true, true, true, true, true, true, false, false] rfl rfl (any_of HT_.out (by kernel_rfl)) (fun _ _ _ h => h) (Or.inr ⟨by rfl, rfl⟩) ?_ ?_
                      rotate_left
                      · simp only [Act.put, List.setIfInBounds_toArray, List.set_cons_zero, List.set_cons_succ, i64_w, i32_w]
                        rfl
                      refine pure_ (i := 28) (N := some 72) (v := ?_) (a' := ?_) #[true, true, true, true, true, true, true, true, true, true, true, true, true, true, true, true, true, true, true, true, true, true, true, true, true, true, true, true, true, false] rfl rfl (any_of HT_.out (by kernel_rfl)) (fun _ _ _ h => h) (Or.inl ⟨by rfl, ?_⟩) ?_ ?_
                      rotate_left
                      · intro w'
                        go_simp
                        with_reducible rfl
                      rotate_left
                      · simp only [Act.put, List.setIfInBounds_toArray, List.set_cons_zero, List.set_cons_succ, i64_w, i32_w]
                        rfl
                      refine pure_ (i := 29) (N := some 4) (v := ?_) (a' := ?_) #[true, true, true, true, true, true, true, true, true, true, true, true, true, true, true, true, true, true, true, true, true, true, true, true, true, true, true, true, true, true] rfl rfl (any_of HT_.out (by kernel_rfl)) (fun _ _ _ h => h) (Or.inl ⟨by rfl, ?_⟩) ?_ ?_
                      rotate_left
                      · intro w'
                        go_simp
                        with_reducible rfl
                      rotate_left
                      · simp only [Act.put, List.setIfInBounds_toArray, List.set_cons_zero, List.set_cons_succ, i64_w, i32_w]
                        rfl
                      refine done_ (done_of HT_.out (by kernel_rfl)) ?_
                      try go_wp2
                      go_ret
                      exact ⟨by first | rfl | (simp [errW_none, errW_some] <;> rfl) | (simp [*, errW_none, errW_some] <;> rfl), by repeat (first | (with_reducible first | exact HB.out | apply below_alloc | apply pw_below_drewN | apply below_drew1 | refine below_set ?_ GE194.out) | exact HB.out)⟩
                  · rw [if_neg c31] at H
                    have c31b0 : (t204 == t205) = false := beq_eq_false_iff_ne.mpr c31
                    have c31b1 : (t204 != t205) = true := bne_iff_ne.mpr c31
                    obtain rfl := Option.some.inj H
                    try go_wp2
                    have n0_ := Aside0.mk (blk_drew BK194.out)
                    have n1_ := Aside0.mk (below_drew1 HB.out)
                    clear BK194
                    clear HB
                    have BK194 := n0_
                    have HB := n1_
                    clear n0_ n1_
                    refine start_ (n := 30) (S := fun w' => w'.cell? ⟨gb194, 0, none⟩ = some (.int .i64 a0_0) ∧ w'.cell? ⟨gb194, 1, none⟩ = some (.slice A0_1 l0_1.length c0_1)) (ds := []) #[false, false, false, false, false, false, false, false, false, false, false, false, false, false, false, false, false, false, false, false, false, false, false, false, false, false, false, false, false, false] (by kernel_rfl) rfl rfl ⟨(blk_cell BK194.out 0).trans rfl, (blk_cell BK194.out 1).trans rfl⟩ (fun hHeld => ?_); refine with_tabW taskmasterlaw8_AgainTells.tab8 taskmasterlaw8_AgainTells.bits8 (fun HT_ HW_ => ?_)
                    generalize wc.drew = w51 at BK194 HB hHeld ⊢
                    refine pure_ (i := 1) (N := some 45) (v := ?_) (a' := ?_) #[false, true, false, false, false, false, false, false, false, false, false, false, false, false, false, false, false, false, false, false, false, false, false, false, false, false, false, false, false, false] rfl rfl (any_of HT_.out (by kernel_rfl)) (fun _ _ _ h => h) (Or.inl ⟨by rfl, ?_⟩) ?_ ?_
                    rotate_left
                    · intro w'
                      go_simp
                      with_reducible rfl
                    rotate_left
                    · simp only [Act.put, List.setIfInBounds_toArray, List.set_cons_zero, List.set_cons_succ, i64_w, i32_w]
                      rfl
                    refine pure_ (i := 4) (N := some 48) (v := ?_) (a' := ?_) #[false, true, false, false, true, false, false, false, false, false, false, false, false, false, false, false, false, false, false, false, false, false, false, false, false, false, false, false, false, false] rfl rfl (any_of HT_.out (by kernel_rfl)) (fun _ _ _ h => h) (Or.inl ⟨by rfl, ?_⟩) ?_ ?_
                    rotate_left
                    · intro w'
                      go_simp
                      with_reducible rfl
                    rotate_left
                    · simp only [Act.put, List.setIfInBounds_toArray, List.set_cons_zero, List.set_cons_succ, i64_w, i32_w]
                      rfl
                    refine take_ (i := 0) (N := some 44) (v := ?_) (a' := ?_) #[true, true, false, false, true, false, false, false, false, false, false, false, false, false, false, false, false, false, false, false, false, false, false, false, false, false, false, false, false, false] rfl rfl (take_ofW HT_.out HW_.out (by kernel_rfl)) (fun _ _ _ h => h) (Or.inl ⟨by rfl, ?_⟩) hHeld ?_ ?_
                    rotate_left
                    · rintro w' ⟨s0, s1⟩
                      go_simp
                      with_reducible rfl
                    rotate_left
                    · simp only [Act.put, List.setIfInBounds_toArray, List.set_cons_zero, List.set_cons_succ, i64_w, i32_w]
                      rfl
                    refine take_ (i := 3) (N := some 47) (v := ?_) (a' := ?_) #[true, true, false, true, true, false, false, false, false, false, false, false, false, false, false, false, false, false, false, false, false, false, false, false, false, false, false, false, false, false] rfl rfl (take_ofW HT_.out HW_.out (by kernel_rfl)) (fun _ _ _ h => h) (Or.inl ⟨by rfl, ?_⟩) hHeld ?_ ?_
                    rotate_left
                    · rintro w' ⟨s0, s1⟩
                      go_simp
                      with_reducible rfl
                    rotate_left
                    · simp only [Act.put, List.setIfInBounds_toArray, List.set_cons_zero, List.set_cons_succ, i64_w, i32_w]
                      rfl
                    refine one_ (i := 2) (N := some 46) #[true, true, true, true, true, false, false, false, false, false, false, false, false, false, false, false, false, false, false, false, false, false, false, false, false, false, false, false, false, false] rfl rfl (one_of HT_.out (by kernel_rfl)) (by decide) (fun K hK => ?_)
                    refine goes_ Try.func15 (by kernel_rfl) rfl #[.agg #[.int .i64 a0_0, .slice A0_1 l0_1.length c0_1], .int .i64 a1] (by rfl) rfl rfl (by (try simp only [List.map_toArray, List.map_cons, List.map_nil]); first | done | rfl | (simp only [List.length_drop, List.length_take]; rfl)) ?_
                    with_reducible refine (again_Own.calls a0_0 _ _ l0_1 a1 t202 _ ?side1 ?side2 A26.out).mono ?_
                    (case side1 => repeat (first | exact (Kd.C_below HR0_1.out HB.out) | (with_reducible refine Kd.C_alloc ?_ _) | (with_reducible refine Kd.C_drewN ?_ _) | (with_reducible refine Kd.C_drew ?_)))
                    (case side2 => exact HC0_1.out)
                    rintro e w52 ⟨rfl, hb⟩
                    refine ⟨_, rfl, ?_⟩
                    have n0_ := Aside0.mk (blk_below (g := gb194) (o := .cells #[.int .i64 a0_0, .slice A0_1 l0_1.length c0_1] 24 (0, 0)) (by (with_reducible repeat (first | refine blk_drewN ?_ _ | refine blk_drew ?_ | refine blk_alloc ?_ _)); exact BK194.out) hb)
                    have n1_ := Aside0.mk (below_step (by repeat (first | (with_reducible first | exact HB.out | apply below_alloc | apply pw_below_drewN | apply below_drew1 | refine below_set ?_ GE194.out) | exact HB.out)) hb)
                    clear BK194
                    clear HB
                    have BK194 := n0_
                    have HB := n1_
                    clear n0_ n1_
                    (try clear hb)
                    (try clear hb2)
                    (try clear hk)
                    (try clear hi)
                    refine hK.out _ _ ⟨(blk_cell BK194.out 0).trans rfl, (blk_cell BK194.out 1).trans rfl⟩ (fun hHeld => ?_)
                    clear hK K
                    refine norm_ (a' := ?_) ?_ ?_
                    rotate_left
                    · show Act.put _ (some 46) _ = _
                      simp only [Act.put, List.setIfInBounds_toArray, List.set_cons_zero, List.set_cons_succ, i64_w, i32_w]
                      rfl
                    refine one_ (i := 5) (N := some 49) #[true, true, true, true, true, true, false, false, false, false, false, false, false, false, false, false, false, false, false, false, false, false, false, false, false, false, false, false, false, false] rfl rfl (one_of HT_.out (by kernel_rfl)) (by decide) (fun K hK => ?_)
                    refine goes_ Try.func20 (by kernel_rfl) rfl #[.agg #[.int .i64 a0_0, .slice A0_1 l0_1.length c0_1], .int .i64 a1] (by rfl) rfl rfl (by (try simp only [List.map_toArray, List.map_cons, List.map_nil]); first | done | rfl | (simp only [List.length_drop, List.length_take]; rfl)) ?_
                    with_reducible refine (taskmasterref8_Own.calls kj16 a0_0 _ _ l0_1 a1 t203 _ ?side1 ?side2 A27.out).mono ?_
                    (case side1 => repeat (first | exact (Kd.C_below HR0_1.out HB.out) | (with_reducible refine Kd.C_alloc ?_ _) | (with_reducible refine Kd.C_drewN ?_ _) | (with_reducible refine Kd.C_drew ?_)))
                    (case side2 => exact HC0_1.out)
                    rintro e w53 ⟨rfl, hb⟩
                    refine ⟨_, rfl, ?_⟩
                    have n0_ := Aside0.mk (blk_below (g := gb194) (o := .cells #[.int .i64 a0_0, .slice A0_1 l0_1.length c0_1] 24 (0, 0)) (by (with_reducible repeat (first | refine blk_drewN ?_ _ | refine blk_drew ?_ | refine blk_alloc ?_ _)); exact BK194.out) hb)
                    have n1_ := Aside0.mk (below_step (by repeat (first | (with_reducible first | exact HB.out | apply below_alloc | apply pw_below_drewN | apply below_drew1 | refine below_set ?_ GE194.out) | exact HB.out)) hb)
                    clear BK194
                    clear HB
                    have BK194 := n0_
                    have HB := n1_
                    clear n0_ n1_
                    (try clear hb)
                    (try clear hb2)
                    (try clear hk)
                    (try clear hi)
                    refine hK.out _ _ ⟨(blk_cell BK194.out 0).trans rfl, (blk_cell BK194.out 1).trans rfl⟩ (fun hHeld => ?_)
                    clear hK K
                    refine norm_ (a' := ?_) ?_ ?_
                    rotate_left
                    · show Act.put _ (some 49) _ = _
                      simp only [Act.put, List.setIfInBounds_toArray, List.set_cons_zero, List.set_cons_succ, i64_w, i32_w]
                      rfl
                    refine pure_ (i := 6) (N := some 50) (v := ?_) (a' := ?_) #[true, true, true, true, true, true, true, false, false, false, false, false, false, false, false, false, false, false, false, false, false, false, false, false, false, false, false, false, false, false] rfl rfl (any_of HT_.out (by kernel_rfl)) (fun _ _ _ h => h) (Or.inl ⟨by rfl, ?_⟩) ?_ ?_
                    rotate_left
                    · intro w'
                      go_simp
                      with_reducible rfl
                    rotate_left
                    · simp only [Act.put, List.setIfInBounds_toArray, List.set_cons_zero, List.set_cons_succ, i64_w, i32_w]
                      rfl
                    refine pure_ (i := 7) (N := some 51) (v := ?_) (a' := ?_) #[true, true, true, true, true, true, true, true, false, false, false, false, false, false, false, false, false, false, false, false, false, false, false, false, false, false, false, false, false, false] rfl rfl (any_of HT_.out (by kernel_rfl)) (fun _ _ _ h => h) (Or.inl ⟨by rfl, ?_⟩) ?_ ?_
                    rotate_left
                    · intro w'
                      go_simp
                      with_reducible rfl
                    rotate_left
                    · simp only [Act.put, List.setIfInBounds_toArray, List.set_cons_zero, List.set_cons_succ, i64_w, i32_w]
                      rfl
                    refine pure_ (i := 9) (N := some 53) (v := ?_) (a' := ?_) #[true, true, true, true, true, true, true, true, false, true, false, false, false, false, false, false, false, false, false, false, false, false, false, false, false, false, false, false, false, false] rfl rfl (any_of HT_.out (by kernel_rfl)) (fun _ _ _ h => h) (Or.inl ⟨by rfl, ?_⟩) ?_ ?_
                    rotate_left
                    · intro w'
                      go_simp
                      with_reducible rfl
                    rotate_left
                    · simp only [Act.put, List.setIfInBounds_toArray, List.set_cons_zero, List.set_cons_succ, i64_w, i32_w]
                      rfl
                    refine pure_ (i := 12) (N := some 56) (v := ?_) (a' := ?_) #[true, true, true, true, true, true, true, true, false, true, false, false, true, false, false, false, false, false, false, false, false, false, false, false, false, false, false, false, false, false] rfl rfl (any_of HT_.out (by kernel_rfl)) (fun _ _ _ h => h) (Or.inl ⟨by rfl, ?_⟩) ?_ ?_
                    rotate_left
                    · intro w'
                      go_simp
                      with_reducible rfl
                    rotate_left
                    · simp only [Act.put, List.setIfInBounds_toArray, List.set_cons_zero, List.set_cons_succ, i64_w, i32_w]
                      rfl
                    refine take_ (i := 8) (N := some 52) (v := ?_) (a' := ?_) #[true, true, true, true, true, true, true, true, true, true, false, false, true, false, false, false, false, false, false, false, false, false, false, false, false, false, false, false, false, false] rfl rfl (take_ofW HT_.out HW_.out (by kernel_rfl)) (fun _ _ _ h => h) (Or.inl ⟨by rfl, ?_⟩) hHeld ?_ ?_
                    rotate_left
                    · rintro w' ⟨s0, s1⟩
                      go_simp
                      with_reducible rfl
                    rotate_left
                    · simp only [Act.put, List.setIfInBounds_toArray, List.set_cons_zero, List.set_cons_succ, i64_w, i32_w]
                      rfl
                    refine take_ (i := 11) (N := some 55) (v := ?_) (a' := ?_) #[true, true, true, true, true, true, true, true, true, true, false, true, true, false, false, false, false, false, false, false, false, false, false, false, false, false, false, false, false, false] rfl rfl (take_ofW HT_.out HW_.out (by kernel_rfl)) (fun _ _ _ h => h) (Or.inl ⟨by rfl, ?_⟩) hHeld ?_ ?_
                    rotate_left
                    · rintro w' ⟨s0, s1⟩
                      go_simp
                      with_reducible rfl
                    rotate_left
                    · simp only [Act.put, List.setIfInBounds_toArray, List.set_cons_zero, List.set_cons_succ, i64_w, i32_w]
                      rfl
                    refine one_ (i := 10) (N := some 54) #[true, true, true, true, true, true, true, true, true, true, true, true, true, false, false, false, false, false, false, false, false, false, false, false, false, false, false, false, false, false] rfl rfl (one_of HT_.out (by kernel_rfl)) (by decide) (fun K hK => ?_)
                    refine goes_ Try.func11 (by kernel_rfl) rfl #[.agg #[.int .i64 a0_0, .slice A0_1 l0_1.length c0_1], .int .i64 a1] (by rfl) rfl rfl (by (try simp only [List.map_toArray, List.map_cons, List.map_nil]); first | done | rfl | (simp only [List.length_drop, List.length_take]; rfl)) ?_
                    with_reducible refine (again_Made.calls kj16 a0_0 _ _ l0_1 a1 t204 _ ?side1 ?side2 A29.out).mono ?_
                    (case side1 => repeat (first | exact (Kd.C_below HR0_1.out HB.out) | (with_reducible refine Kd.C_alloc ?_ _) | (with_reducible refine Kd.C_drewN ?_ _) | (with_reducible refine Kd.C_drew ?_)))
                    (case side2 => exact HC0_1.out)
                    rintro e w54 ⟨rfl, hb⟩
                    refine ⟨_, rfl, ?_⟩
                    have n0_ := Aside0.mk (blk_below (g := gb194) (o := .cells #[.int .i64 a0_0, .slice A0_1 l0_1.length c0_1] 24 (0, 0)) (by (with_reducible repeat (first | refine blk_drewN ?_ _ | refine blk_drew ?_ | refine blk_alloc ?_ _)); exact BK194.out) hb)
                    have n1_ := Aside0.mk (below_step (by repeat (first | (with_reducible first | exact HB.out | apply below_alloc | apply pw_below_drewN | apply below_drew1 | refine below_set ?_ GE194.out) | exact HB.out)) hb)
                    clear BK194
                    clear HB
                    have BK194 := n0_
                    have HB := n1_
                    clear n0_ n1_
                    (try clear hb)
                    (try clear hb2)
                    (try clear hk)
                    (try clear hi)
                    refine hK.out _ _ ⟨(blk_cell BK194.out 0).trans rfl, (blk_cell BK194.out 1).trans rfl⟩ (fun hHeld => ?_)
                    clear hK K
                    refine norm_ (a' := ?_) ?_ ?_
                    rotate_left
                    · show Act.put _ (some 54) _ = _
                      simp only [Act.put, List.setIfInBounds_toArray, List.set_cons_zero, List.set_cons_succ, i64_w, i32_w]
                      rfl
                    refine one_ (i := 13) (N := some 57) #[true, true, true, true, true, true, true, true, true, true, true, true, true, true, false, false, false, false, false, false, false, false, false, false, false, false, false, false, false, false] rfl rfl (one_of HT_.out (by kernel_rfl)) (by decide) (fun K hK => ?_)
                    refine goes_ Try.func19 (by kernel_rfl) rfl #[.agg #[.int .i64 a0_0, .slice A0_1 l0_1.length c0_1], .int .i64 a1] (by rfl) rfl rfl (by (try simp only [List.map_toArray, List.map_cons, List.map_nil]); first | done | rfl | (simp only [List.length_drop, List.length_take]; rfl)) ?_
                    with_reducible refine (taskmasterref8_Made.calls kj16 a0_0 _ _ l0_1 a1 t205 _ ?side1 ?side2 A30.out).mono ?_
                    (case side1 => repeat (first | exact (Kd.C_below HR0_1.out HB.out) | (with_reducible refine Kd.C_alloc ?_ _) | (with_reducible refine Kd.C_drewN ?_ _) | (with_reducible refine Kd.C_drew ?_)))
                    (case side2 => exact HC0_1.out)
                    rintro e w55 ⟨rfl, hb⟩
                    refine ⟨_, rfl, ?_⟩
                    have n0_ := Aside0.mk (blk_below (g := gb194) (o := .cells #[.int .i64 a0_0, .slice A0_1 l0_1.length c0_1] 24 (0, 0)) (by (with_reducible repeat (first | refine blk_drewN ?_ _ | refine blk_drew ?_ | refine blk_alloc ?_ _)); exact BK194.out) hb)
                    have n1_ := Aside0.mk (below_step (by repeat (first | (with_reducible first | exact HB.out | apply below_alloc | apply pw_below_drewN | apply below_drew1 | refine below_set ?_ GE194.out) | exact HB.out)) hb)
                    clear BK194
                    clear HB
                    have BK194 := n0_
                    have HB := n1_
                    clear n0_ n1_
                    (try clear hb)
                    (try clear hb2)
                    (try clear hk)
                    (try clear hi)
                    refine hK.out _ _ ⟨(blk_cell BK194.out 0).trans rfl, (blk_cell BK194.out 1).trans rfl⟩ (fun hHeld => ?_)
                    clear hK K
                    refine norm_ (a' := ?_) ?_ ?_
                    rotate_left
                    · show Act.put _ (some 57) _ = _
                      simp only [Act.put, List.setIfInBounds_toArray, List.set_cons_zero, List.set_cons_succ, i64_w, i32_w]
                      rfl
                    refine pure_ (i := 14) (N := some 58) (v := ?_) (a' := ?_) #[true, true, true, true, true, true, true, true, true, true, true, true, true, true, true, false, false, false, false, false, false, false, false, false, false, false, false, false, false, false] rfl rfl (any_of HT_.out (by kernel_rfl)) (fun _ _ _ h => h) (Or.inl ⟨by rfl, ?_⟩) ?_ ?_
                    rotate_left
                    · intro w'
                      go_simp
                      with_reducible rfl
                    rotate_left
                    · simp only [Act.put, List.setIfInBounds_toArray, List.set_cons_zero, List.set_cons_succ, i64_w, i32_w]
                      rfl
                    refine pure_ (i := 15) (N := some 59) (v := ?_) (a' := ?_) #[true, true, true, true, true, true, true, true, true, true, true, true, true, true, true, true, false, false, false, false, false, false, false, false, false, false, false, false, false, false] rfl rfl (any_of HT_.out (by kernel_rfl)) (fun _ _ _ h => h) (Or.inl ⟨by rfl, ?_⟩) ?_ ?_
                    rotate_left
                    · intro w'
                      go_simp
                      with_reducible rfl
                    rotate_left
                    · simp only [Act.put, List.setIfInBounds_toArray, List.set_cons_zero, List.set_cons_succ, i64_w, i32_w]
                      rfl
                    refine pure_ (i := 16) (N := some 60) (v := ?_) (a' := ?_) #[true, true, true, true, true, true, true, true, true, true, true, true, true, true, true, true, true, false, false, false, false, false, false, false, false, false, false, false, false, false] rfl rfl (any_of HT_.out (by kernel_rfl)) (fun _ _ _ h => h) (Or.inl ⟨by rfl, ?_⟩) ?_ ?_
                    rotate_left
                    · intro w'
                      go_simp
                      with_reducible rfl
                    rotate_left
                    · simp only [Act.put, List.setIfInBounds_toArray, List.set_cons_zero, List.set_cons_succ, i64_w, i32_w]
                      rfl
                    refine pure_ (i := 17) (N := some 61) (v := undef) (a' := ?_) #[true, true, true, true, true, true, true, true, true, true, true, true, true, true, true, true, true, true, false, false, false, false, false, false, false, false, false, false, false, false] rfl rfl (any_of HT_.out (by kernel_rfl)) (fun _ _ _ h => h) (Or.inr ⟨by rfl, rfl⟩) ?_ ?_
                    rotate_left
                    · simp only [Act.put, List.setIfInBounds_toArray, List.set_cons_zero, List.set_cons_succ, i64_w, i32_w]
                      rfl
                    refine pure_ (i := 18) (N := some 62) (v := undef) (a' := ?_) #[true, true, true, true, true, true, true, true, true, true, true, true, true, true, true, true, true, true, true, false, false, false, false, false, false, false, false, false, false, false] rfl rfl (any_of HT_.out (by kernel_rfl)) (fun _ _ _ h => h) (Or.inr ⟨by rfl, rfl⟩) ?_ ?_
                    rotate_left
                    · simp only [Act.put, List.setIfInBounds_toArray, List.set_cons_zero, List.set_cons_succ, i64_w, i32_w]
                      rfl
                    refine pure_ (i := 19) (N := some 63) (v := undef) (a' := ?_) #[true, true, true, true, true, true, true, true, true, true, true, true, true, true, true, true, true, true, true, true, false, false, false, false, false, false, false, false, false, false] rfl rfl (any_of HT_.out (by kernel_rfl)) (fun _ _ _ h => h) (Or.inr ⟨by rfl, rfl⟩) ?_ ?_
                    rotate_left
                    · simp only [Act.put, List.setIfInBounds_toArray, List.set_cons_zero, List.set_cons_succ, i64_w, i32_w]
                      rfl
                    refine pure_ (i := 20) (N := some 64) (v := ?_) (a' := ?_) #[true, true, true, true, true, true, true, true, true, true, true, true, true, true, true, true, true, true, true, true, true, false, false, false, false, false, false, false, false, false] rfl rfl (any_of HT_.out (by kernel_rfl)) (fun _ _ _ h => h) (Or.inl ⟨by rfl, ?_⟩) ?_ ?_
                    rotate_left
                    · intro w'
                      go_simp
                      with_reducible rfl
                    rotate_left
                    · simp only [Act.put, List.setIfInBounds_toArray, List.set_cons_zero, List.set_cons_succ, i64_w, i32_w]
                      rfl
                    refine pure_ (i := 21) (N := some 65) (v := ?_) (a' := ?_) #[true, true, true, true, true, true, true, true, true, true, true, true, true, true, true, true, true, true, true, true, true, true, false, false, false, false, false, false, false, false] rfl rfl (any_of HT_.out (by kernel_rfl)) (fun _ _ _ h => h) (Or.inl ⟨by rfl, ?_⟩) ?_ ?_
                    rotate_left
                    · intro w'
                      go_simp
                      with_reducible rfl
                    rotate_left
                    · simp only [Act.put, List.setIfInBounds_toArray, List.set_cons_zero, List.set_cons_succ, i64_w, i32_w]
                      rfl
                    refine pure_ (i := 22) (N := some 66) (v := undef) (a' := ?_) #[true, true, true, true, true, true, true, true, true, true, true, true, true, true, true, true, true, true, true, true, true, true, true, false, false, false, false, false, false, false] rfl rfl (any_of HT_.out (by kernel_rfl)) (fun _ _ _ h => h) (Or.inr ⟨by rfl, rfl⟩) ?_ ?_
                    rotate_left
                    · simp only [Act.put, List.setIfInBounds_toArray, List.set_cons_zero, List.set_cons_succ, i64_w, i32_w]
                      rfl
                    refine pure_ (i := 23) (N := some 67) (v := undef) (a' := ?_) #[true, true, true, true, true, true, true, true, true, true, true, true, true, true, true, true, true, true, true, true, true, true, true, true, false, false, false, false, false, false] rfl rfl (any_of HT_.out (by kernel_rfl)) (fun _ _ _ h => h) (Or.inr ⟨by rfl, rfl⟩) ?_ ?_
                    rotate_left
                    · simp only [Act.put, List.setIfInBounds_toArray, List.set_cons_zero, List.set_cons_succ, i64_w, i32_w]
                      rfl
                    refine pure_ (i := 24) (N := some 68) (v := undef) (a' := ?_) #[true, true, true, true, true, true, true, true, true, true, true, true, true, true, true, true, true, true, true, true, true, true, true, true, true, false, false, false, false, false] rfl rfl (any_of HT_.out (by kernel_rfl)) (fun _ _ _ h => h) (Or.inr ⟨by rfl, rfl⟩) ?_ ?_
                    rotate_left
                    · simp only [Act.put, List.setIfInBounds_toArray, List.set_cons_zero, List.set_cons_succ, i64_w, i32_w]
                      rfl
                    refine pure_ (i := 25) (N := some 69) (v := ?_) (a' := ?_) #[true, true, true, true, true, true, true, true, true, true, true, true, true, true, true, true, true, true, true, true, true, true, true, true, true, true, false, false, false, false] rfl rfl (any_of HT_.out (by kernel_rfl)) (fun _ _ _ h => h) (Or.inl ⟨by rfl, ?_⟩) ?_ ?_
                    rotate_left
                    · intro w'
                      go_simp
                      with_reducible rfl
                    rotate_left
                    · simp only [Act.put, List.setIfInBounds_toArray, List.set_cons_zero, List.set_cons_succ, i64_w, i32_w]
                      rfl
                    refine pure_ (i := 26) (N := some 70) (v := ?_) (a' := ?_) #[true, true, true, true, true, true, true, true, true, true, true, true, true, true, true, true, true, true, true, true, true, true, true, true, true, true, true, false, false, false] rfl rfl (any_of HT_.out (by kernel_rfl)) (fun _ _ _ h => h) (Or.inl ⟨by rfl, ?_⟩) ?_ ?_
                    rotate_left
                    · intro w'
                      go_simp
                      with_reducible rfl
                    rotate_left
                    · simp only [Act.put, List.setIfInBounds_toArray, List.set_cons_zero, List.set_cons_succ, i64_w, i32_w]
                      rfl
                    refine pure_ (i := 27) (N := some 71) (v := undef) (a' := ?_) #[true, true, true, true, true, true, true, true, true, true, true, true, true, true, true, true, true, true, true, true, true, true, true, true, true, true, true, true, false, false] rfl rfl (any_of HT_.out (by kernel_rfl)) (fun _ _ _ h => h) (Or.inr ⟨by rfl, rfl⟩) ?_ ?_
                    rotate_left
                    · simp only [Act.put, List.setIfInBounds_toArray, List.set_cons_zero, List.set_cons_succ, i64_w, i32_w]
                      rfl
                    refine pure_ (i := 28) (N := some 72) (v := ?_) (a' := ?_) #[true, true, true, true, true, true, true, true, true, true, true, true, true, true, true, true, true, true, true, true, true, true, true, true, true, true, true, true, true, false] rfl rfl (any_of HT_.out (by kernel_rfl)) (fun _ _ _ h => h) (Or.inl ⟨by rfl, ?_⟩) ?_ ?_
                    rotate_left
                    · intro w'
                      go_simp
                      with_reducible rfl
                    rotate_left
                    · simp only [Act.put, List.setIfInBounds_toArray, List.set_cons_zero, List.set_cons_succ, i64_w, i32_w]
                      rfl
                    refine pure_ (i := 29) (N := some 4) (v := ?_) (a' := ?_) #[true, true, true, true, true, true, true, true, true, true, true, true, true, true, true, true, true, true, true, true, true, true, true, true, true, true, true, true, true, true] rfl rfl (any_of HT_.out (by kernel_rfl)) (fun _ _ _ h => h) (Or.inl ⟨by rfl, ?_⟩) ?_ ?_
                    rotate_left
                    · intro w'
                      go_simp
                      with_reducible rfl
                    rotate_left
                    · simp only [Act.put, List.setIfInBounds_toArray, List.set_cons_zero, List.set_cons_succ, i64_w, i32_w]
                      rfl
                    refine done_ (done_of HT_.out (by kernel_rfl)) ?_
                    try go_wp2
                    go_ret
                    exact ⟨by first | rfl | (simp [errW_none, errW_some] <;> rfl) | (simp [*, errW_none, errW_some] <;> rfl), by repeat (first | (with_reducible first | exact HB.out | apply below_alloc | apply pw_below_drewN | apply below_drew1 | refine below_set ?_ GE194.out) | exact HB.out)⟩
                · rw [if_neg c28] at H
                  have c28b0 : (t202 == t203) = false := beq_eq_false_iff_ne.mpr c28
                  have c28b1 : (t202 != t203) = true := bne_iff_ne.mpr c28
                  obtain rfl := Option.some.inj H
                  try go_wp2
                  have n0_ := Aside0.mk (blk_drew BK194.out)
                  have n1_ := Aside0.mk (below_drew1 HB.out)
                  clear BK194
                  clear HB
                  have BK194 := n0_
                  have HB := n1_
                  clear n0_ n1_
                  refine start_ (n := 30) (S := fun w' => w'.cell? ⟨gb194, 0, none⟩ = some (.int .i64 a0_0) ∧ w'.cell? ⟨gb194, 1, none⟩ = some (.slice A0_1 l0_1.length c0_1)) (ds := []) #[false, false, false, false, false, false, false, false, false, false, false, false, false, false, false, false, false, false, false, false, false, false, false, false, false, false, false, false, false, false] (by kernel_rfl) rfl rfl ⟨(blk_cell BK194.out 0).trans rfl, (blk_cell BK194.out 1).trans rfl⟩ (fun hHeld => ?_); refine with_tabW taskmasterlaw8_AgainTells.tab8 taskmasterlaw8_AgainTells.bits8 (fun HT_ HW_ => ?_)
                  generalize wc.drew = w56 at BK194 HB hHeld ⊢
                  refine pure_ (i := 1) (N := some 45) (v := ?_) (a' := ?_) #[false, true, false, false, false, false, false, false, false, false, false, false, false, false, false, false, false, false, false, false, false, false, false, false, false, false, false, false, false, false] rfl rfl (any_of HT_.out (by kernel_rfl)) (fun _ _ _ h => h) (Or.inl ⟨by rfl, ?_⟩) ?_ ?_
                  rotate_left
                  · intro w'
                    go_simp
                    with_reducible rfl
                  rotate_left
                  · simp only [Act.put, List.setIfInBounds_toArray, List.set_cons_zero, List.set_cons_succ, i64_w, i32_w]
                    rfl
                  refine pure_ (i := 4) (N := some 48) (v := ?_) (a' := ?_) #[false, true, false, false, true, false, false, false, false, false, false, false, false, false, false, false, false, false, false, false, false, false, false, false, false, false, false, false, false, false] rfl rfl (any_of HT_.out (by kernel_rfl)) (fun _ _ _ h => h) (Or.inl ⟨by rfl, ?_⟩) ?_ ?_
                  rotate_left
                  · intro w'
                    go_simp
                    with_reducible rfl
                  rotate_left
                  · simp only [Act.put, List.setIfInBounds_toArray, List.set_cons_zero, List.set_cons_succ, i64_w, i32_w]
                    rfl
                  refine take_ (i := 0) (N := some 44) (v := ?_) (a' := ?_) #[true, true, false, false, true, false, false, false, false, false, false, false, false, false, false, false, false, false, false, false, false, false, false, false, false, false, false, false, false, false] rfl rfl (take_ofW HT_.out HW_.out (by kernel_rfl)) (fun _ _ _ h => h) (Or.inl ⟨by rfl, ?_⟩) hHeld ?_ ?_
                  rotate_left
                  · rintro w' ⟨s0, s1⟩
                    go_simp
                    with_reducible rfl
                  rotate_left
                  · simp only [Act.put, List.setIfInBounds_toArray, List.set_cons_zero, List.set_cons_succ, i64_w, i32_w]
                    rfl
                  refine take_ (i := 3) (N := some 47) (v := ?_) (a' := ?_) #[true, true, false, true, true, false, false, false, false, false, false, false, false, false, false, false, false, false, false, false, false, false, false, false, false, false, false, false, false, false] rfl rfl (take_ofW HT_.out HW_.out (by kernel_rfl)) (fun _ _ _ h => h) (Or.inl ⟨by rfl, ?_⟩) hHeld ?_ ?_
                  rotate_left
                  · rintro w' ⟨s0, s1⟩
                    go_simp
                    with_reducible rfl
                  rotate_left
                  · simp only [Act.put, List.setIfInBounds_toArray, List.set_cons_zero, List.set_cons_succ, i64_w, i32_w]
                    rfl
                  refine one_ (i := 2) (N := some 46) #[true, true, true, true, true, false, false, false, false, false, false, false, false, false, false, false, false, false, false, false, false, false, false, false, false, false, false, false, false, false] rfl rfl (one_of HT_.out (by kernel_rfl)) (by decide) (fun K hK => ?_)
                  refine goes_ Try.func15 (by kernel_rfl) rfl #[.agg #[.int .i64 a0_0, .slice A0_1 l0_1.length c0_1], .int .i64 a1] (by rfl) rfl rfl (by (try simp only [List.map_toArray, List.map_cons, List.map_nil]); first | done | rfl | (simp only [List.length_drop, List.length_take]; rfl)) ?_
                  with_reducible refine (again_Own.calls a0_0 _ _ l0_1 a1 t202 _ ?side1 ?side2 A26.out).mono ?_
                  (case side1 => repeat (first | exact (Kd.C_below HR0_1.out HB.out) | (with_reducible refine Kd.C_alloc ?_ _) | (with_reducible refine Kd.C_drewN ?_ _) | (with_reducible refine Kd.C_drew ?_)))
                  (case side2 => exact HC0_1.out)
                  rintro e w57 ⟨rfl, hb⟩
                  refine ⟨_, rfl, ?_⟩
                  have n0_ := Aside0.mk (blk_below (g := gb194) (o := .cells #[.int .i64 a0_0, .slice A0_1 l0_1.length c0_1] 24 (0, 0)) (by (with_reducible repeat (first | refine blk_drewN ?_ _ | refine blk_drew ?_ | refine blk_alloc ?_ _)); exact BK194.out) hb)
                  have n1_ := Aside0.mk (below_step (by repeat (first | (with_reducible first | exact HB.out | apply below_alloc | apply pw_below_drewN | apply below_drew1 | refine below_set ?_ GE194.out) | exact HB.out)) hb)
                  clear BK194
                  clear HB
                  have BK194 := n0_
                  have HB := n1_
                  clear n0_ n1_
                  (try clear hb)
                  (try clear hb2)
                  (try clear hk)
                  (try clear hi)
                  refine hK.out _ _ ⟨(blk_cell BK194.out 0).trans rfl, (blk_cell BK194.out 1).trans rfl⟩ (fun hHeld => ?_)
                  clear hK K
                  refine norm_ (a' := ?_) ?_ ?_
                  rotate_left
                  · show Act.put _ (some 46) _ = _
                    simp only [Act.put, List.setIfInBounds_toArray, List.set_cons_zero, List.set_cons_succ, i64_w, i32_w]
                    rfl
                  refine one_ (i := 5) (N := some 49) #[true, true, true, true, true, true, false, false, false, false, false, false, false, false, false, false, false, false, false, false, false, false, false, false, false, false, false, false, false, false] rfl rfl (one_of HT_.out (by kernel_rfl)) (by decide) (fun K hK => ?_)
                  refine goes_ Try.func20 (by kernel_rfl) rfl #[.agg #[.int .i64 a0_0, .slice A0_1 l0_1.length c0_1], .int .i64 a1] (by rfl) rfl rfl (by (try simp only [List.map_toArray, List.map_cons, List.map_nil]); first | done | rfl | (simp only [List.length_drop, List.length_take]; rfl)) ?_
                  with_reducible refine (taskmasterref8_Own.calls kj16 a0_0 _ _ l0_1 a1 t203 _ ?side1 ?side2 A27.out).mono ?_
                  (case side1 => repeat (first | exact (Kd.C_below HR0_1.out HB.out) | (with_reducible refine Kd.C_alloc ?_ _) | (with_reducible refine Kd.C_drewN ?_ _) | (with_reducible refine Kd.C_drew ?_)))
                  (case side2 => exact HC0_1.out)
                  rintro e w58 ⟨rfl, hb⟩
                  refine ⟨_, rfl, ?_⟩
                  have n0_ := Aside0.mk (blk_below (g := gb194) (o := .cells #[.int .i64 a0_0, .slice A0_1 l0_1.length c0_1] 24 (0, 0)) (by (with_reducible repeat (first | refine blk_drewN ?_ _ | refine blk_drew ?_ | refine blk_alloc ?_ _)); exact BK194.out) hb)
                  have n1_ := Aside0.mk (below_step (by repeat (first | (with_reducible first | exact HB.out | apply below_alloc | apply pw_below_drewN | apply below_drew1 | refine below_set ?_ GE194.out) | exact HB.out)) hb)
                  clear BK194
                  clear HB
                  have BK194 := n0_
                  have HB := n1_
                  clear n0_ n1_
                  (try clear hb)
                  (try clear hb2)
                  (try clear hk)
                  (try clear hi)
                  refine hK.out _ _ ⟨(blk_cell BK194.out 0).trans rfl, (blk_cell BK194.out 1).trans rfl⟩ (fun hHeld => ?_)
                  clear hK K
                  refine norm_ (a' := ?_) ?_ ?_
                  rotate_left
                  · show Act.put _ (some 49) _ = _
                    simp only [Act.put, List.setIfInBounds_toArray, List.set_cons_zero, List.set_cons_succ, i64_w, i32_w]
                    rfl
                  refine pure_ (i := 6) (N := some 50) (v := ?_) (a' := ?_) #[true, true, true, true, true, true, true, false, false, false, false, false, false, false, false, false, false, false, false, false, false, false, false, false, false, false, false, false, false, false] rfl rfl (any_of HT_.out (by kernel_rfl)) (fun _ _ _ h => h) (Or.inl ⟨by rfl, ?_⟩) ?_ ?_
                  rotate_left
                  · intro w'
                    go_simp
                    with_reducible rfl
                  rotate_left
                  · simp only [Act.put, List.setIfInBounds_toArray, List.set_cons_zero, List.set_cons_succ, i64_w, i32_w]
                    rfl
                  refine pure_ (i := 7) (N := some 51) (v := ?_) (a' := ?_) #[true, true, true, true, true, true, true, true, false, false, false, false, false, false, false, false, false, false, false, false, false, false, false, false, false, false, false, false, false, false] rfl rfl (any_of HT_.out (by kernel_rfl)) (fun _ _ _ h => h) (Or.inl ⟨by rfl, ?_⟩) ?_ ?_
                  rotate_left
                  · intro w'
                    go_simp
                    with_reducible rfl
                  rotate_left
                  · simp only [Act.put, List.setIfInBounds_toArray, List.set_cons_zero, List.set_cons_succ, i64_w, i32_w]
                    rfl
                  refine pure_ (i := 8) (N := some 52) (v := undef) (a' := ?_) #[true, true, true, true, true, true, true, true, true, false, false, false, false, false, false, false, false, false, false, false, false, false, false, false, false, false, false, false, false, false] rfl rfl (any_of HT_.out (by kernel_rfl)) (fun _ _ _ h => h) (Or.inr ⟨by rfl, rfl⟩) ?_ ?_
                  rotate_left
                  · simp only [Act.put, List.setIfInBounds_toArray, List.set_cons_zero, List.set_cons_succ, i64_w, i32_w]
                    rfl
                  refine pure_ (i := 9) (N := some 53) (v := undef) (a' := ?_) #[true, true, true, true, true, true, true, true, true, true, false, false, false, false, false, false, false, false, false, false, false, false, false, false, false, false, false, false, false, false] rfl rfl (any_of HT_.out (by kernel_rfl)) (fun _ _ _ h => h) (Or.inr ⟨by rfl, rfl⟩) ?_ ?_
                  rotate_left
                  · simp only [Act.put, List.setIfInBounds_toArray, List.set_cons_zero, List.set_cons_succ, i64_w, i32_w]
                    rfl
                  refine pure_ (i := 10) (N := some 54) (v := undef) (a' := ?_) #[true, true, true, true, true, true, true, true, true, true, true, false, false, false, false, false, false, false, false, false, false, false, false, false, false, false, false, false, false, false] rfl rfl (any_of HT_.out (by kernel_rfl)) (fun _ _ _ h => h) (Or.inr ⟨by rfl, rfl⟩) ?_ ?_
                  rotate_left
                  · simp only [Act.put, List.setIfInBounds_toArray, List.set_cons_zero, List.set_cons_succ, i64_w, i32_w]
                    rfl
                  refine pure_ (i := 11) (N := some 55) (v := undef) (a' := ?_) #[true, true, true, true, true, true, true, true, true, true, true, true, false, false, false, false, false, false, false, false, false, false, false, false, false, false, false, false, false, false] rfl rfl (any_of HT_.out (by kernel_rfl)) (fun _ _ _ h => h) (Or.inr ⟨by rfl, rfl⟩) ?_ ?_
                  rotate_left
                  · simp only [Act.put, List.setIfInBounds_toArray, List.set_cons_zero, List.set_cons_succ, i64_w, i32_w]
                    rfl
                  refine pure_ (i := 12) (N := some 56) (v := undef) (a' := ?_) #[true, true, true, true, true, true, true, true, true, true, true, true, true, false, false, false, false, false, false, false, false, false, false, false, false, false, false, false, false, false] rfl rfl (any_of HT_.out (by kernel_rfl)) (fun _ _ _ h => h) (Or.inr ⟨by rfl, rfl⟩) ?_ ?_
                  rotate_left
                  · simp only [Act.put, List.setIfInBounds_toArray, List.set_cons_zero, List.set_cons_succ, i64_w, i32_w]
                    rfl
                  refine pure_ (i := 13) (N := some 57) (v := undef) (a' := ?_) #[true, true, true, true, true, true, true, true, true, true, true, true, true, true, false, false, false, false, false, false, false, false, false, false, false, false, false, false, false, false] rfl rfl (any_of HT_.out (by kernel_rfl)) (fun _ _ _ h => h) (Or.inr ⟨by rfl, rfl⟩) ?_ ?_
                  rotate_left
                  · simp only [Act.put, List.setIfInBounds_toArray, List.set_cons_zero, List.set_cons_succ, i64_w, i32_w]
                    rfl
                  refine pure_ (i := 14) (N := some 58) (v := undef) (a' := ?_) #[true, true, true, true, true, true, true, true, true, true, true, true, true, true, true, false, false, false, false, false, false, false, false, false, false, false, false, false, false, false] rfl rfl (any_of HT_.out (by kernel_rfl)) (fun _ _ _ h => h) (Or.inr ⟨by rfl, rfl⟩) ?_ ?_
                  rotate_left
                  · simp only [Act.put, List.setIfInBounds_toArray, List.set_cons_zero, List.set_cons_succ, i64_w, i32_w]
                    rfl
                  refine pure_ (i := 15) (N := some 59) (v := ?_) (a' := ?_) #[true, true, true, true, true, true, true, true, true, true, true, true, true, true, true, true, false, false, false, false, false, false, false, false, false, false, false, false, false, false] rfl rfl (any_of HT_.out (by kernel_rfl)) (fun _ _ _ h => h) (Or.inl ⟨by rfl, ?_⟩) ?_ ?_
                  rotate_left
                  · intro w'
                    go_simp
                    with_reducible rfl
                  rotate_left
                  · simp only [Act.put, List.setIfInBounds_toArray, List.set_cons_zero, List.set_cons_succ, i64_w, i32_w]
                    rfl
                  refine pure_ (i := 16) (N := some 60) (v := ?_) (a' := ?_) #[true, true, true, true, true, true, true, true, true, true, true, true, true, true, true, true, true, false, false, false, false, false, false, false, false, false, false, false, false, false] rfl rfl (any_of HT_.out (by kernel_rfl)) (fun _ _ _ h => h) (Or.inl ⟨by rfl, ?_⟩) ?_ ?_
                  rotate_left
                  · intro w'
                    go_simp
                    with_reducible rfl
                  rotate_left
                  · simp only [Act.put, List.setIfInBounds_toArray, List.set_cons_zero, List.set_cons_succ, i64_w, i32_w]
                    rfl
                  refine pure_ (i := 17) (N := some 61) (v := undef) (a' := ?_) #[true, true, true, true, true, true, true, true, true, true, true, true, true, true, true, true, true, true, false, false, false, false, false, false, false, false, false, false, false, false] rfl rfl (any_of HT_.out (by kernel_rfl)) (fun _ _ _ h => h) (Or.inr ⟨by rfl, rfl⟩) ?_ ?_
                  rotate_left
                  · simp only [Act.put, List.setIfInBounds_toArray, List.set_cons_zero, List.set_cons_succ, i64_w, i32_w]
                    rfl
                  refine pure_ (i := 18) (N := some 62) (v := undef) (a' := ?_) #[true, true, true, true, true, true, true, true, true, true, true, true, true, true, true, true, true, true, true, false, false, false, false, false, false, false, false, false, false, false] rfl rfl (any_of HT_.out (by kernel_rfl)) (fun _ _ _ h => h) (Or.inr ⟨by rfl, rfl⟩) ?_ ?_
                  rotate_left
                  · simp only [Act.put, List.setIfInBounds_toArray, List.set_cons_zero, List.set_cons_succ, i64_w, i32_w]
                    rfl
                  refine pure_ (i := 19) (N := some 63) (v := undef) (a' := ?_) #[true, true, true, true, true, true, true, true, true, true, true, true, true, true, true, true, true, true, true, true, false, false, false, false, false, false, false, false, false, false] rfl rfl (any_of HT_.out (by kernel_rfl)) (fun _ _ _ h => h) (Or.inr ⟨by rfl, rfl⟩) ?_ ?_
                  rotate_left
                  · simp only [Act.put, List.setIfInBounds_toArray, List.set_cons_zero, List.set_cons_succ, i64_w, i32_w]
                    rfl
                  refine pure_ (i := 20) (N := some 64) (v := ?_) (a' := ?_) #[true, true, true, true, true, true, true, true, true, true, true, true, true, true, true, true, true, true, true, true, true, false, false, false, false, false, false, false, false, false] rfl rfl (any_of HT_.out (by kernel_rfl)) (fun _ _ _ h => h) (Or.inl ⟨by rfl, ?_⟩) ?_ ?_
                  rotate_left
                  · intro w'
                    go_simp
                    with_reducible rfl
                  rotate_left
                  · simp only [Act.put, List.setIfInBounds_toArray, List.set_cons_zero, List.set_cons_succ, i64_w, i32_w]
                    rfl
                  refine pure_ (i := 21) (N := some 65) (v := ?_) (a' := ?_) #[true, true, true, true, true, true, true, true, true, true, true, true, true, true, true, true, true, true, true, true, true, true, false, false, false, false, false, false, false, false] rfl rfl (any_of HT_.out (by kernel_rfl)) (fun _ _ _ h => h) (Or.inl ⟨by rfl, ?_⟩) ?_ ?_
                  rotate_left
                  · intro w'
                    go_simp
                    with_reducible rfl
                  rotate_left
                  · simp only [Act.put, List.setIfInBounds_toArray, List.set_cons_zero, List.set_cons_succ, i64_w, i32_w]
                    rfl
                  refine pure_ (i := 22) (N := some 66) (v := undef) (a' := ?_) #[true, true, true, true, true, true, true, true, true, true, true, true, true, true, true, true, true, true, true, true, true, true, true, false, false, false, false, false, false, false] rfl rfl (any_of HT_.out (by kernel_rfl)) (fun _ _ _ h => h) (Or.inr ⟨by rfl, rfl⟩) ?_ ?_
                  rotate_left
                  · simp only [Act.put, List.setIfInBounds_toArray, List.set_cons_zero, List.set_cons_succ, i64_w, i32_w]
                    rfl
                  refine pure_ (i := 23) (N := some 67) (v := undef) (a' := ?_) #[true, true, true, true, true, true, true, true, true, true, true, true, true, true, true, true, true, true, true, true, true, true, true, true, false, false, false, false, false, false] rfl rfl (any_of HT_.out (by kernel_rfl)) (fun _ _ _ h => h) (Or.inr ⟨by rfl, rfl⟩) ?_ ?_
                  rotate_left
                  · simp only [Act.put, List.setIfInBounds_toArray, List.set_cons_zero, List.set_cons_succ, i64_w, i32_w]
                    rfl
                  refine pure_ (i := 24) (N := some 68) (v := undef) (a' := ?_) #[true, true, true, true, true, true, true, true, true, true, true, true, true, true, true, true, true, true, true, true, true, true, true, true, true, false, false, false, false, false] rfl rfl (any_of HT_.out (by kernel_rfl)) (fun _ _ _ h => h) (Or.inr ⟨by rfl, rfl⟩) ?_ ?_
                  rotate_left
                  · simp only [Act.put, List.setIfInBounds_toArray, List.set_cons_zero, List.set_cons_succ, i64_w, i32_w]
                    rfl
                  refine pure_ (i := 25) (N := some 69) (v := ?_) (a' := ?_) #[true, true, true, true, true, true, true, true, true, true, true, true, true, true, true, true, true, true, true, true, true, true, true, true, true, true, false, false, false, false] rfl rfl (any_of HT_.out (by kernel_rfl)) (fun _ _ _ h => h) (Or.inl ⟨by rfl, ?_⟩) ?_ ?_
                  rotate_left
                  · intro w'
                    go_simp
                    with_reducible rfl
                  rotate_left
                  · simp only [Act.put, List.setIfInBounds_toArray, List.set_cons_zero, List.set_cons_succ, i64_w, i32_w]
                    rfl
                  refine pure_ (i := 26) (N := some 70) (v := ?_) (a' := ?_) #[true, true, true, true, true, true, true, true, true, true, true, true, true, true, true, true, true, true, true, true, true, true, true, true, true, true, true, false, false, false] rfl rfl (any_of HT_.out (by kernel_rfl)) (fun _ _ _ h => h) (Or.inl ⟨by rfl, ?_⟩) ?_ ?_
                  rotate_left
                  · intro w'
                    go_simp
                    with_reducible rfl
                  rotate_left
                  · simp only [Act.put, List.setIfInBounds_toArray, List.set_cons_zero, List.set_cons_succ, i64_w, i32_w]
                    rfl
                  refine pure_ (i := 27) (N := some 71) (v := undef) (a' := ?_) #[true, true, true, true, true, true, true, true, true, true, true, true, true, true, true, true, true, true, true, true, true, true, true, true, true, true, true, true, false, false] rfl rfl (any_of HT_.out (by kernel_rfl)) (fun _ _ _ h => h) (Or.inr ⟨by rfl, rfl⟩) ?_ ?_
                  rotate_left
                  · simp only [Act.put, List.setIfInBounds_toArray, List.set_cons_zero, List.set_cons_succ, i64_w, i32_w]
                    rfl
                  refine pure_ (i := 28) (N := some 72) (v := ?_) (a' := ?_) #[true, true, true, true, true, true, true, true, true, true, true, true, true, true, true, true, true, true, true, true, true, true, true, true, true, true, true, true, true, false] rfl rfl (any_of HT_.out (by kernel_rfl)) (fun _ _ _ h => h) (Or.inl ⟨by rfl, ?_⟩) ?_ ?_
                  rotate_left
                  · intro w'
                    go_simp
                    with_reducible rfl
                  rotate_left
                  · simp only [Act.put, List.setIfInBounds_toArray, List.set_cons_zero, List.set_cons_succ, i64_w, i32_w]
                    rfl
                  refine pure_ (i := 29) (N := some 4) (v := ?_) (a' := ?_) #[true, true, true, true, true, true, true, true, true, true, true, true, true, true, true, true, true, true, true, true, true, true, true, true, true, true, true, true, true, true] rfl rfl (any_of HT_.out (by kernel_rfl)) (fun _ _ _ h => h) (Or.inl ⟨by rfl, ?_⟩) ?_ ?_
                  rotate_left
                  · intro w'
                    go_simp
                    with_reducible rfl
                  rotate_left
                  · simp only [Act.put, List.setIfInBounds_toArray, List.set_cons_zero, List.set_cons_succ, i64_w, i32_w]
                    rfl
                  refine done_ (done_of HT_.out (by kernel_rfl)) ?_
                  try go_wp2
                  go_ret
                  exact ⟨by first | rfl | (simp [errW_none, errW_some] <;> rfl) | (simp [*, errW_none, errW_some] <;> rfl), by repeat (first | (with_reducible first | exact HB.out | apply below_alloc | apply pw_below_drewN | apply below_drew1 | refine below_set ?_ GE194.out) | exact HB.out)⟩
end Go.Proofs.Ytmhioeoioohmpaa.QAg
namespace Go.Proofs.Ytmhioeoioohmpaa.RefSet
open Go.RowKit Go.Proofs.Ytmhioeoioohmpaa.QAg Go.Proofs.YtmhioeoioohmpaaW.PrintWords Go.Proofs.YtmhioeoioohmpaaW.PrintLast Go.Proofs.YtmhioeoioohmpaaW.PrintMore
set_option linter.unusedVariables false
theorem evp {α : Type} {c : Prop} [Decidable c] {f g : Nat → Option α} {r : α} (h : c) (k : Ev f r) : Ev (fun n => if c then f n else g n) r := Ev.congr (fun _ => if_pos h) k
theorem evn {α : Type} {c : Prop} [Decidable c] {f g : Nat → Option α} {r : α} (h : ¬ c) (k : Ev g r) : Ev (fun n => if c then f n else g n) r := Ev.congr (fun _ => if_neg h) k
theorem evb {α β : Type} {o : Option α} {f : Nat → α → Option β} {a : α} {r : β} (h : o = some a) (k : Ev (fun n => f n a) r) : Ev (fun n => o.bind (f n)) r := Ev.congr (fun n => by rw [h]; rfl) k
def Ends {α : Type} (g : Nat → Option α) : Prop := ∃ r, Ev g r
theorem endsNow {α : Type} (r : α) : Ends (fun _ => some r) := ⟨r, Ev.now r⟩
theorem endsStep {α : Type} {g f : Nat → Option α} (h : ∀ k, g (k + 1) = f k) (k : Ends f) : Ends g := let ⟨r, e⟩ := k; ⟨r, Ev.step h e⟩
theorem endsIf {α : Type} {c : Prop} [Decidable c] {f g : Nat → Option α} (h : c → Ends f) (k : ¬ c → Ends g) : Ends (fun n => if c then f n else g n) := by
  by_cases hc : c
  · obtain ⟨r, e⟩ := h hc; exact ⟨r, evp hc e⟩
  · obtain ⟨r, e⟩ := k hc; exact ⟨r, evn hc e⟩
theorem endsBind {α β : Type} {g : Nat → Option α} {f : Nat → α → Option β} (h : Ends g) (k : ∀ a, Ends (fun n => f n a)) : Ends (fun n => (g n).bind (f n)) := by
  obtain ⟨a, e⟩ := h
  obtain ⟨r, e'⟩ := k a
  exact ⟨r, Ev.bind e e'⟩
theorem endsAt {α β : Type} {o : Option α} {f : Nat → α → Option β} {a : α} (h : o = some a) (k : Ends (fun n => f n a)) : Ends (fun n => o.bind (f n)) := let ⟨r, e⟩ := k; ⟨r, evb h e⟩
theorem w64 {n : Int} (h0 : -9223372036854775808 ≤ n) (h1 : n ≤ 9223372036854775807) : wrap64 n = n := by unfold wrap64; omega
theorem small_some (c : Int) : ∃ b, taskmasterref4_small.f c = some b := by unfold taskmasterref4_small.f; split <;> exact ⟨_, rfl⟩
theorem digit_some (c : Int) : ∃ b, taskmasterref4_digit.f c = some b := by unfold taskmasterref4_digit.f; split <;> exact ⟨_, rfl⟩
theorem word_loop (s : ByteArray) (l : List ByteArray) (hl : l.length ≤ 100) (d : Nat) : ∀ i : Nat, i + d = l.length → Ends (fun k => taskmasterref4_word.l0 k s l (i : Int)) := by
  induction d with
  | zero =>
    intro i hi
    refine endsStep (fun k => by rw [taskmasterref4_word.l0]) ?_
    exact endsIf (fun h => absurd h (by omega)) (fun _ => endsNow _)
  | succ d ih =>
    intro i hi
    refine endsStep (fun k => by rw [taskmasterref4_word.l0]) ?_
    refine endsIf (fun _ => endsIf (fun _ => endsIf (fun _ => endsNow _) (fun _ => ?_)) (fun h => absurd (Int.natCast_nonneg i) h)) (fun h => absurd (show (i : Int) < (l.length : Int) by omega) h)
    rw [w64 (by omega) (by omega)]
    exact ih (i + 1) (by omega)
theorem word_ends (s : ByteArray) : Ends (fun k => taskmasterref4_word.f k s) := by
  unfold taskmasterref4_word.f
  refine endsAt (show taskmasterref4_Words.f = some _ from rfl) ?_
  exact word_loop s _ (by decide) 10 0 (by decide)
theorem one_j3 (s : ByteArray) (i : Int) (h0 : 0 ≤ i) (h1 : i ≤ s.size) : Ends (fun k => taskmasterref4_one.j3 k s i) := by
  refine endsStep (fun k => by rw [taskmasterref4_one.j3]) ?_
  refine endsIf (fun _ => endsIf (fun _ => ?_) (fun h => absurd h1 h)) (fun h => absurd h0 h)
  refine endsBind (word_ends _) (fun b => ?_)
  exact endsIf (fun _ => endsNow _) (fun _ => endsIf (fun _ => endsNow _) (fun _ => endsNow _))
theorem one_l1 (s : ByteArray) (hs : s.size ≤ 9223372036854775807) (d : Nat) : ∀ i : Int, 0 ≤ i → i ≤ s.size → (s.size : Int) - i = d → Ends (fun k => taskmasterref4_one.l1 k s i) := by
  induction d with
  | zero =>
    intro i h0 h1 hd
    refine endsStep (fun k => by rw [taskmasterref4_one.l1]) ?_
    exact endsIf (fun h => absurd h (by omega)) (fun _ => one_j3 s i h0 h1)
  | succ d ih =>
    intro i h0 h1 hd
    refine endsStep (fun k => by rw [taskmasterref4_one.l1]) ?_
    have more : Ends (fun k => taskmasterref4_one.l1 k s (wrap64 (i + 1))) := by
      rw [w64 (by omega) (by omega)]; exact ih (i + 1) (by omega) (by omega) (by omega)
    refine endsIf (fun _ => endsIf (fun _ => ?_) (fun h => absurd h0 h)) (fun _ => one_j3 s i h0 h1)
    obtain ⟨b, hb⟩ := small_some (bt s i)
    refine endsAt hb (endsIf (fun _ => more) (fun _ => ?_))
    obtain ⟨c, hc⟩ := digit_some (bt s i)
    exact endsAt hc (endsIf (fun _ => more) (fun _ => endsIf (fun _ => more) (fun _ => one_j3 s i h0 h1)))
theorem one_no (s : ByteArray) (i v : Int) (h0 : 0 < (s.size : Int)) : Ends (fun k => taskmasterref4_one.j1 k s i v false) := by
  refine endsStep (fun k => by rw [taskmasterref4_one.j1]) ?_
  exact endsIf (fun h => by cases h) (fun _ => endsIf (fun _ => endsNow _) (fun _ => endsIf (fun _ => endsIf (fun _ => endsIf (fun _ => endsNow _) (fun _ => endsNow _)) (fun h => absurd h0 h)) (fun _ => endsNow _)))
theorem one_l0 (s : ByteArray) (hs : s.size ≤ 9223372036854775807) (h00 : 0 < (s.size : Int)) (d : Nat) : ∀ i v : Int, 0 ≤ i → i ≤ s.size → (s.size : Int) - i = d → Ends (fun k => taskmasterref4_one.l0 k s i v) := by
  induction d with
  | zero =>
    intro i v h0 h1 hd
    refine endsStep (fun k => by rw [taskmasterref4_one.l0]) ?_
    exact endsIf (fun h => absurd h (by omega)) (fun _ => one_no s i v h00)
  | succ d ih =>
    intro i v h0 h1 hd
    refine endsStep (fun k => by rw [taskmasterref4_one.l0]) ?_
    have more : ∀ v', Ends (fun k => taskmasterref4_one.l0 k s (wrap64 (i + 1)) v') := fun v' => by
      rw [w64 (by omega) (by omega)]; exact ih (i + 1) v' (by omega) (by omega) (by omega)
    refine endsIf (fun hlt => endsIf (fun _ => ?_) (fun h => absurd h0 h)) (fun _ => one_no s i v h00)
    obtain ⟨b, hb⟩ := digit_some (bt s i)
    refine endsAt hb ?_
    cases b with
    | false => exact one_no s i v h00
    | true =>
      refine endsStep (fun k => by rw [taskmasterref4_one.j1]) ?_
      exact endsIf (fun _ => endsIf (fun _ => endsIf (fun _ => endsIf (fun _ => more _) (fun h => absurd hlt h)) (fun h => absurd h0 h)) (fun _ => more _)) (fun h => absurd rfl h)
theorem one_ends (s : ByteArray) (hs : s.size ≤ 9223372036854775807) (h0 : 0 < (s.size : Int)) : Ends (fun k => taskmasterref4_one.f k s) := by
  unfold taskmasterref4_one.f
  refine endsIf (fun _ => endsIf (fun _ => endsNow _) (fun _ => ?_)) (fun h => absurd h0 h)
  obtain ⟨b, hb⟩ := digit_some (bt s 0)
  refine endsAt hb (endsIf (fun _ => one_l0 s hs h0 s.size 0 0 (by omega) (by omega) (by omega)) (fun _ => ?_))
  obtain ⟨c, hc⟩ := small_some (bt s 0)
  exact endsAt hc (endsIf (fun _ => one_l1 s hs s.size 0 (by omega) (by omega) (by omega)) (fun _ => endsNow _))
theorem name_ends (s : ByteArray) (hs : s.size ≤ 9223372036854775807) : Ends (fun k => taskmasterref4_Name.f k s) := by
  unfold taskmasterref4_Name.f
  refine endsIf (fun _ => endsNow _) (fun hz => endsIf (fun h0 => ?_) (fun h => absurd (show 0 < (s.size : Int) by omega) h))
  obtain ⟨b, hb⟩ := small_some (bt s 0)
  refine endsAt hb (endsIf (fun _ => ?_) (fun _ => endsNow _))
  exact endsBind (one_ends s hs h0) (fun _ => endsIf (fun _ => endsNow _) (fun _ => endsNow _))
def sum : List Int → Int
  | [] => 0
  | x :: l => x + sum l
theorem rd_drop {l : List Int} {i : Nat} (h : i < l.length) : l.drop i = rd l (i : Int) :: l.drop (i + 1) := by
  rw [List.drop_eq_getElem_cons h]; unfold rd
  rw [Int.toNat_natCast, List.getD_eq_getElem?_getD, List.getElem?_eq_getElem h]; rfl
theorem in_eq (n a b : Int) : taskmasterref5_in.f n a b = some (decide (a ≤ n ∧ n ≤ b)) := by
  unfold taskmasterref5_in.f
  by_cases h : a ≤ n
  · rw [if_pos (show n ≥ a from h)]; simp [h]
  · rw [if_neg (show ¬ n ≥ a from h)]; simp [h]
theorem sum_bound {l : List Int} (h : ∀ x ∈ l, 1 ≤ x ∧ x ≤ 10000) : (l.length : Int) ≤ sum l ∧ sum l ≤ 10000 * l.length := by
  induction l with
  | nil => simp [sum]
  | cons x l ih =>
    have h1 := ih (fun y hy => h y (List.mem_cons_of_mem _ hy))
    have h2 := h x List.mem_cons_self
    simp only [sum, List.length_cons, Int.natCast_add, Int.natCast_one]
    omega
theorem work_loop (s : ByteArray) (a1 a2 a3 a4 a5 : Int) (l : List Int) (a7 a8 : Int) (hl : l.length ≤ 8) (h : ∀ x ∈ l, 1 ≤ x ∧ x ≤ 10000) (d : Nat) : ∀ (k i : Nat) (acc : Int), i + d = l.length → d < k → 0 ≤ acc → acc ≤ 10000 * i →
    taskmasterref5_Work.l0 k acc (i : Int) s a1 a2 a3 a4 a5 l a7 a8 = some (acc + sum (l.drop i)) := by
  induction d with
  | zero =>
    intro k i acc hi hk h0 h1
    obtain ⟨k, rfl⟩ : ∃ m, k = m + 1 := ⟨k - 1, by omega⟩
    simp only [taskmasterref5_Work.l0]
    rw [if_neg (by omega), List.drop_eq_nil_of_le (by omega)]; simp [sum]
  | succ d ih =>
    intro k i acc hi hk h0 h1
    obtain ⟨k, rfl⟩ : ∃ m, k = m + 1 := ⟨k - 1, by omega⟩
    have hlt : i < l.length := by omega
    have hm : rd l (i : Int) ∈ l := by
      unfold rd; rw [Int.toNat_natCast, List.getD_eq_getElem?_getD, List.getElem?_eq_getElem hlt]; exact List.getElem_mem hlt
    have hx := h _ hm
    simp only [taskmasterref5_Work.l0]
    rw [if_pos (by omega), if_pos (by omega), w64 (n := acc + rd l (i : Int)) (by omega) (by omega), w64 (n := (i : Int) + 1) (by omega) (by omega), rd_drop hlt]
    have := ih k (i + 1) (acc + rd l (i : Int)) (by omega) (by omega) (by omega) (by omega)
    rw [show ((i + 1 : Nat) : Int) = (i : Int) + 1 by omega] at this
    rw [this]
    simp only [sum]
    rw [Int.add_assoc]
theorem work_eq (s : ByteArray) (a1 a2 a3 a4 a5 : Int) (l : List Int) (a7 a8 : Int) (hl : l.length ≤ 8) (h : ∀ x ∈ l, 1 ≤ x ∧ x ≤ 10000) (k : Nat) (hk : 8 < k) : taskmasterref5_Work.f k s a1 a2 a3 a4 a5 l a7 a8 = some (sum l) := by
  unfold taskmasterref5_Work.f
  have := work_loop s a1 a2 a3 a4 a5 l a7 a8 hl h l.length k 0 0 (by omega) (by omega) (by omega) (by omega)
  rw [List.drop_zero, Int.zero_add] at this
  exact this
def TaskOK (x : S31) (p : Int) : Prop :=
  1 ≤ x.f6.length ∧ x.f6.length ≤ 8 ∧ Go.bits .andNot .u64 x.f8 x.f7 = 0 ∧ (∀ r ∈ x.f6, 1 ≤ r ∧ r ≤ 10000) ∧ sum x.f6 ≤ x.f2 ∧ x.f2 ≤ x.f1 ∧ x.f1 ≤ 10000 ∧
  ((x.f3 = 0 ∧ x.f4 = 0 ∧ x.f5 = 0) ∨ (x.f3 = 1 ∧ 0 ≤ x.f4 ∧ x.f4 ≤ 10000 ∧ x.f5 = 0) ∨ (x.f3 = 2 ∧ x.f4 = 0 ∧ 0 ≤ x.f5 ∧ x.f5 ≤ p))
theorem is_loop (x : S31) (p : Int) (h1 : 1 ≤ x.f6.length) (h8 : x.f6.length ≤ 8) (hb : Go.bits .andNot .u64 x.f8 x.f7 = 0) (d : Nat) : ∀ i : Nat, i + d = x.f6.length → (∀ j : Nat, j < i → 1 ≤ rd x.f6 (j : Int) ∧ rd x.f6 (j : Int) ≤ 10000) →
    ∃ b, Ev (fun k => taskmasterref5_Is.l0 k p (i : Int) x.f0 x.f1 x.f2 x.f3 x.f4 x.f5 x.f6 x.f7 x.f8) b ∧ (b = true → TaskOK x p) := by
  induction d with
  | zero =>
    intro i hi hall
    have hr : ∀ r ∈ x.f6, 1 ≤ r ∧ r ≤ 10000 := fun r hm => by
      obtain ⟨j, hj, rfl⟩ := List.mem_iff_getElem.1 hm
      have := hall j (by omega)
      unfold rd at this
      rw [Int.toNat_natCast, List.getD_eq_getElem?_getD, List.getElem?_eq_getElem hj] at this
      exact this
    have hw : Ev (fun k => taskmasterref5_Work.f k x.f0 x.f1 x.f2 x.f3 x.f4 x.f5 x.f6 x.f7 x.f8) (sum x.f6) := ⟨9, fun k hk => work_eq _ _ _ _ _ _ _ _ _ h8 hr k (by omega)⟩
    have no : Ev (fun k => taskmasterref5_Is.j2 k p true x.f0 x.f1 x.f2 x.f3 x.f4 x.f5 x.f6 x.f7 x.f8) false := Ev.step (fun k => by rw [taskmasterref5_Is.j2, if_pos rfl]) (Ev.now false)
    by_cases c1 : sum x.f6 > x.f2
    · refine ⟨false, Ev.step (fun k => by rw [taskmasterref5_Is.l0]) (evn (by omega) (Ev.bind hw (evp c1 no))), fun h => by cases h⟩
    · by_cases c2 : x.f2 > x.f1
      · refine ⟨false, Ev.step (fun k => by rw [taskmasterref5_Is.l0]) (evn (by omega) (Ev.bind hw (evn c1 (evp c2 no)))), fun h => by cases h⟩
      · by_cases c3 : x.f1 > 10000
        · refine ⟨false, Ev.step (fun k => by rw [taskmasterref5_Is.l0]) (evn (by omega) (Ev.bind hw (evn c1 (evn c2 ?_)))), fun h => by cases h⟩
          rw [decide_eq_true c3]; exact no
        · have base : ∀ {b : Bool}, Ev (fun k => taskmasterref5_Is.j2 k p false x.f0 x.f1 x.f2 x.f3 x.f4 x.f5 x.f6 x.f7 x.f8) b → Ev (fun k => taskmasterref5_Is.l0 k p (i : Int) x.f0 x.f1 x.f2 x.f3 x.f4 x.f5 x.f6 x.f7 x.f8) b := fun hb => by
            refine Ev.step (fun k => by rw [taskmasterref5_Is.l0]) (evn (by omega) (Ev.bind hw (evn c1 (evn c2 ?_))))
            rw [decide_eq_false c3]; exact hb
          have ok : ∀ (_ : (x.f3 = 0 ∧ x.f4 = 0 ∧ x.f5 = 0) ∨ (x.f3 = 1 ∧ 0 ≤ x.f4 ∧ x.f4 ≤ 10000 ∧ x.f5 = 0) ∨ (x.f3 = 2 ∧ x.f4 = 0 ∧ 0 ≤ x.f5 ∧ x.f5 ≤ p)), TaskOK x p := fun hm => ⟨h1, h8, hb, hr, by omega, by omega, by omega, hm⟩
          by_cases m0 : x.f3 = 0
          · by_cases q0 : x.f4 = 0
            · refine ⟨x.f5 == 0, base (Ev.step (fun k => by rw [taskmasterref5_Is.j2, if_neg (by simp), if_pos m0, if_pos q0]) (Ev.now _)), fun h => ok (Or.inl ⟨m0, q0, by simpa using h⟩)⟩
            · exact ⟨false, base (Ev.step (fun k => by rw [taskmasterref5_Is.j2, if_neg (by simp), if_pos m0, if_neg q0]) (Ev.now _)), fun h => by cases h⟩
          · by_cases m1 : x.f3 = 1
            · by_cases q0 : 0 ≤ x.f4 ∧ x.f4 ≤ 10000
              · refine ⟨x.f5 == 0, base (Ev.step (fun k => by rw [taskmasterref5_Is.j2, if_neg (by simp), if_neg m0, if_pos m1, in_eq, decide_eq_true q0, Option.bind_some, if_pos rfl]) (Ev.now _)), fun h => ok (Or.inr (Or.inl ⟨m1, q0.1, q0.2, by simpa using h⟩))⟩
              · exact ⟨false, base (Ev.step (fun k => by rw [taskmasterref5_Is.j2, if_neg (by simp), if_neg m0, if_pos m1, in_eq, decide_eq_false q0, Option.bind_some, if_neg (by simp)]) (Ev.now _)), fun h => by cases h⟩
            · by_cases m2 : x.f3 = 2
              · by_cases q0 : x.f4 = 0
                · by_cases t0 : x.f5 ≥ 0
                  · refine ⟨decide (x.f5 ≤ p), base (Ev.step (fun k => by rw [taskmasterref5_Is.j2, if_neg (by simp), if_neg m0, if_neg m1, if_pos m2, if_pos q0, if_pos t0]) (Ev.now _)), fun h => ok (Or.inr (Or.inr ⟨m2, q0, t0, of_decide_eq_true h⟩))⟩
                  · exact ⟨false, base (Ev.step (fun k => by rw [taskmasterref5_Is.j2, if_neg (by simp), if_neg m0, if_neg m1, if_pos m2, if_pos q0, if_neg t0]) (Ev.now _)), fun h => by cases h⟩
                · exact ⟨false, base (Ev.step (fun k => by rw [taskmasterref5_Is.j2, if_neg (by simp), if_neg m0, if_neg m1, if_pos m2, if_neg q0]) (Ev.now _)), fun h => by cases h⟩
              · exact ⟨false, base (Ev.step (fun k => by rw [taskmasterref5_Is.j2, if_neg (by simp), if_neg m0, if_neg m1, if_neg m2]) (Ev.now _)), fun h => by cases h⟩
  | succ d ih =>
    intro i hi hall
    by_cases c : 1 ≤ rd x.f6 (i : Int) ∧ rd x.f6 (i : Int) ≤ 10000
    · obtain ⟨b, e, hb'⟩ := ih (i + 1) (by omega) (fun j hj => by
        by_cases hji : j = i
        · subst hji; exact c
        · exact hall j (by omega))
      refine ⟨b, Ev.step (fun k => by rw [taskmasterref5_Is.l0]) (evp (by omega) (evp (by omega) (evb (in_eq _ _ _) (evp (decide_eq_true c) ?_)))), hb'⟩
      rw [w64 (by omega) (by omega)]; exact e
    · have hc : ¬ (decide (1 ≤ rd x.f6 (i : Int) ∧ rd x.f6 (i : Int) ≤ 10000) = true) := fun h => c (of_decide_eq_true h)
      exact ⟨false, Ev.step (fun k => by rw [taskmasterref5_Is.l0]) (evp (by omega) (evp (by omega) (evb (in_eq _ _ _) (evn hc (Ev.now false))))), fun h => by cases h⟩
theorem is_ends (x : S31) (p : Int) (hs : x.f0.size ≤ 9223372036854775807) : ∃ b, Ev (fun k => taskmasterref5_Is.f k x.f0 x.f1 x.f2 x.f3 x.f4 x.f5 x.f6 x.f7 x.f8 p) b ∧ (b = true → TaskOK x p) := by
  unfold taskmasterref5_Is.f
  obtain ⟨n, hn⟩ := name_ends x.f0 hs
  have no : Ev (fun k => taskmasterref5_Is.j0 k p true x.f0 x.f1 x.f2 x.f3 x.f4 x.f5 x.f6 x.f7 x.f8) false := Ev.step (fun k => by rw [taskmasterref5_Is.j0, if_pos rfl]) (Ev.now false)
  by_cases c0 : n = true
  · by_cases c1 : (x.f6.length : Int) < 1
    · exact ⟨false, Ev.bind hn (evp c0 (evp c1 no)), fun h => by cases h⟩
    · by_cases c2 : (x.f6.length : Int) > 8
      · exact ⟨false, Ev.bind hn (evp c0 (evn c1 (evp c2 no))), fun h => by cases h⟩
      · by_cases c3 : Go.bits .andNot .u64 x.f8 x.f7 = 0
        · obtain ⟨b, e, hb⟩ := is_loop x p (by omega) (by omega) c3 x.f6.length 0 (by omega) (fun j hj => absurd hj (Nat.not_lt_zero _))
          refine ⟨b, Ev.bind hn (evp c0 (evn c1 (evn c2 (Ev.step (fun k => by rw [taskmasterref5_Is.j0, if_neg (by rw [c3]; simp)]; rfl) e)))), hb⟩
        · refine ⟨false, Ev.bind hn (evp c0 (evn c1 (evn c2 ?_))), fun h => by cases h⟩
          rw [show (Go.bits .andNot .u64 x.f8 x.f7 != 0) = true by simpa using c3]; exact no
  · exact ⟨false, Ev.bind hn (evn c0 no), fun h => by cases h⟩
def SetOK (r : Int) (l : List S31) : Prop := 0 ≤ r ∧ r ≤ 10000 ∧ 1 ≤ l.length ∧ l.length ≤ 8 ∧ ∀ i : Int, 0 ≤ i → i < l.length → TaskOK (rd_T31 l i) i
theorem all_loops (r : Int) (l : List S31) (h0 : 0 ≤ r) (h1 : r ≤ 10000) (h2 : 1 ≤ l.length) (h8 : l.length ≤ 8) (hs : ∀ y ∈ l, y.f0.size ≤ 9223372036854775807) (d : Nat) : ∀ i : Nat, i + d = l.length → (∀ j : Int, 0 ≤ j → j < i → TaskOK (rd_T31 l j) j) →
    ∃ b, Ev (fun k => taskmasterref5_All.l0 k (i : Int) r l) b ∧ (b = true → SetOK r l) := by
  induction d with
  | zero =>
    intro i hi hall
    exact ⟨true, Ev.step (fun k => by rw [taskmasterref5_All.l0]) (evn (by omega) (Ev.now true)), fun _ => ⟨h0, h1, h2, h8, fun j a b => hall j a (by omega)⟩⟩
  | succ d ih =>
    intro i hi hall
    have hlt : i < l.length := by omega
    have hm : rd_T31 l (i : Int) ∈ l := by
      unfold rd_T31; rw [Int.toNat_natCast, List.getD_eq_getElem?_getD, List.getElem?_eq_getElem hlt]; exact List.getElem_mem hlt
    obtain ⟨t, ht, hok⟩ := is_ends (rd_T31 l (i : Int)) (i : Int) (hs _ hm)
    by_cases c : t = true
    · obtain ⟨b, e, hb⟩ := ih (i + 1) (by omega) (fun j a q => by
        by_cases hji : j = i
        · subst hji; exact hok c
        · exact hall j a (by omega))
      have inner : ∀ d' j : Nat, j + d' = i → ∃ b', Ev (fun k => taskmasterref5_All.l1 k (i : Int) (j : Int) r l) b' ∧ (b' = true → SetOK r l) := by
        intro d'
        induction d' with
        | zero =>
          intro j hj
          refine ⟨b, Ev.step (fun k => by rw [taskmasterref5_All.l1]) (evn (by omega) ?_), hb⟩
          rw [w64 (by omega) (by omega)]; exact e
        | succ d' ih' =>
          intro j hj
          by_cases q : ((rd_T31 l (j : Int)).f0).toList = ((rd_T31 l (i : Int)).f0).toList
          · exact ⟨false, Ev.step (fun k => by rw [taskmasterref5_All.l1]) (evp (by omega) (evp (by omega) (evp (by omega) (evp (by omega) (evp (by omega) (evp q (Ev.now false))))))), fun h => by cases h⟩
          · obtain ⟨b', e', hb'⟩ := ih' (j + 1) (by omega)
            refine ⟨b', Ev.step (fun k => by rw [taskmasterref5_All.l1]) (evp (by omega) (evp (by omega) (evp (by omega) (evp (by omega) (evp (by omega) (evn q ?_)))))), hb'⟩
            rw [w64 (by omega) (by omega)]; exact e'
      obtain ⟨b', e', hb'⟩ := inner i 0 (by omega)
      exact ⟨b', Ev.step (fun k => by rw [taskmasterref5_All.l0]) (evp (by omega) (evp (by omega) (Ev.bind ht (evp c e')))), hb'⟩
    · exact ⟨false, Ev.step (fun k => by rw [taskmasterref5_All.l0]) (evp (by omega) (evp (by omega) (Ev.bind ht (evn c (Ev.now false))))), fun h => by cases h⟩
theorem all_ends (r : Int) (l : List S31) (hs : ∀ y ∈ l, y.f0.size ≤ 9223372036854775807) : ∃ b, Ev (fun k => taskmasterref5_All.f k r l) b ∧ (b = true → SetOK r l) := by
  unfold taskmasterref5_All.f
  have no : Ev (fun k => taskmasterref5_All.j0 k true r l) false := Ev.step (fun k => by rw [taskmasterref5_All.j0, if_pos rfl]) (Ev.now false)
  by_cases c0 : 0 ≤ r ∧ r ≤ 10000
  · by_cases c1 : (l.length : Int) < 1
    · exact ⟨false, evb (in_eq _ _ _) (evp (decide_eq_true c0) (evp c1 no)), fun h => by cases h⟩
    · by_cases c2 : (l.length : Int) > 8
      · refine ⟨false, evb (in_eq _ _ _) (evp (decide_eq_true c0) (evn c1 ?_)), fun h => by cases h⟩
        rw [decide_eq_true c2]; exact no
      · obtain ⟨b, e, hb⟩ := all_loops r l c0.1 c0.2 (by omega) (by omega) hs l.length 0 (by omega) (fun j a q => absurd q (by omega))
        refine ⟨b, evb (in_eq _ _ _) (evp (decide_eq_true c0) (evn c1 ?_)), hb⟩
        rw [decide_eq_false c2]
        exact Ev.step (fun k => by rw [taskmasterref5_All.j0, if_neg (by simp)]; rfl) e
  · have hc : ¬ (decide (0 ≤ r ∧ r ≤ 10000) = true) := fun h => c0 (of_decide_eq_true h)
    exact ⟨false, evb (in_eq _ _ _) (evn hc no), fun h => by cases h⟩
end Go.Proofs.Ytmhioeoioohmpaa.RefSet
namespace Go.Proofs.Ytmhioeoioohmpaa.BitsMath
set_option linter.unusedVariables false
def pop : Nat → Nat → Nat
  | 0, _ => 0
  | n + 1, x => x % 2 + pop n (x / 2)
theorem pop_le : ∀ (n x : Nat), pop n x ≤ n
  | 0, _ => Nat.le_refl _
  | n + 1, x => by have := pop_le n (x / 2); unfold pop; omega
theorem pop_add (a : Nat) : ∀ (b x : Nat), pop (b + a) x = pop b x + pop a (x / 2 ^ b)
  | 0, x => by simp [pop]
  | b + 1, x => by
    rw [show b + 1 + a = (b + a) + 1 by omega]
    show x % 2 + pop (b + a) (x / 2) = x % 2 + pop b (x / 2) + _
    rw [pop_add a b (x / 2), Nat.div_div_eq_div_mul, show 2 * 2 ^ b = 2 ^ (b + 1) by rw [Nat.pow_succ, Nat.mul_comm]]
    omega
theorem pop_mod (b : Nat) : ∀ (x : Nat), pop b (x % 2 ^ b) = pop b x := by
  induction b with
  | zero => intro x; rfl
  | succ b ih =>
    intro x
    unfold pop
    have h1 : x % 2 ^ (b + 1) % 2 = x % 2 := Nat.mod_mod_of_dvd _ ⟨2 ^ b, by rw [Nat.pow_succ, Nat.mul_comm]⟩
    have h2 : x % 2 ^ (b + 1) / 2 = x / 2 % 2 ^ b := by
      rw [Nat.pow_succ, Nat.mul_comm, Nat.mod_mul_right_div_self]
    rw [h1, h2, ih]
theorem pop_byte (n r q : Nat) (hr : r < 256) : pop (8 + n) (r + 256 * q) = pop 8 r + pop n q := by
  rw [pop_add n 8]
  have e : (r + 256 * q) / 2 ^ 8 = q := by omega
  rw [e]
  have e2 : pop 8 (r + 256 * q) = pop 8 r := by
    rw [← pop_mod 8 (r + 256 * q), show (r + 256 * q) % 2 ^ 8 = r by omega]
  rw [e2]
theorem and_byte (r q m M : Nat) (hr : r < 256) (hm : m < 256) : (r + 256 * q) &&& (m + 256 * M) = (r &&& m) + 256 * (q &&& M) := by
  have h1 : (r &&& m) < 256 := Nat.lt_of_le_of_lt Nat.and_le_left hr
  apply Nat.eq_of_testBit_eq
  intro i
  rw [Nat.testBit_and, Nat.add_comm r, Nat.add_comm m, Nat.add_comm (r &&& m), show (256 : Nat) = 2 ^ 8 from rfl, Nat.testBit_two_pow_mul_add _ hr, Nat.testBit_two_pow_mul_add _ hm, Nat.testBit_two_pow_mul_add _ h1]
  split
  · rw [Nat.testBit_and]
  · rw [Nat.testBit_and]
def st1 (M x : Nat) : Nat := (x / 2 &&& M) + (x &&& M)
def st2 (M x : Nat) : Nat := (x / 4 &&& M) + (x &&& M)
def st3 (M x : Nat) : Nat := (x / 16 + x) &&& M
theorem low1 : ∀ r, r < 256 → ∀ e, e < 2 → (r / 2 + 128 * e) &&& 85 = r / 2 &&& 85 := by decide +kernel
theorem low2 : ∀ r, r < 256 → ∀ e, e < 4 → (r / 4 + 64 * e) &&& 51 = r / 4 &&& 51 := by decide +kernel
theorem st1_byte (r q M : Nat) (hr : r < 256) : st1 (85 + 256 * M) (r + 256 * q) = st1 85 r + 256 * st1 M q := by
  unfold st1
  have e : (r + 256 * q) / 2 = (r / 2 + 128 * (q % 2)) + 256 * (q / 2) := by omega
  rw [e, and_byte _ _ 85 M (by omega) (by omega), and_byte r q 85 M hr (by omega), low1 r hr _ (by omega), Nat.mul_add]
  omega
theorem st2_byte (r q M : Nat) (hr : r < 256) : st2 (51 + 256 * M) (r + 256 * q) = st2 51 r + 256 * st2 M q := by
  unfold st2
  have e : (r + 256 * q) / 4 = (r / 4 + 64 * (q % 4)) + 256 * (q / 4) := by omega
  rw [e, and_byte _ _ 51 M (by omega) (by omega), and_byte r q 51 M hr (by omega), low2 r hr _ (by omega), Nat.mul_add]
  omega
theorem low3 : ∀ r, r < 103 → ∀ e, e < 5 → r / 16 ≤ 4 → r % 16 ≤ 4 → (r / 16 + 16 * e + r) &&& 15 = (r / 16 + r) &&& 15 := by decide +kernel
theorem st3_byte (r q M : Nat) (hr : r < 103) (h1 : r / 16 ≤ 4) (h2 : r % 16 ≤ 4) (hq : q % 16 ≤ 4) : st3 (15 + 256 * M) (r + 256 * q) = st3 15 r + 256 * st3 M q := by
  unfold st3
  have e : (r + 256 * q) / 16 + (r + 256 * q) = (r / 16 + 16 * (q % 16) + r) + 256 * (q / 16 + q) := by omega
  rw [e, and_byte _ _ 15 M (by omega) (by omega), low3 r hr _ (by omega) h1 h2]
theorem byte_tells : ∀ r, r < 256 → st1 85 r < 256 ∧ st2 51 (st1 85 r) < 103 ∧ st2 51 (st1 85 r) / 16 ≤ 4 ∧ st2 51 (st1 85 r) % 16 ≤ 4 ∧ st3 15 (st2 51 (st1 85 r)) = pop 8 r := by decide +kernel
def rep (m : Nat) : Nat → Nat
  | 0 => 0
  | k + 1 => m + 256 * rep m k
def bsum : Nat → Nat → Nat
  | 0, _ => 0
  | k + 1, x => pop 8 (x % 256) + 256 * bsum k (x / 256)
theorem st_zero (M : Nat) : st1 M 0 = 0 ∧ st2 M 0 = 0 ∧ st3 M 0 = 0 := by
  unfold st1 st2 st3
  simp
theorem steps : ∀ (k x : Nat), x < 256 ^ k → (st2 (rep 51 k) (st1 (rep 85 k) x)) % 16 ≤ 4 ∧ st3 (rep 15 k) (st2 (rep 51 k) (st1 (rep 85 k) x)) = bsum k x
  | 0, x, h => by
    obtain rfl : x = 0 := by simpa using h
    rw [(st_zero _).1, (st_zero _).2.1, (st_zero _).2.2]
    exact ⟨by omega, rfl⟩
  | k + 1, x, h => by
    have hx : x = x % 256 + 256 * (x / 256) := by omega
    have hq : x / 256 < 256 ^ k := by
      rw [Nat.div_lt_iff_lt_mul (by omega), ← Nat.pow_succ]; exact h
    obtain ⟨i1, i2⟩ := steps k (x / 256) hq
    obtain ⟨b1, b2, b3, b4, b5⟩ := byte_tells (x % 256) (by omega)
    have e1 : st1 (rep 85 (k + 1)) x = st1 85 (x % 256) + 256 * st1 (rep 85 k) (x / 256) := by
      conv => lhs; rw [hx]
      exact st1_byte _ _ _ (by omega)
    have e2 : st2 (rep 51 (k + 1)) (st1 (rep 85 (k + 1)) x) = st2 51 (st1 85 (x % 256)) + 256 * st2 (rep 51 k) (st1 (rep 85 k) (x / 256)) := by
      rw [e1]; exact st2_byte _ _ _ b1
    rw [e2]
    refine ⟨by omega, ?_⟩
    show st3 (15 + 256 * rep 15 k) _ = _
    rw [st3_byte _ _ _ b2 b3 b4 i1, i2, b5]; rfl
theorem pop8_le (x : Nat) : pop 8 x ≤ 8 := pop_le 8 x
theorem part_low {y a b : Nat} (ha : a < 256) (hy : y = a + 256 * b) : y / 256 = b := by omega
theorem part_low' {y a b : Nat} (ha : a < 65536) (hy : y = a + 65536 * b) : y / 65536 = b := by omega
theorem part_low'' {y a b : Nat} (ha : a < 4294967296) (hy : y = a + 4294967296 * b) : y / 4294967296 = b := by omega
theorem part_mod {s t : Nat} (hs : s < 128) : (s + 256 * t) % 128 = s := by omega
theorem id0 (c0 c1 c2 c3 c4 c5 c6 c7 : Nat) : c0 + 256 * c1 + 65536 * c2 + 16777216 * c3 + 4294967296 * c4 + 1099511627776 * c5 + 281474976710656 * c6 + 72057594037927936 * c7 = c0 + 256 * (c1 + 256 * (c2 + 256 * (c3 + 256 * (c4 + 256 * (c5 + 256 * (c6 + 256 * c7)))))) := by omega
theorem id1 (c0 c1 c2 c3 c4 c5 c6 c7 : Nat) : (c0 + 256 * c1 + 65536 * c2 + 16777216 * c3 + 4294967296 * c4 + 1099511627776 * c5 + 281474976710656 * c6 + 72057594037927936 * c7) + (c1 + 256 * (c2 + 256 * (c3 + 256 * (c4 + 256 * (c5 + 256 * (c6 + 256 * c7)))))) = ((c0 + c1) + 256 * (c1 + c2)) + 65536 * ((c2 + c3) + 256 * (c3 + c4) + 65536 * ((c4 + c5) + 256 * (c5 + c6) + 65536 * ((c6 + c7) + 256 * c7))) := by omega
theorem id2 (c0 c1 c2 c3 c4 c5 c6 c7 : Nat) : ((c0 + c1) + 256 * (c1 + c2)) + 65536 * ((c2 + c3) + 256 * (c3 + c4) + 65536 * ((c4 + c5) + 256 * (c5 + c6) + 65536 * ((c6 + c7) + 256 * c7))) + ((c2 + c3) + 256 * (c3 + c4) + 65536 * ((c4 + c5) + 256 * (c5 + c6) + 65536 * ((c6 + c7) + 256 * c7))) =
    ((c0 + c1 + c2 + c3) + 256 * (c1 + c2 + c3 + c4) + 65536 * ((c2 + c3 + c4 + c5) + 256 * (c3 + c4 + c5 + c6))) + 4294967296 * ((c4 + c5 + c6 + c7) + 256 * (c5 + c6 + c7) + 65536 * ((c6 + c7) + 256 * c7)) := by omega
theorem id3 (c0 c1 c2 c3 c4 c5 c6 c7 : Nat) : ((c0 + c1 + c2 + c3) + 256 * (c1 + c2 + c3 + c4) + 65536 * ((c2 + c3 + c4 + c5) + 256 * (c3 + c4 + c5 + c6))) + 4294967296 * ((c4 + c5 + c6 + c7) + 256 * (c5 + c6 + c7) + 65536 * ((c6 + c7) + 256 * c7)) + ((c4 + c5 + c6 + c7) + 256 * (c5 + c6 + c7) + 65536 * ((c6 + c7) + 256 * c7)) =
    (c0 + c1 + c2 + c3 + c4 + c5 + c6 + c7) + 256 * ((c1 + c2 + c3 + c4) + (c5 + c6 + c7) + 256 * ((c2 + c3 + c4 + c5) + (c6 + c7) + 256 * (c3 + c4 + c5 + c6 + c7)) + 16777216 * ((c4 + c5 + c6 + c7) + 256 * (c5 + c6 + c7) + 65536 * ((c6 + c7) + 256 * c7))) := by omega
theorem fold_eight (c0 c1 c2 c3 c4 c5 c6 c7 y : Nat) (h0 : c0 ≤ 8) (h1 : c1 ≤ 8) (h2 : c2 ≤ 8) (h3 : c3 ≤ 8) (h4 : c4 ≤ 8) (h5 : c5 ≤ 8) (h6 : c6 ≤ 8) (h7 : c7 ≤ 8)
    (hy : y = c0 + 256 * c1 + 65536 * c2 + 16777216 * c3 + 4294967296 * c4 + 1099511627776 * c5 + 281474976710656 * c6 + 72057594037927936 * c7) :
    y + y / 256 < 18446744073709551616 ∧ (y + y / 256) + (y + y / 256) / 65536 < 18446744073709551616 ∧ (y + y / 256) + (y + y / 256) / 65536 + ((y + y / 256) + (y + y / 256) / 65536) / 4294967296 < 18446744073709551616 ∧
    ((y + y / 256) + (y + y / 256) / 65536 + ((y + y / 256) + (y + y / 256) / 65536) / 4294967296) % 128 = c0 + c1 + c2 + c3 + c4 + c5 + c6 + c7 := by
  have e1 : y / 256 = c1 + 256 * (c2 + 256 * (c3 + 256 * (c4 + 256 * (c5 + 256 * (c6 + 256 * c7))))) := part_low (a := c0) (by clear hy; omega) (by rw [hy]; exact id0 c0 c1 c2 c3 c4 c5 c6 c7)
  have z : y + y / 256 = ((c0 + c1) + 256 * (c1 + c2)) + 65536 * ((c2 + c3) + 256 * (c3 + c4) + 65536 * ((c4 + c5) + 256 * (c5 + c6) + 65536 * ((c6 + c7) + 256 * c7))) := by rw [e1, hy]; exact id1 c0 c1 c2 c3 c4 c5 c6 c7
  clear e1
  generalize y + y / 256 = Z at z ⊢
  have e2 : Z / 65536 = (c2 + c3) + 256 * (c3 + c4) + 65536 * ((c4 + c5) + 256 * (c5 + c6) + 65536 * ((c6 + c7) + 256 * c7)) := part_low' (a := (c0 + c1) + 256 * (c1 + c2)) (by omega) z
  have z2 : Z + Z / 65536 = ((c0 + c1 + c2 + c3) + 256 * (c1 + c2 + c3 + c4) + 65536 * ((c2 + c3 + c4 + c5) + 256 * (c3 + c4 + c5 + c6))) + 4294967296 * ((c4 + c5 + c6 + c7) + 256 * (c5 + c6 + c7) + 65536 * ((c6 + c7) + 256 * c7)) := by rw [e2, z]; exact id2 c0 c1 c2 c3 c4 c5 c6 c7
  have zb : Z < 18446744073709551616 := by rw [z]; clear z2 z e2 hy; omega
  clear e2 z hy
  generalize Z + Z / 65536 = V at z2 ⊢
  have e3 : V / 4294967296 = (c4 + c5 + c6 + c7) + 256 * (c5 + c6 + c7) + 65536 * ((c6 + c7) + 256 * c7) := part_low'' (a := (c0 + c1 + c2 + c3) + 256 * (c1 + c2 + c3 + c4) + 65536 * ((c2 + c3 + c4 + c5) + 256 * (c3 + c4 + c5 + c6))) (by omega) z2
  have vb : V < 18446744073709551616 := by rw [z2]; clear z2 e3 zb; omega
  have z3 : V + V / 4294967296 = (c0 + c1 + c2 + c3 + c4 + c5 + c6 + c7) + 256 * ((c1 + c2 + c3 + c4) + (c5 + c6 + c7) + 256 * ((c2 + c3 + c4 + c5) + (c6 + c7) + 256 * (c3 + c4 + c5 + c6 + c7)) + 16777216 * ((c4 + c5 + c6 + c7) + 256 * (c5 + c6 + c7) + 65536 * ((c6 + c7) + 256 * c7))) := by rw [e3, z2]; exact id3 c0 c1 c2 c3 c4 c5 c6 c7
  clear z2 e3
  refine ⟨zb, vb, by rw [z3]; clear z3 zb vb; omega, ?_⟩
  rw [z3]
  exact part_mod (by clear z3 zb vb; omega)
theorem bsum_eight (x : Nat) : bsum 8 x = pop 8 (x % 256) + 256 * pop 8 (x / 256 % 256) + 65536 * pop 8 (x / 256 / 256 % 256) + 16777216 * pop 8 (x / 256 / 256 / 256 % 256) + 4294967296 * pop 8 (x / 256 / 256 / 256 / 256 % 256) +
    1099511627776 * pop 8 (x / 256 / 256 / 256 / 256 / 256 % 256) + 281474976710656 * pop 8 (x / 256 / 256 / 256 / 256 / 256 / 256 % 256) + 72057594037927936 * pop 8 (x / 256 / 256 / 256 / 256 / 256 / 256 / 256 % 256) := by
  simp only [bsum]; omega
theorem pop_step (n x : Nat) : pop (8 + n) x = pop 8 (x % 256) + pop n (x / 256) := by
  have h := pop_byte n (x % 256) (x / 256) (by omega)
  rw [show x % 256 + 256 * (x / 256) = x by omega] at h
  exact h
theorem pop_eight (x : Nat) : pop 64 x = pop 8 (x % 256) + pop 8 (x / 256 % 256) + pop 8 (x / 256 / 256 % 256) + pop 8 (x / 256 / 256 / 256 % 256) + pop 8 (x / 256 / 256 / 256 / 256 % 256) +
    pop 8 (x / 256 / 256 / 256 / 256 / 256 % 256) + pop 8 (x / 256 / 256 / 256 / 256 / 256 / 256 % 256) + pop 8 (x / 256 / 256 / 256 / 256 / 256 / 256 / 256 % 256) := by
  rw [show (64 : Nat) = 8 + (8 + (8 + (8 + (8 + (8 + (8 + (8 + 0))))))) from rfl, pop_step, pop_step, pop_step, pop_step, pop_step, pop_step, pop_step, pop_step]
  simp only [pop]
  omega
end Go.Proofs.Ytmhioeoioohmpaa.BitsMath
namespace Go.Proofs.Ytmhioeoioohmpaa.BitsPure
open Go.RowKit Go.Proofs.Ytmhioeoioohmpaa.QAg Go.Proofs.YtmhioeoioohmpaaW.PrintWords Go.Proofs.YtmhioeoioohmpaaW.PrintLast Go.Proofs.YtmhioeoioohmpaaW.PrintMore Go.Proofs.Ytmhioeoioohmpaa.BitsMath
set_option linter.unusedVariables false
theorem wrapN {a : Nat} (h : a < 18446744073709551616) : IntKind.u64.wrap (a : Int) = (a : Int) := by rw [IntKind.wrap_u64]; omega
theorem wr64 (n : Int) (h0 : 0 ≤ n) (h1 : n < 2 ^ 64) : IntKind.u64.wrap n = n := by rw [IntKind.wrap_u64]; omega
theorem andN (a b : Nat) (ha : a < 18446744073709551616) (hb : b < 18446744073709551616) : Go.bits .and .u64 (a : Int) (b : Int) = ((a &&& b : Nat) : Int) := (bits_nat .u64 64 (by decide) wr64 a b ha hb).1
theorem orN (a b : Nat) (ha : a < 18446744073709551616) (hb : b < 18446744073709551616) : Go.bits .or .u64 (a : Int) (b : Int) = ((a ||| b : Nat) : Int) := (bits_nat .u64 64 (by decide) wr64 a b ha hb).2
theorem and_lt {a b : Nat} (ha : a < 18446744073709551616) : a &&& b < 18446744073709551616 := Nat.lt_of_le_of_lt Nat.and_le_left ha
theorem or_lt {a b : Nat} (ha : a < 18446744073709551616) (hb : b < 18446744073709551616) : a ||| b < 18446744073709551616 := Nat.or_lt_two_pow (n := 64) ha hb
def S1 (x : Int) : Int := IntKind.u64.wrap ((Go.bits .and .u64 (x / 2) 6148914691236517205) + (Go.bits .and .u64 x 6148914691236517205))
def S2 (x : Int) : Int := IntKind.u64.wrap ((Go.bits .and .u64 (x / 4) 3689348814741910323) + (Go.bits .and .u64 x 3689348814741910323))
def S3 (x : Int) : Int := Go.bits .and .u64 (IntKind.u64.wrap ((x / 16) + x)) 1085102592571150095
def S4 (x : Int) : Int := IntKind.u64.wrap (x + x / 256)
def S5 (x : Int) : Int := IntKind.u64.wrap (x + x / 65536)
def S6 (x : Int) : Int := IntKind.u64.wrap (x + x / 4294967296)
theorem ones_steps (x : Int) : bits_OnesCount64.f x = some (Go.bits .and .i64 (wrap64 (S6 (S5 (S4 (S3 (S2 (S1 x))))))) 127) := by
  unfold bits_OnesCount64.f S6 S5 S4 S3 S2 S1
  rfl
theorem S1_eq (n : Nat) (h : n < 18446744073709551616) (hs : st1 (rep 85 8) n < 18446744073709551616) : S1 (n : Int) = (st1 (rep 85 8) n : Nat) := by
  have e : (6148914691236517205 : Int) = ((rep 85 8 : Nat) : Int) := by decide
  unfold S1
  rw [e, show (n : Int) / 2 = ((n / 2 : Nat) : Int) by omega, andN _ _ (by omega) (by decide), andN _ _ h (by decide), ← Int.natCast_add]
  exact wrapN hs
theorem S2_eq (n : Nat) (h : n < 18446744073709551616) (hs : st2 (rep 51 8) n < 18446744073709551616) : S2 (n : Int) = (st2 (rep 51 8) n : Nat) := by
  have e : (3689348814741910323 : Int) = ((rep 51 8 : Nat) : Int) := by decide
  unfold S2
  rw [e, show (n : Int) / 4 = ((n / 4 : Nat) : Int) by omega, andN _ _ (by omega) (by decide), andN _ _ h (by decide), ← Int.natCast_add]
  exact wrapN hs
theorem S3_eq (n : Nat) (h : n / 16 + n < 18446744073709551616) : S3 (n : Int) = (st3 (rep 15 8) n : Nat) := by
  have e : (1085102592571150095 : Int) = ((rep 15 8 : Nat) : Int) := by decide
  unfold S3
  rw [e, show (n : Int) / 16 = ((n / 16 : Nat) : Int) by omega, ← Int.natCast_add, wrapN h, andN _ _ h (by decide)]
  rfl
theorem st1_lt {k : Nat} : ∀ x, x < 256 ^ k → st1 (rep 85 k) x < 256 ^ k := by
  induction k with
  | zero => intro x h; obtain rfl : x = 0 := by simpa using h
            rw [(st_zero _).1]; decide
  | succ k ih =>
    intro x h
    have hq : x / 256 < 256 ^ k := by rw [Nat.div_lt_iff_lt_mul (by omega), ← Nat.pow_succ]; exact h
    have hb := byte_tells (x % 256) (by omega)
    have e1 : st1 (rep 85 (k + 1)) x = st1 85 (x % 256) + 256 * st1 (rep 85 k) (x / 256) := by
      conv => lhs; rw [show x = x % 256 + 256 * (x / 256) by omega]
      exact st1_byte _ _ _ (by omega)
    have := ih _ hq
    rw [e1, Nat.pow_succ]; omega
theorem st2_lt {k : Nat} : ∀ x, x < 256 ^ k → 255 * st2 (rep 51 k) (st1 (rep 85 k) x) + 68 ≤ 68 * 256 ^ k := by
  induction k with
  | zero => intro x h; obtain rfl : x = 0 := by simpa using h
            rw [(st_zero _).1, (st_zero _).2.1]; decide
  | succ k ih =>
    intro x h
    have hq : x / 256 < 256 ^ k := by rw [Nat.div_lt_iff_lt_mul (by omega), ← Nat.pow_succ]; exact h
    have hb := byte_tells (x % 256) (by omega)
    have e1 : st1 (rep 85 (k + 1)) x = st1 85 (x % 256) + 256 * st1 (rep 85 k) (x / 256) := by
      conv => lhs; rw [show x = x % 256 + 256 * (x / 256) by omega]
      exact st1_byte _ _ _ (by omega)
    have e2 : st2 (rep 51 (k + 1)) (st1 (rep 85 (k + 1)) x) = st2 51 (st1 85 (x % 256)) + 256 * st2 (rep 51 k) (st1 (rep 85 k) (x / 256)) := by
      rw [e1]; exact st2_byte _ _ _ hb.1
    have := ih _ hq
    rw [e2, Nat.pow_succ]; omega
theorem mask7 (u : Nat) (h : u < 18446744073709551616) : Go.bits .and .i64 (wrap64 (u : Int)) 127 = ((u % 128 : Nat) : Int) := by
  have e : Go.bits .and .i64 (wrap64 (u : Int)) 127 = IntKind.i64.wrap ((BitVec.ofInt 64 (wrap64 (u : Int)) &&& BitVec.ofInt 64 127).toNat : Int) := rfl
  have e1 : (BitVec.ofInt 64 (wrap64 (u : Int))).toNat = u := by
    rw [BitVec.toNat_ofInt]
    unfold wrap64
    omega
  have e2 : (BitVec.ofInt 64 127).toNat = 2 ^ 7 - 1 := by decide
  rw [e, BitVec.toNat_and, e1, e2, Nat.and_two_pow_sub_one_eq_mod, IntKind.wrap_i64]
  omega
theorem ones_eq (n : Nat) (h : n < 18446744073709551616) : bits_OnesCount64.f (n : Int) = some ((pop 64 n : Nat) : Int) := by
  have hk : n < 256 ^ 8 := h
  have a1 := st1_lt n hk
  have a2 := st2_lt n hk
  obtain ⟨_, a3⟩ := steps 8 n hk
  rw [show (256 : Nat) ^ 8 = 18446744073709551616 by decide] at a1 a2
  rw [ones_steps, S1_eq n h a1, S2_eq _ a1 (by omega), S3_eq _ (by omega), a3]
  obtain ⟨f1, f2, f3, f4⟩ := fold_eight _ _ _ _ _ _ _ _ (bsum 8 n) (pop8_le _) (pop8_le _) (pop8_le _) (pop8_le _) (pop8_le _) (pop8_le _) (pop8_le _) (pop8_le _) (bsum_eight n)
  rw [← pop_eight] at f4
  have hp := pop_le 64 n
  generalize bsum 8 n = y at *
  have g1 : S4 (y : Int) = ((y + y / 256 : Nat) : Int) := by unfold S4; rw [show (y : Int) + (y : Int) / 256 = ((y + y / 256 : Nat) : Int) by omega]; exact wrapN f1
  rw [g1]
  generalize y + y / 256 = z at *
  have g2 : S5 (z : Int) = ((z + z / 65536 : Nat) : Int) := by unfold S5; rw [show (z : Int) + (z : Int) / 65536 = ((z + z / 65536 : Nat) : Int) by omega]; exact wrapN f2
  rw [g2]
  generalize z + z / 65536 = v at *
  have g3 : S6 (v : Int) = ((v + v / 4294967296 : Nat) : Int) := by unfold S6; rw [show (v : Int) + (v : Int) / 4294967296 = ((v + v / 4294967296 : Nat) : Int) by omega]; exact wrapN f3
  rw [g3]
  generalize v + v / 4294967296 = u at *
  rw [mask7 u f3, f4]
theorem ones_int (x : Int) (h0 : 0 ≤ x) (h1 : x < 18446744073709551616) : bits_OnesCount64.f x = some ((pop 64 x.toNat : Nat) : Int) := by
  obtain ⟨n, rfl⟩ := Int.eq_ofNat_of_zero_le h0
  rw [ones_eq n (by omega)]; rfl
theorem count_int (x : Int) (h0 : 0 ≤ x) (h1 : x < 18446744073709551616) : bits_Count.f x = some ((pop 64 x.toNat : Nat) : Int) := by
  unfold bits_Count.f; rw [ones_int x h0 h1]; rfl
theorem has_eq (n : Nat) (i : Int) (h : n < 18446744073709551616) : taskmasterref2_Has.f (n : Int) i = some (decide (0 ≤ i ∧ i < 64) && n.testBit i.toNat) := by
  unfold taskmasterref2_Has.f
  by_cases h0 : i ≥ 0
  · rw [if_pos h0]
    by_cases h1 : i < 64
    · have e1 : IntKind.u64.wrap i = i := by rw [IntKind.wrap_u64]; omega
      rw [if_pos h1, e1, if_pos h0, decide_eq_true (show 0 ≤ i ∧ i < 64 from ⟨h0, h1⟩), Bool.true_and]
      obtain ⟨j, rfl⟩ := Int.eq_ofNat_of_zero_le h0
      have e2 : shr .u64 (n : Int) (j : Int) = ((n / 2 ^ j : Nat) : Int) := by
        unfold shr
        rw [Int.toNat_natCast]
        have hj : j ≤ IntKind.u64.bits := by show j ≤ 64; omega
        rw [show min j IntKind.u64.bits = j from Nat.min_eq_left hj]
        norm_cast
      rw [e2]
      have hd : n / 2 ^ j < 18446744073709551616 := Nat.lt_of_le_of_lt (Nat.div_le_self _ _) h
      have e3 := andN (n / 2 ^ j) 1 hd (by decide)
      rw [show ((1 : Nat) : Int) = 1 from rfl] at e3
      rw [e3, Nat.and_one_is_mod, Int.toNat_natCast, Nat.testBit_eq_decide_div_mod_eq]
      congr 1
      by_cases hq : n / 2 ^ j % 2 = 1
      · rw [decide_eq_true hq, hq]; rfl
      · have hz : n / 2 ^ j % 2 = 0 := by omega
        rw [decide_eq_false hq, hz]; rfl
    · rw [if_neg h1, decide_eq_false (by omega)]; rfl
  · rw [if_neg h0, decide_eq_false (by omega)]; rfl
def listFrom (n : Nat) : Nat → Nat → List Int
  | 0, _ => []
  | d + 1, i => if n.testBit i then (i : Int) :: listFrom n d (i + 1) else listFrom n d (i + 1)
theorem listFrom_length (n : Nat) : ∀ (d i : Nat), (listFrom n d i).length = pop d (n / 2 ^ i)
  | 0, i => rfl
  | d + 1, i => by
    unfold listFrom pop
    rw [Nat.div_div_eq_div_mul, show 2 ^ i * 2 = 2 ^ (i + 1) from (Nat.pow_succ 2 i).symm]
    have := listFrom_length n d (i + 1)
    rw [Nat.testBit_eq_decide_div_mod_eq]
    by_cases hb : n / 2 ^ i % 2 = 1
    · rw [decide_eq_true hb, if_pos rfl, List.length_cons, this]; omega
    · rw [decide_eq_false hb, if_neg (by simp), this]; omega
theorem list_loop (n : Nat) (h : n < 18446744073709551616) : ∀ (d k i : Nat) (acc : List Int), i + d = 64 → d < k → acc.length ≤ i → taskmasterref2_List.l0 k (n : Int) acc (i : Int) = some (acc ++ listFrom n d i) := by
  intro d
  induction d with
  | zero =>
    intro k i acc hi hk ha
    obtain ⟨k, rfl⟩ : ∃ m, k = m + 1 := ⟨k - 1, by omega⟩
    unfold taskmasterref2_List.l0
    rw [if_neg (by omega)]; unfold listFrom; rw [List.append_nil]
  | succ d ih =>
    intro k i acc hi hk ha
    obtain ⟨k, rfl⟩ : ∃ m, k = m + 1 := ⟨k - 1, by omega⟩
    unfold taskmasterref2_List.l0
    have ew : wrap64 ((i : Int) + 1) = ((i + 1 : Nat) : Int) := by unfold wrap64; omega
    rw [if_pos (by omega), has_eq n i h, Option.bind_some, decide_eq_true (show 0 ≤ (i : Int) ∧ (i : Int) < 64 by omega), Bool.true_and, Int.toNat_natCast, ew]
    unfold listFrom
    by_cases hb : n.testBit i = true
    · rw [if_pos hb, if_pos (by omega), ih k (i + 1) _ (by omega) (by omega) (by simp; omega), if_pos hb, List.append_assoc]; rfl
    · rw [if_neg hb, ih k (i + 1) _ (by omega) (by omega) (by omega), if_neg hb]
theorem list_eq (x : Int) (h0 : 0 ≤ x) (h1 : x < 18446744073709551616) (k : Nat) (hk : 64 < k) : taskmasterref2_List.f k x = some (listFrom x.toNat 64 0) := by
  obtain ⟨n, rfl⟩ := Int.eq_ofNat_of_zero_le h0
  unfold taskmasterref2_List.f
  have := list_loop n (by omega) 64 k 0 [] (by omega) hk (Nat.zero_le _)
  rw [List.nil_append] at this
  exact this
theorem rcount_eq (x : Int) (h0 : 0 ≤ x) (h1 : x < 18446744073709551616) (k : Nat) (hk : 64 < k) : taskmasterref2_Count.f k x = some ((pop 64 x.toNat : Nat) : Int) := by
  unfold taskmasterref2_Count.f
  rw [list_eq x h0 h1 k hk, Option.bind_some, listFrom_length, Nat.pow_zero, Nat.div_one]
end Go.Proofs.Ytmhioeoioohmpaa.BitsPure
namespace Go.Proofs.Ytmhioeoioohmpaa.Open
open Go.RowKit Go.Proofs.YtmhioeoioohmpaaW.PrintWords Go.Proofs.YtmhioeoioohmpaaW.PrintLast Go.WideShapes
set_option linter.unusedVariables false
structure Opens (P : Program) {α : Type} (k : Kd α) (t : TypeId) (W : α → Prop) : Prop where
  out : ∀ {H : Type} {enc : TypeId × Value → H} {w : World} {base : Nat} {spare : Nat → Bool} {held : Bool} {fuel : Nat} {cs : List Value} {x : DataW H × List MemPlace},
    DataW.trod enc P w base spare held fuel t cs = some x → ∃ a : α, k.K w a cs ∧ W a
theorem opens_int {P : Program} {t : TypeId} {k : IntKind} (ht : P.underlying t = some (.int k)) : Opens P (Kd.int k) t (fun n => (Lit.int k n).wf = true) := by
  refine ⟨fun {H enc w base spare held fuel cs x} h => ?_⟩
  obtain ⟨n, rfl, _, hw⟩ := DataW.trod_int ht h
  exact ⟨n, rfl, hw⟩
theorem opens_string {P : Program} {t : TypeId} (ht : P.underlying t = some .string) : Opens P Kd.string t (fun s => s.size ≤ maxLen) := by
  refine ⟨fun {H enc w base spare held fuel cs x} h => ?_⟩
  obtain ⟨s, rfl, _, hs⟩ := DataW.trod_string ht h
  exact ⟨s, rfl, hs⟩
theorem addr_add (a : Addr) (i j : Nat) : (a.add i).add j = a.add (i + j) := Go.Deep.add_add a i j
theorem opens_slice {P : Program} {α : Type} [Inhabited α] {d : Kd α} {t e : TypeId} {W : α → Prop} (ht : P.underlying t = some (.slice e)) (hs : P.cellsOf e = d.sz) (hd : Opens P d e W) :
    Opens P (Kd.slice e d) t (fun xs => ∀ x ∈ xs, W x) := by
  refine ⟨fun {H enc w base spare held fuel cs x} h => ?_⟩
  rcases Go.Deep.open_slice ht h with ⟨rfl, _⟩ | ⟨a, len, cap, m, n, D, Pl, rfl, hb, hl, hc, hm, _, hel⟩
  · exact ⟨[], ⟨none, 0, rfl, Nat.le_refl _, rfl, Nat.zero_le _, fun h => absurd h (Nat.lt_irrefl _)⟩, fun x hx => absurd hx (List.not_mem_nil)⟩
  · have hlm : len ≤ m := by rw [hm]; split <;> omega
    have each : ∀ i, i < len → ∃ y : α, (∃ cs', w.cells? base (a.add (i * P.cellsOf e)) (P.cellsOf e) = some cs' ∧ d.K w y cs') ∧ W y := fun i hi => by
      obtain ⟨cs', h1, h2⟩ := hel i (by omega)
      obtain ⟨y, hy, hw⟩ := hd.out h2
      exact ⟨y, ⟨cs', h1, hy⟩, hw⟩
    obtain ⟨f, hf⟩ := Go.Deep.choose_lt each
    have hlen : ((List.range len).map f).length = len := by simp
    refine ⟨(List.range len).map f, ⟨some a, cap, by rw [hlen], by rw [hlen]; exact hl, rfl, ?_, ?_⟩, ?_⟩
    · rw [hlen]; unfold maxLen at hc; omega
    · intro _
      refine ⟨a, rfl, fun j p hp => ?_⟩
      obtain ⟨hj, rfl⟩ := List.getElem?_eq_some_iff.1 hp
      rw [hlen] at hj
      obtain ⟨⟨cs', h1, h2⟩, _⟩ := hf j hj
      obtain ⟨_, h4, h5⟩ := World.cells?_some h1
      refine ⟨cs', by rw [h4, hs], by simpa using h2, fun i u hu => ?_⟩
      have hi : i < cs'.length := by
        by_cases q : i < cs'.length
        · exact q
        · rw [List.getElem?_eq_none (by omega)] at hu; cases hu
      have := h5 i (by omega)
      rw [addr_add, hs] at this
      rw [this]; exact hu
    · intro x hx
      obtain ⟨i, hi, rfl⟩ := List.mem_map.1 hx
      exact (hf i (List.mem_range.1 hi)).2
structure OpensFrom (P : Program) (fs : Array Field) (i : Nat) (off : Nat) {α : Type} (k : Kd α) (W : α → Prop) : Prop where
  out : ∀ {H : Type} {enc : TypeId × Value → H} {w : World} {base : Nat} {spare : Nat → Bool} {held : Bool} {n : Nat} {cs : List Value} {xs : List (DataW H × List MemPlace)},
    xs.length = fs.size → cs.length = off + k.sz →
    (∀ (j : Nat) (f : Field), fs[j]? = some f → DataW.trod enc P w base spare held n f.type ((cs.drop f.offset).take (P.cellsOf f.type)) = xs[j]?) → ∃ a : α, k.K w a (cs.drop off) ∧ W a
theorem opensFrom_last {P : Program} {fs : Array Field} {i off : Nat} {α : Type} {k : Kd α} {W : α → Prop} (f : Field) (hf : fs[i]? = some f) (ho : f.offset = off) (hs : P.cellsOf f.type = k.sz) (hd : Opens P k f.type W) : OpensFrom P fs i off k W := by
  refine ⟨fun {H enc w base spare held n cs xs} hx hl h => ?_⟩
  have hi : i < xs.length := by
    rw [hx]
    by_cases q : i < fs.size
    · exact q
    · rw [Array.getElem?_eq_none (by omega)] at hf; cases hf
  have h1 := h i f hf
  rw [List.getElem?_eq_getElem hi, ho, hs, List.take_of_length_le (by simp; omega)] at h1
  exact hd.out h1
theorem opensFrom_cons {P : Program} {fs : Array Field} {i off : Nat} {α β : Type} {k : Kd α} {l : Kd β} {W : α → Prop} {V : β → Prop} (f : Field) (hf : fs[i]? = some f) (ho : f.offset = off) (hs : P.cellsOf f.type = k.sz)
    (hd : Opens P k f.type W) (hr : OpensFrom P fs (i + 1) (off + k.sz) l V) : OpensFrom P fs i off (Kd.pair k l) (fun x => W x.1 ∧ V x.2) := by
  refine ⟨fun {H enc w base spare held n cs xs} hx hl h => ?_⟩
  have hi : i < xs.length := by
    rw [hx]
    by_cases q : i < fs.size
    · exact q
    · rw [Array.getElem?_eq_none (by omega)] at hf; cases hf
  have hl' : cs.length = off + (k.sz + l.sz) := hl
  have h1 := h i f hf
  rw [List.getElem?_eq_getElem hi, ho, hs] at h1
  obtain ⟨a, ka, wa⟩ := hd.out h1
  obtain ⟨b, kb, wb⟩ := hr.out hx (by omega) h
  refine ⟨(a, b), ⟨_, _, ?_, ka, kb⟩, wa, wb⟩
  rw [← List.drop_drop, List.take_append_drop]
theorem opens_struct {P : Program} {t : TypeId} {fs : Array Field} {α β : Type} {k : Kd α} {g : β → α} {W : α → Prop} {V : β → Prop} (ht : P.underlying t = some (.struct fs)) (hs : P.cellsOf t = k.sz) (hd : OpensFrom P fs 0 0 k W)
    (inv : α → β) (hg : ∀ a, g (inv a) = a) (hW : ∀ a, W a → V (inv a)) : Opens P (Kd.iso k g) t V := by
  refine ⟨fun {H enc w base spare held fuel cs x} h => ?_⟩
  obtain ⟨xs, n, _, _, hl, hx, hall⟩ := DataW.trod_struct ht h
  obtain ⟨a, ka, wa⟩ := hd.out hx (by rw [hl, hs]; omega) hall
  exact ⟨inv a, by show k.K w (g (inv a)) cs; rw [hg]; simpa using ka, hW a wa⟩
theorem arg_struct {P : Program} {H : Type} {enc : TypeId × Value → H} {w : World} {base : Nat} {spare : Nat → Bool} {held : Bool} {α : Type} {d : Kd α} {t : TypeId} {fs : Array Field} {W : α → Prop} {v : Value} {x : DataW H} {ps : List MemPlace} {r : Reach} {b0 : Nat}
    (ht : P.underlying t = some (.struct fs)) (hv : Value.okWide P w r b0 t v) (ho : Opens P d t W) (h : DataW.Trod enc P w base spare held t v x ps) :
    ∃ (a : α) (cs : List Value), v = .agg cs.toArray ∧ d.K w a cs ∧ W a := by
  obtain ⟨fuel, hf⟩ := h
  obtain ⟨cs, rfl, _⟩ := okWide_struct ht hv
  obtain ⟨a, ha, hw⟩ := ho.out hf
  exact ⟨a, cs.toList, by simp, ha, hw⟩
end Go.Proofs.Ytmhioeoioohmpaa.Open
namespace Go.Proofs.Ytmhioeoioohmpaa.QAg
open Go.RowKit Go.Proofs.YtmhioeoioohmpaaW.PrintWords Go.Proofs.YtmhioeoioohmpaaW.PrintLast Go.Proofs.Ytmhioeoioohmpaa.Open
set_option linter.unusedVariables false
instance : Inhabited S31 := ⟨z31⟩
def wf31 (x : S31) : Prop := ((x.f0).size ≤ maxLen) ∧ ((Lit.int .i64 x.f1).wf = true) ∧ ((Lit.int .i64 x.f2).wf = true) ∧ ((Lit.int .i64 x.f3).wf = true) ∧ ((Lit.int .i64 x.f4).wf = true) ∧ ((Lit.int .i64 x.f5).wf = true) ∧ (∀ y ∈ x.f6, (Lit.int .i64 y).wf = true) ∧ ((Lit.int .u64 x.f7).wf = true) ∧ ((Lit.int .u64 x.f8).wf = true)
theorem opens31 : Opens Try.prog k31 31 wf31 :=
  opens_struct Try.underlying31 (by kernel_rfl) (opensFrom_cons _ rfl rfl (by kernel_rfl) (opens_string Try.underlying9) (opensFrom_cons _ rfl rfl (by kernel_rfl) (opens_int Try.underlying2) (opensFrom_cons _ rfl rfl (by kernel_rfl) (opens_int Try.underlying2) (opensFrom_cons _ rfl rfl (by kernel_rfl) (opens_int Try.underlying3) (opensFrom_cons _ rfl rfl (by kernel_rfl) (opens_int Try.underlying2) (opensFrom_cons _ rfl rfl (by kernel_rfl) (opens_int Try.underlying3) (opensFrom_cons _ rfl rfl (by kernel_rfl) (opens_slice Try.underlying28 (by kernel_rfl) (opens_int Try.underlying2)) (opensFrom_cons _ rfl rfl (by kernel_rfl) (opens_int Try.underlying29) (opensFrom_last _ rfl rfl (by kernel_rfl) (opens_int Try.underlying29)))))))))) (fun a => ⟨a.1, a.2.1, a.2.2.1, a.2.2.2.1, a.2.2.2.2.1, a.2.2.2.2.2.1, a.2.2.2.2.2.2.1, a.2.2.2.2.2.2.2.1, a.2.2.2.2.2.2.2.2⟩) (fun _ => rfl) (fun _ h => h)
structure S24 where
  f0 : Int
  f1 : (List S31)
def z24 : S24 := ⟨0, []⟩
def k24 : Kd S24 := Kd.iso (Kd.pair (Kd.int .i64) (Kd.slice 31 k31)) (fun x : S24 => (x.f0, x.f1))
theorem k24_open {w : World} {x : S24} {cs : List Value} (h : k24.K w x cs) : ∃ A1 c1, cs = [.int .i64 x.f0, .slice A1 x.f1.length c1] ∧ x.f1.length ≤ c1 ∧ Kd.C k31 w A1 x.f1.length x.f1 := by
  obtain ⟨_, _, rfl, rfl, ⟨A1, c1, rfl, l1, g1⟩⟩ := h
  exact ⟨A1, c1, rfl, l1, g1⟩
instance : Inhabited S24 := ⟨z24⟩
def wf24 (x : S24) : Prop := ((Lit.int .i64 x.f0).wf = true) ∧ (∀ y ∈ x.f1, wf31 y)
theorem opens24 : Opens Try.prog k24 24 wf24 :=
  opens_struct Try.underlying24 (by kernel_rfl) (opensFrom_cons _ rfl rfl (by kernel_rfl) (opens_int Try.underlying2) (opensFrom_last _ rfl rfl (by kernel_rfl) (opens_slice Try.underlying22 (by kernel_rfl) opens31))) (fun a => ⟨a.1, a.2⟩) (fun _ => rfl) (fun _ h => h)
end Go.Proofs.Ytmhioeoioohmpaa.QAg
namespace Go.Proofs.Ytmhioeoioohmpaa.AgainPure
open Go.RowKit Go.Proofs.Ytmhioeoioohmpaa.QAg Go.Proofs.YtmhioeoioohmpaaW.PrintWords Go.Proofs.YtmhioeoioohmpaaW.PrintLast Go.Proofs.YtmhioeoioohmpaaW.PrintMore Go.Proofs.Ytmhioeoioohmpaa.RefSet Go.Proofs.Ytmhioeoioohmpaa.BitsPure Go.Proofs.Ytmhioeoioohmpaa.BitsMath
set_option linter.unusedVariables false
theorem u64_in {n : Int} (h : (Lit.int .u64 n).wf = true) : 0 ≤ n ∧ n < 18446744073709551616 := by
  simp only [Lit.wf, IntKind.min, IntKind.max, IntKind.signed, IntKind.bits, Bool.and_eq_true] at h
  simp at h
  omega
def SetsOK (l : List S31) : Prop := ∀ y ∈ l, (0 ≤ y.f7 ∧ y.f7 < 18446744073709551616) ∧ (0 ≤ y.f8 ∧ y.f8 < 18446744073709551616)
theorem sets_of {l : List S31} (h : ∀ y ∈ l, wf31 y) : SetsOK l := fun y hy => ⟨u64_in (h y hy).2.2.2.2.2.2.2.1, u64_in (h y hy).2.2.2.2.2.2.2.2⟩
theorem sizes_of {l : List S31} (h : ∀ y ∈ l, wf31 y) : ∀ y ∈ l, y.f0.size ≤ 9223372036854775807 := fun y hy => (h y hy).1
theorem rd_in {l : List S31} {i : Int} (h0 : 0 ≤ i) (h1 : i < (l.length : Int)) : rd_T31 l i ∈ l := by
  unfold rd_T31; rw [List.getD_eq_getElem?_getD, List.getElem?_eq_getElem (show i.toNat < l.length by omega)]; exact List.getElem_mem _
theorem rd_dropT {l : List S31} {i : Nat} (h : i < l.length) : l.drop i = rd_T31 l (i : Int) :: l.drop (i + 1) := by
  rw [List.drop_eq_getElem_cons h]; unfold rd_T31
  rw [Int.toNat_natCast, List.getD_eq_getElem?_getD, List.getElem?_eq_getElem h]; rfl
def orAll : List S31 → Nat → Nat
  | [], a => a
  | x :: l, a => orAll l (a ||| x.f8.toNat)
theorem or_int {a : Nat} {u : Int} (ha : a < 18446744073709551616) (h : 0 ≤ u ∧ u < 18446744073709551616) : Go.bits .or .u64 (a : Int) u = ((a ||| u.toNat : Nat) : Int) := by
  obtain ⟨n, rfl⟩ := Int.eq_ofNat_of_zero_le h.1
  exact orN a n ha (by omega)
theorem and_int {a : Nat} {u : Int} (ha : a < 18446744073709551616) (h : 0 ≤ u ∧ u < 18446744073709551616) : Go.bits .and .u64 u (a : Int) = ((u.toNat &&& a : Nat) : Int) := by
  obtain ⟨n, rfl⟩ := Int.eq_ofNat_of_zero_le h.1
  exact andN n a (by omega) ha
theorem and_int' {a : Nat} {u : Int} (ha : a < 18446744073709551616) (h : 0 ≤ u ∧ u < 18446744073709551616) : Go.bits .and .u64 (a : Int) u = ((a &&& u.toNat : Nat) : Int) := by
  obtain ⟨n, rfl⟩ := Int.eq_ofNat_of_zero_le h.1
  exact andN a n ha (by omega)
theorem is_at (r : Int) (l : List S31) (i : Int) : again_is.f r l i = some (decide (0 ≤ i ∧ i < (l.length : Int))) := by
  unfold again_is.f
  by_cases h : 0 ≤ i
  · rw [if_pos (show i ≥ 0 from h)]; simp [h]
  · rw [if_neg (show ¬ i ≥ 0 from h)]; simp [h]
def ticksV (r : Int) (x : Nat) : Int := wrap64 (r * (pop 64 x : Nat))
theorem ticks_eq (r : Int) (l : List S31) (n : Nat) (h : n < 18446744073709551616) : again_ticks.f r l (n : Int) = some (ticksV r n) := by
  unfold again_ticks.f
  rw [count_int (n : Int) (by omega) (by omega), Option.bind_some]; rfl
theorem ticksV_in {r : Int} (h0 : 0 ≤ r) (h1 : r ≤ 10000) (x : Nat) : ticksV r x = r * (pop 64 x : Nat) ∧ 0 ≤ ticksV r x ∧ ticksV r x ≤ 640000 := by
  have hp := pop_le 64 x
  have a : 0 ≤ r * ((pop 64 x : Nat) : Int) := Int.mul_nonneg h0 (by omega)
  have b : r * ((pop 64 x : Nat) : Int) ≤ 10000 * 64 := Int.mul_le_mul h1 (by omega) (by omega) (by omega)
  have e : ticksV r x = r * (pop 64 x : Nat) := w64 (by omega) (by omega)
  rw [e]; exact ⟨rfl, a, by omega⟩
def ownV (r : Int) (l : List S31) (i : Int) : Int := if 0 ≤ i ∧ i < (l.length : Int) then ticksV r (rd_T31 l i).f8.toNat else 0
def madeV (r : Int) (l : List S31) (i : Int) : Int := if 0 ≤ i ∧ i < (l.length : Int) then ticksV r ((rd_T31 l i).f7.toNat &&& orAll (l.drop (i.toNat + 1)) 0) else 0
theorem own_eq {r : Int} {l : List S31} (h : SetsOK l) (i : Int) : again_Own.f r l i = some (ownV r l i) := by
  unfold again_Own.f ownV
  rw [is_at, Option.bind_some]
  by_cases c : 0 ≤ i ∧ i < (l.length : Int)
  · have hx := (h _ (rd_in c.1 c.2)).2
    rw [decide_eq_true c, if_pos rfl, if_pos c.1, if_pos c.2, if_pos c]
    have := ticks_eq r l (rd_T31 l i).f8.toNat (by omega)
    rw [Int.toNat_of_nonneg hx.1] at this
    rw [this]; rfl
  · rw [decide_eq_false c, if_neg (by simp), if_neg c]
theorem made_loop {r : Int} {l L : List S31} (h : SetsOK l) (hL : SetsOK L) (hl : l.length ≤ 9223372036854775807) {i : Int} (c : 0 ≤ i ∧ i < (L.length : Int)) (d : Nat) : ∀ (k j a : Nat), j + d = l.length → d < k → a < 18446744073709551616 →
    again_Made.l0 k i (a : Int) l (l.length : Int) (j : Int) r L = some (ticksV r ((rd_T31 L i).f7.toNat &&& orAll (l.drop j) a)) := by
  induction d with
  | zero =>
    intro k j a hj hk ha
    obtain ⟨k, rfl⟩ : ∃ m, k = m + 1 := ⟨k - 1, by omega⟩
    simp only [again_Made.l0]
    have hx := (hL _ (rd_in c.1 c.2)).1
    rw [if_neg (by omega), if_pos c.1, if_pos c.2, and_int ha hx, List.drop_eq_nil_of_le (by omega), ticks_eq _ _ _ (and_lt (by omega)), Option.bind_some]; rfl
  | succ d ih =>
    intro k j a hj hk ha
    obtain ⟨k, rfl⟩ : ∃ m, k = m + 1 := ⟨k - 1, by omega⟩
    have hlt : j < l.length := by omega
    have hx := (h _ (rd_in (i := (j : Int)) (by omega) (by omega))).2
    simp only [again_Made.l0]
    rw [if_pos (by omega), if_pos (by omega), if_pos (by omega), or_int ha hx, w64 (n := (j : Int) + 1) (by omega) (by omega), rd_dropT hlt]
    have := ih k (j + 1) (a ||| (rd_T31 l (j : Int)).f8.toNat) (by omega) (by omega) (or_lt ha (by omega))
    rw [show ((j + 1 : Nat) : Int) = (j : Int) + 1 by omega] at this
    exact this
theorem made_eq {r : Int} {l : List S31} (h : SetsOK l) (hl : l.length ≤ 1000) (i : Int) (k : Nat) (hk : 1000 < k) : again_Made.f k r l i = some (madeV r l i) := by
  unfold again_Made.f madeV
  rw [is_at, Option.bind_some]
  by_cases c : 0 ≤ i ∧ i < (l.length : Int)
  · rw [decide_eq_true c, if_pos rfl, if_pos c, w64 (n := i + 1) (by omega) (by omega), if_pos (by omega), if_pos (by omega), Option.bind_some, show (i + 1).toNat = i.toNat + 1 by omega]
    have hd : SetsOK (l.drop (i.toNat + 1)) := fun y hy => h y (List.mem_of_mem_drop hy)
    have hdl : (l.drop (i.toNat + 1)).length ≤ l.length := by rw [List.length_drop]; omega
    have := made_loop (r := r) hd h (by omega) c (l.drop (i.toNat + 1)).length k 0 0 (by omega) (by omega) (by omega)
    rw [List.drop_zero] at this
    exact this
  · rw [decide_eq_false c, if_neg (by simp), if_neg c]
theorem made_ev {r : Int} {l : List S31} (h : SetsOK l) (hl : l.length ≤ 1000) (i : Int) : Ev (fun k => again_Made.f k r l i) (madeV r l i) := ⟨1001, fun k hk => made_eq h hl i k (by omega)⟩
theorem madeV_in {r : Int} (h0 : 0 ≤ r) (h1 : r ≤ 10000) (l : List S31) (i : Int) : 0 ≤ madeV r l i ∧ madeV r l i ≤ 640000 := by
  unfold madeV
  split
  · exact (ticksV_in h0 h1 _).2
  · omega
end Go.Proofs.Ytmhioeoioohmpaa.AgainPure
namespace Go.Proofs.Ytmhioeoioohmpaa.BlockPure
open Go.RowKit Go.Proofs.Ytmhioeoioohmpaa.QAg Go.Proofs.YtmhioeoioohmpaaW.PrintWords Go.Proofs.YtmhioeoioohmpaaW.PrintLast Go.Proofs.YtmhioeoioohmpaaW.PrintMore Go.Proofs.Ytmhioeoioohmpaa.RefSet
set_option linter.unusedVariables false
theorem twork_loop {l : List Int} (hl : l.length ≤ 8) (h : ∀ x ∈ l, 1 ≤ x ∧ x ≤ 10000) (d : Nat) : ∀ (k i : Nat) (acc : Int), i + d = l.length → d < k → 0 ≤ acc → acc ≤ 10000 * i →
    task_Work.l0 k acc l (l.length : Int) (i : Int) = some (acc + sum (l.drop i)) := by
  induction d with
  | zero =>
    intro k i acc hi hk h0 h1
    obtain ⟨k, rfl⟩ : ∃ m, k = m + 1 := ⟨k - 1, by omega⟩
    simp only [task_Work.l0]
    rw [if_neg (by omega), List.drop_eq_nil_of_le (by omega)]; simp [sum]
  | succ d ih =>
    intro k i acc hi hk h0 h1
    obtain ⟨k, rfl⟩ : ∃ m, k = m + 1 := ⟨k - 1, by omega⟩
    have hlt : i < l.length := by omega
    have hm : rd l (i : Int) ∈ l := by
      unfold rd; rw [Int.toNat_natCast, List.getD_eq_getElem?_getD, List.getElem?_eq_getElem hlt]; exact List.getElem_mem hlt
    have hx := h _ hm
    simp only [task_Work.l0]
    rw [if_pos (by omega), if_pos (by omega), if_pos (by omega), w64 (n := acc + rd l (i : Int)) (by omega) (by omega), w64 (n := (i : Int) + 1) (by omega) (by omega), rd_drop hlt]
    have := ih k (i + 1) (acc + rd l (i : Int)) (by omega) (by omega) (by omega) (by omega)
    rw [show ((i + 1 : Nat) : Int) = (i : Int) + 1 by omega] at this
    rw [this]
    simp only [sum]
    rw [Int.add_assoc]
theorem twork_eq (s : ByteArray) (a1 a2 a3 a4 a5 : Int) {l : List Int} (a7 a8 : Int) (hl : l.length ≤ 8) (h : ∀ x ∈ l, 1 ≤ x ∧ x ≤ 10000) (k : Nat) (hk : 8 < k) : task_Work.f k s a1 a2 a3 a4 a5 l a7 a8 = some (sum l) := by
  unfold task_Work.f
  have := twork_loop hl h l.length k 0 0 (by omega) (by omega) (by omega) (by omega)
  rw [List.drop_zero, Int.zero_add] at this
  exact this
theorem twork_ev (s : ByteArray) (a1 a2 a3 a4 a5 : Int) {l : List Int} (a7 a8 : Int) (hl : l.length ≤ 8) (h : ∀ x ∈ l, 1 ≤ x ∧ x ≤ 10000) : Ev (fun k => task_Work.f k s a1 a2 a3 a4 a5 l a7 a8) (sum l) := ⟨9, fun k hk => twork_eq s a1 a2 a3 a4 a5 a7 a8 hl h k (by omega)⟩
end Go.Proofs.Ytmhioeoioohmpaa.BlockPure
namespace Go.Proofs.Ytmhioeoioohmpaa.FloatMath
open Ieee
set_option exponentiation.threshold 3000
set_option linter.unusedVariables false
set_option linter.unusedSimpArgs false
def val : Datum → Int
  | .number s m e => signed s m (e + 1074).toNat
  | _ => 0
def fin : Datum → Bool
  | .number _ _ e => decide (-1074 ≤ e)
  | _ => false
theorem signed_mul (s : Bool) (m a b : Nat) : signed s m (a + b) = signed s m a * (2 ^ b : Nat) := by
  unfold signed
  have e : m <<< (a + b) = m <<< a * 2 ^ b := by simp [Nat.shiftLeft_eq, Nat.pow_add, Nat.mul_assoc]
  split <;> simp [e, Int.neg_mul]
theorem compare_mul (a b : Int) (k : Nat) (hk : 0 < k) : compare (a * k) (b * k) = compare a b := by
  have hk' : (0 : Int) < k := by omega
  simp only [compare, compareOfLessAndEq]
  have h1 : (a * k < b * k) = (a < b) := propext ⟨fun h => Int.lt_of_mul_lt_mul_right h (by omega), fun h => Int.mul_lt_mul_of_pos_right h hk'⟩
  have h2 : (a * k = b * k) = (a = b) := propext ⟨fun h => Int.eq_of_mul_eq_mul_right (by omega) h, fun h => by rw [h]⟩
  simp only [h1, h2]
theorem order_val {d e : Datum} (hd : fin d = true) (he : fin e = true) : d.order e = some (compare (val d) (val e)) := by
  cases d with
  | infinity s => cases hd
  | nan s t => cases hd
  | number s m i =>
    cases e with
    | infinity s => cases he
    | nan s t => cases he
    | number t n j =>
      have hi : -1074 ≤ i := of_decide_eq_true hd
      have hj : -1074 ≤ j := of_decide_eq_true he
      show some (compare (signed s m (i - min i j).toNat) (signed t n (j - min i j).toNat)) = some (compare (signed s m (i + 1074).toNat) (signed t n (j + 1074).toNat))
      have e1 : (i + 1074).toNat = (i - min i j).toNat + (min i j + 1074).toNat := by omega
      have e2 : (j + 1074).toNat = (j - min i j).toNat + (min i j + 1074).toNat := by omega
      rw [e1, e2, signed_mul, signed_mul, compare_mul _ _ _ (Nat.two_pow_pos _)]
def mag : Datum → Nat
  | .number _ m e => m <<< (e + 1074).toNat
  | _ => 0
theorem leastPlace_double : double.leastPlace = -1074 := by decide
theorem nearest_word (neg : Bool) (n : Nat) (h0 : 0 < n) (h : n < 2 ^ 53) :
    double.nearest neg n 0 = double.word neg ((n.log2 + 1022) * 2 ^ 52 + n * 2 ^ (52 - n.log2)) ∧ n.log2 ≤ 52 ∧ 2 ^ 52 ≤ n * 2 ^ (52 - n.log2) ∧ n * 2 ^ (52 - n.log2) < 2 ^ 53 := by
  have hn : n ≠ 0 := by omega
  have hL : n.log2 < 53 := (Nat.log2_lt hn).2 h
  have hlo : 2 ^ n.log2 ≤ n := Nat.log2_self_le hn
  have hhi : n < 2 ^ (n.log2 + 1) := Nat.lt_log2_self
  have hp : 0 < 2 ^ (52 - n.log2) := Nat.two_pow_pos _
  have a1 : 2 ^ 52 ≤ n * 2 ^ (52 - n.log2) := by
    have : 2 ^ n.log2 * 2 ^ (52 - n.log2) = 2 ^ 52 := by rw [← Nat.pow_add]; congr 1; omega
    rw [← this]; exact Nat.mul_le_mul_right _ hlo
  have a2 : n * 2 ^ (52 - n.log2) < 2 ^ 53 := by
    have : 2 ^ (n.log2 + 1) * 2 ^ (52 - n.log2) = 2 ^ 53 := by rw [← Nat.pow_add]; congr 1; omega
    rw [← this]; exact Nat.mul_lt_mul_of_pos_right hhi hp
  refine ⟨?_, by omega, a1, a2⟩
  unfold Format.nearest
  rw [if_neg hn]
  have hlast : max ((0 : Int) + (n.log2 : Nat) - double.fractionBits) double.leastPlace = (n.log2 : Int) - 52 := by
    rw [leastPlace_double]; show max ((0 : Int) + (n.log2 : Nat) - (52 : Nat)) (-1074) = _; omega
  simp only [hlast]
  have e1 : ((0 : Int) - ((n.log2 : Int) - 52)).toNat = 52 - n.log2 := by omega
  have e2 : ((n.log2 : Int) - 52 - 0).toNat = 0 := by omega
  have e3 : ((n.log2 : Int) - 52 - double.leastPlace).toNat = n.log2 + 1022 := by rw [leastPlace_double]; omega
  rw [e1, e2, e3]
  have hcut : ∀ m : Nat, Toward.even.cut neg m 0 = m := by
    intro m
    show m / 1 <<< min 0 (m.log2 + 2) + (decide (1 <<< min 0 (m.log2 + 2) < 2 * (m % 1 <<< min 0 (m.log2 + 2))) || (1 <<< min 0 (m.log2 + 2) == 2 * (m % 1 <<< min 0 (m.log2 + 2)) && m / 1 <<< min 0 (m.log2 + 2) % 2 == 1)).toNat = m
    simp [Nat.mod_one]
  rw [hcut, Nat.shiftLeft_eq]
  congr 1
  have hb : double.binade = 2 ^ 52 := rfl
  have hi : double.infRung = 2047 * 2 ^ 52 := rfl
  rw [hb, hi]
  have h3 : (n.log2 + 1022) * 2 ^ 52 ≤ 1074 * 2 ^ 52 := Nat.mul_le_mul_right _ (by omega)
  refine Nat.min_eq_left ?_
  have h4 : (2 : Nat) ^ 53 = 2 * 2 ^ 52 := by rw [Nat.pow_succ, Nat.mul_comm]
  rw [h4] at a2
  generalize n * 2 ^ (52 - n.log2) = m at a2
  generalize (2 : Nat) ^ 52 = p at h3 a2 ⊢
  generalize (n.log2 + 1022) * p = A at h3 ⊢
  omega
theorem read_word (neg : Bool) (k m : Nat) (hk : k ≤ 2000) (h1 : 2 ^ 52 ≤ m) (h2 : m < 2 ^ 53) :
    double.read (double.word neg (k * 2 ^ 52 + m)) = .number neg m (-1074 + (k : Nat)) := by
  have hs : double.signWeight = 2 ^ 63 := rfl
  have hb : double.binade = 2 ^ 52 := rfl
  have hi : double.infRung = 2047 * 2 ^ 52 := rfl
  have hk2 : k * 2 ^ 52 ≤ 2000 * 2 ^ 52 := Nat.mul_le_mul_right _ hk
  have hlt : k * 2 ^ 52 + m < 2 ^ 63 := by omega
  have w1 : (double.word neg (k * 2 ^ 52 + m) / double.signWeight % 2 == 1) = neg := by
    unfold Format.word
    rw [hs]
    cases neg
    · have : (k * 2 ^ 52 + m) / 2 ^ 63 = 0 := Nat.div_eq_of_lt hlt
      simp [this]
    · have : (2 ^ 63 + (k * 2 ^ 52 + m)) / 2 ^ 63 = 1 := by omega
      simp only [if_true, this]; rfl
  have w2 : double.word neg (k * 2 ^ 52 + m) % double.signWeight = k * 2 ^ 52 + m := by
    unfold Format.word
    rw [hs]
    cases neg
    · exact Nat.mod_eq_of_lt hlt
    · have : (2 ^ 63 + (k * 2 ^ 52 + m)) % 2 ^ 63 = k * 2 ^ 52 + m := by omega
      simpa using this
  unfold Format.read
  simp only [w1, w2, hb, hi]
  rw [if_neg (by omega), if_pos (by omega), leastPlace_double]
  have d1 : (k * 2 ^ 52 + m) / 2 ^ 52 = k + 1 := by omega
  have d2 : (k * 2 ^ 52 + m) % 2 ^ 52 = m - 2 ^ 52 := by omega
  rw [d1, d2, show 2 ^ 52 + (m - 2 ^ 52) = m by omega, Nat.add_sub_cancel]
theorem read_nearest (neg : Bool) (n : Nat) (h : n < 2 ^ 53) :
    ∃ m e, double.read (double.nearest neg n 0) = .number neg m e ∧ -1074 ≤ e ∧ m <<< (e + 1074).toNat = n * 2 ^ 1074 := by
  by_cases h0 : n = 0
  · subst h0
    refine ⟨0, -1074, ?_, by omega, by simp [Nat.shiftLeft_eq]⟩
    cases neg <;> decide
  · obtain ⟨e, hL, a1, a2⟩ := nearest_word neg n (by omega) h
    refine ⟨n * 2 ^ (52 - n.log2), -1074 + (n.log2 + 1022 : Nat), ?_, by omega, ?_⟩
    · rw [e, read_word _ _ _ (by omega) a1 a2]
    · rw [Nat.shiftLeft_eq, Nat.mul_assoc, ← Nat.pow_add, show 52 - n.log2 + (-1074 + ((n.log2 + 1022 : Nat) : Int) + 1074).toNat = 1074 by omega]
theorem read_zero : double.read 0 = .number false 0 (-1074) := by decide
theorem order_of {a b : Nat} (ha : fin (double.read a) = true) (hb : fin (double.read b) = true) : double.order a b = some (compare (val (double.read a)) (val (double.read b))) := order_val ha hb
theorem cmp_eq (a b : Int) : (some (compare a b) == some Ordering.eq) = decide (a = b) := by
  simp only [compare, compareOfLessAndEq]
  by_cases h1 : a < b
  · simp [h1]; try omega
  · by_cases h2 : a = b
    · simp [h2]
    · simp [h1, h2]
theorem val_nearest (s : Bool) (n : Nat) (h : n < 2 ^ 53) : fin (double.read (double.nearest s n 0)) = true ∧ val (double.read (double.nearest s n 0)) = (if s then -((n * 2 ^ 1074 : Nat) : Int) else ((n * 2 ^ 1074 : Nat) : Int)) ∧ mag (double.read (double.nearest s n 0)) = n * 2 ^ 1074 := by
  obtain ⟨m, e, hr, he, hm⟩ := read_nearest s n h
  rw [hr]
  refine ⟨decide_eq_true he, ?_, hm⟩
  rw [← hm]
  cases s
  · rw [if_neg Bool.false_ne_true]; rfl
  · rw [if_pos rfl]; rfl
end Go.Proofs.Ytmhioeoioohmpaa.FloatMath
namespace Go.Proofs.Ytmhioeoioohmpaa.TellsPure
open Go.RowKit Go.Proofs.Ytmhioeoioohmpaa.QAg Go.Proofs.YtmhioeoioohmpaaW.PrintWords Go.Proofs.YtmhioeoioohmpaaW.PrintLast Go.Proofs.YtmhioeoioohmpaaW.PrintMore Go.Proofs.Ytmhioeoioohmpaa.FloatMath Go.Proofs.Ytmhioeoioohmpaa.RefSet Go.Proofs.Ytmhioeoioohmpaa.BitsPure Go.Proofs.Ytmhioeoioohmpaa.BitsMath Go.Proofs.Ytmhioeoioohmpaa.AgainPure
set_option linter.unusedVariables false
def isT (n : Int) : Bool := decide (0 ≤ n ∧ n ≤ 1099511627776)
theorem isT_iff {n : Int} : isT n = true ↔ 0 ≤ n ∧ n ≤ 1099511627776 := by unfold isT; simp
theorem is_eq (n : Int) : num_Is.f n = some (isT n) := by
  unfold num_Is.f isT
  by_cases h : n ≥ 0
  · rw [if_pos h]; simp [show 0 ≤ n from h]
  · rw [if_neg h]; simp [show ¬ 0 ≤ n from h]
theorem ris_eq (n : Int) : taskmasterref1_Is.f n = some (isT n) := by
  unfold taskmasterref1_Is.f isT
  by_cases h : n ≥ 0
  · rw [if_pos h]; simp [show 0 ≤ n from h]
  · rw [if_neg h]; simp [show ¬ 0 ≤ n from h]
def fo (n : Int) : Nat := floatOfInt .f64 n
def Num2 (c : Nat × Nat) : Prop := fin (Ieee.double.read c.1) = true ∧ fin (Ieee.double.read c.2) = true
theorem self_eq {b : Nat} (h : fin (Ieee.double.read b) = true) : (FloatKind.f64.format.order b b == some .eq) = true := by
  show (Ieee.double.order b b == some .eq) = true
  rw [order_of h h, cmp_eq]; simp
theorem same {c : Nat × Nat} (h : Num2 c) : ((FloatKind.f64.format.order c.1 c.1 == some .eq) && (FloatKind.f64.format.order c.2 c.2 == some .eq)) = true := by
  rw [self_eq h.1, self_eq h.2]; rfl
theorem fo_fin {n : Int} (h : -9007199254740992 < n ∧ n < 9007199254740992) : fin (Ieee.double.read (fo n)) = true := (val_nearest (decide (n < 0)) n.natAbs (by omega)).1
theorem num_zero : Num2 (0, 0) := ⟨by rw [read_zero]; rfl, by rw [read_zero]; rfl⟩
theorem num_fo {a b : Int} (ha : isT a = true) (hb : isT b = true) : Num2 (fo a, fo b) := by
  have h1 := isT_iff.mp ha
  have h2 := isT_iff.mp hb
  exact ⟨fo_fin (by omega), fo_fin (by omega)⟩
def ofV (a b : Int) : (Nat × Nat) × Bool := if isT a = true ∧ isT b = true then ((fo a, fo b), true) else ((0, 0), false)
theorem of_eq (a b : Int) : cost_Of.f a b = some (ofV a b) := by
  unfold cost_Of.f ofV
  rw [is_eq, Option.bind_some]
  by_cases ha : isT a = true
  · rw [if_pos ha, is_eq, Option.bind_some]
    by_cases hb : isT b = true
    · rw [if_pos hb, if_pos ⟨ha, hb⟩]; rfl
    · rw [if_neg hb, if_neg (fun x => hb x.2)]
  · rw [if_neg ha, if_neg (fun x => ha x.1)]
theorem rof_eq (a b : Int) : taskmasterref3_Of.f a b = some (ofV a b) := by
  unfold taskmasterref3_Of.f ofV
  rw [ris_eq, Option.bind_some]
  by_cases ha : isT a = true
  · rw [if_pos ha, ris_eq, Option.bind_some]
    by_cases hb : isT b = true
    · rw [if_pos hb, if_pos ⟨ha, hb⟩]; rfl
    · rw [if_neg hb, if_neg (fun x => hb x.2)]
  · rw [if_neg ha, if_neg (fun x => ha x.1)]
theorem ofV_num (a b : Int) : Num2 (ofV a b).1 := by
  unfold ofV
  by_cases h : isT a = true ∧ isT b = true
  · rw [if_pos h]; exact num_fo h.1 h.2
  · rw [if_neg h]; exact num_zero
theorem wi {i : Nat} (h : i ≤ 1000000) : wrap64 ((i : Int) + 1) = ((i + 1 : Nat) : Int) := w64 (by omega) (by omega)
theorem rown_ev {r : Int} {l : List S31} (hok : SetOK r l) (hS : SetsOK l) (i : Int) : Ev (fun k => taskmasterref8_Own.f k r l i) (ownV r l i) := by
  obtain ⟨r0, r1, l1, l8, ht⟩ := hok
  unfold taskmasterref8_Own.f ownV
  by_cases c0 : i < 0
  · rw [if_neg (by omega)]; exact evp c0 (Ev.now _)
  by_cases c1 : i ≥ (l.length : Int)
  · rw [if_neg (by omega)]; exact evn c0 (evp c1 (Ev.now _))
  rw [if_pos ⟨by omega, by omega⟩]
  have hx := (hS _ (rd_in (i := i) (by omega) (by omega))).2
  have hc : Ev (fun k => taskmasterref2_Count.f k (rd_T31 l i).f8) ((pop 64 (rd_T31 l i).f8.toNat : Nat) : Int) := ⟨65, fun k hk => rcount_eq _ hx.1 hx.2 k (by omega)⟩
  exact evn c0 (evn c1 (evp (by omega) (evp (by omega) (Ev.bind hc (Ev.now _)))))
theorem rwork_ev {r : Int} {l : List S31} (hok : SetOK r l) {i : Int} (h0 : 0 ≤ i) (h1 : i < (l.length : Int)) : Ev (fun k => taskmasterref8_Work.f k r l i) (sum (rd_T31 l i).f6) := by
  have hx := hok.2.2.2.2 i h0 h1
  unfold taskmasterref8_Work.f
  exact evp h0 (evp h1 (Ev.bind ⟨9, fun k hk => work_eq _ _ _ _ _ _ _ _ _ hx.2.1 hx.2.2.2.1 k (by omega)⟩ (Ev.now _)))
theorem rcount_ev {n : Nat} (h : n < 18446744073709551616) : Ev (fun k => taskmasterref2_Count.f k (n : Int)) ((pop 64 n : Nat) : Int) := ⟨65, fun k hk => by
  have := rcount_eq (n : Int) (by omega) (by omega) k (by omega)
  rw [Int.toNat_natCast] at this; exact this⟩
theorem rmade_loop {r : Int} {l : List S31} (h : SetsOK l) (hl : l.length ≤ 1000) {i : Int} (c : 0 ≤ i ∧ i < (l.length : Int)) (d : Nat) : ∀ (j a : Nat), j + d = l.length → a < 18446744073709551616 →
    Ev (fun k => taskmasterref8_Made.l0 k i (a : Int) (j : Int) r l) (ticksV r ((rd_T31 l i).f7.toNat &&& orAll (l.drop j) a)) := by
  induction d with
  | zero =>
    intro j a hj ha
    have hx := (h _ (rd_in c.1 c.2)).1
    rw [List.drop_eq_nil_of_le (by omega)]
    refine Ev.step (fun k => by rw [taskmasterref8_Made.l0, and_int' ha hx]) ?_
    refine evn (by omega) ?_
    refine evp c.1 ?_
    refine evp c.2 ?_
    refine Ev.bind (rcount_ev (and_lt ha)) ?_
    show Ev (fun _ => some (ticksV r (a &&& (rd_T31 l i).f7.toNat))) (ticksV r ((rd_T31 l i).f7.toNat &&& a))
    rw [Nat.and_comm]
    exact Ev.now _
  | succ d ih =>
    intro j a hj ha
    have hlt : j < l.length := by omega
    have hx := (h _ (rd_in (i := (j : Int)) (by omega) (by omega))).2
    refine Ev.step (fun k => by rw [taskmasterref8_Made.l0, or_int ha hx]) ?_
    refine evp (by omega) ?_
    refine evp (by omega) ?_
    rw [wi (by omega), rd_dropT hlt]
    exact ih (j + 1) _ (by omega) (or_lt ha (by omega))
theorem rmade_ev {r : Int} {l : List S31} (h : SetsOK l) (hl : l.length ≤ 1000) {i : Int} (c : 0 ≤ i ∧ i < (l.length : Int)) : Ev (fun k => taskmasterref8_Made.f k r l i) (madeV r l i) := by
  unfold taskmasterref8_Made.f madeV
  rw [if_pos c]
  refine evn (by omega) ?_
  rw [decide_eq_false (by omega)]
  refine Ev.step (fun k => by rw [taskmasterref8_Made.j0, if_neg (by simp)]) ?_
  obtain ⟨n, rfl⟩ := Int.eq_ofNat_of_zero_le c.1
  rw [wi (by omega), Int.toNat_natCast]
  exact rmade_loop h hl c (l.length - (n + 1)) (n + 1) 0 (by omega) (by decide)
def workV (l : List S31) (j : Int) : Int := sum (rd_T31 l j).f6
theorem workV_in {r : Int} {l : List S31} (hok : SetOK r l) {j : Int} (h0 : 0 ≤ j) (h1 : j < (l.length : Int)) : 1 ≤ workV l j ∧ workV l j ≤ 80000 := by
  have hx := hok.2.2.2.2 j h0 h1
  have := sum_bound hx.2.2.2.1
  have h1 := hx.1
  have h8 := hx.2.1
  unfold workV; omega
theorem twork_at {r : Int} {l : List S31} (hok : SetOK r l) {j : Int} (h0 : 0 ≤ j) (h1 : j < (l.length : Int)) : Ev (fun k => task_Work.f k (rd_T31 l j).f0 (rd_T31 l j).f1 (rd_T31 l j).f2 (rd_T31 l j).f3 (rd_T31 l j).f4 (rd_T31 l j).f5 (rd_T31 l j).f6 (rd_T31 l j).f7 (rd_T31 l j).f8) (workV l j) := by
  have hx := hok.2.2.2.2 j h0 h1
  exact BlockPure.twork_ev _ _ _ _ _ _ _ _ hx.2.1 hx.2.2.2.1
theorem cost_ev {r : Int} {l : List S31} (hok : SetOK r l) (hS : SetsOK l) {j : Int} (h0 : 0 ≤ j) (h1 : j < (l.length : Int)) : Ev (fun k => again_Cost.f k r l j) (ofV (workV l j) (madeV r l j)) := by
  unfold again_Cost.f
  refine evb (is_at r l j) ?_
  refine evp (decide_eq_true ⟨h0, h1⟩) ?_
  exact evp h0 (evp h1 (Ev.bind (twork_at hok h0 h1) (Ev.bind (made_ev hS (by have := hok.2.2.2.1; omega) j) (evb (of_eq _ _) (Ev.now _)))))
theorem cost_no {r : Int} {l : List S31} {j : Int} (h : ¬ (0 ≤ j ∧ j < (l.length : Int))) : Ev (fun k => again_Cost.f k r l j) ((0, 0), false) := by
  unfold again_Cost.f
  refine evb (is_at r l j) ?_
  exact evn (by rw [decide_eq_false h]; simp) (Ev.now _)
theorem rmade_no {r : Int} {l : List S31} {j : Int} (h : ¬ (0 ≤ j ∧ j < (l.length : Int))) : Ev (fun k => taskmasterref8_Made.f k r l j) (madeV r l j) := by
  have e : madeV r l j = 0 := if_neg h
  rw [e]
  have no : Ev (fun k => taskmasterref8_Made.j0 k j true r l) 0 := Ev.step (fun k => by rw [taskmasterref8_Made.j0, if_pos rfl]) (Ev.now _)
  unfold taskmasterref8_Made.f
  by_cases c : j < 0
  · exact evp c no
  · rw [decide_eq_true (show j ≥ (l.length : Int) by omega)]; exact evn c no
end Go.Proofs.Ytmhioeoioohmpaa.TellsPure
namespace Go.Proofs.Ytmhioeoioohmpaa.Pure
open Go.RowKit Go.Proofs.Ytmhioeoioohmpaa.QAg Go.Proofs.YtmhioeoioohmpaaW.PrintWords Go.Proofs.YtmhioeoioohmpaaW.PrintLast Go.Proofs.YtmhioeoioohmpaaW.PrintMore Go.Proofs.Ytmhioeoioohmpaa.RefSet Go.Proofs.Ytmhioeoioohmpaa.AgainPure Go.Proofs.Ytmhioeoioohmpaa.TellsPure
set_option linter.unusedVariables false
theorem known8 : Ev (fun k => taskmasterlaw8_known.f k) true := Ev.of (fun k => taskmasterlaw8_known.mono k) (k := 20) (by decide +kernel)
theorem tells_end {r : Int} {l : List S31} (ok : SetOK r l) (hS : SetsOK l) {i : Int} {c d : Nat × Nat} {x y : Bool} (hm : Ev (fun k => taskmasterref8_Made.f k r l i) (madeV r l i)) (hc : c = d) (hn : Num2 c) (hx : x = y) : Ev (fun k => taskmasterlaw8_AgainTells.j2 k i c x y d r l) true := by
  subst hc hx
  refine Ev.step (fun k => by rw [taskmasterlaw8_AgainTells.j2]) (evb (own_eq hS i) (Ev.bind (rown_ev ok hS i) ?_))
  refine evp rfl (Ev.bind (made_ev hS (by have := ok.2.2.2.1; omega) i) (Ev.bind hm ?_))
  exact evp rfl (evp (same hn) (evp (by simp) (Ev.bind known8 (Ev.now true))))
theorem AgainTells (a0 : S24) (a1 : Int) (w0 : wf24 a0) (w1 : (Lit.int .i64 a1).wf = true) : ∃ k : Nat, taskmasterlaw8_AgainTells.f k a0.f0 a0.f1 a1 = some true := by
  refine Ev.rounds ?_
  have hS := sets_of w0.2
  obtain ⟨b, hb, hok⟩ := all_ends a0.f0 a0.f1 (sizes_of w0.2)
  generalize a0.f0 = r at *
  generalize a0.f1 = l at *
  have no : Ev (fun k => taskmasterlaw8_AgainTells.j0 k a1 true r l) true := Ev.step (fun k => by rw [taskmasterlaw8_AgainTells.j0, if_pos rfl]) (Ev.now true)
  unfold taskmasterlaw8_AgainTells.f
  by_cases c0 : (l.length : Int) > 10
  · exact evp c0 no
  refine evn c0 (Ev.bind hb ?_)
  by_cases c1 : b = true
  · have ok := hok c1
    rw [c1]
    by_cases h : 0 ≤ a1 ∧ a1 < (l.length : Int)
    · have hw := workV_in ok h.1 h.2
      have hm := madeV_in ok.1 ok.2.1 l a1
      have e : (ofV (workV l a1) (madeV r l a1)).2 = true := by
        unfold ofV; rw [if_pos ⟨isT_iff.mpr ⟨by omega, by omega⟩, isT_iff.mpr ⟨by omega, by omega⟩⟩]
      have hr := rmade_ev (r := r) hS (by have := ok.2.2.2.1; omega) h
      refine Ev.step (fun k => by rw [taskmasterlaw8_AgainTells.j0, if_neg (by simp)]) (Ev.bind (cost_ev ok hS h.1 h.2) ?_)
      refine evp h.1 ?_
      rw [decide_eq_true h.2]
      refine Ev.step (fun k => by rw [taskmasterlaw8_AgainTells.j1, if_pos rfl]) (Ev.bind (rwork_ev ok h.1 h.2) (Ev.bind hr (evb (rof_eq _ _) ?_)))
      exact tells_end ok hS hr rfl (ofV_num _ _) e
    · have hr := rmade_no (r := r) (l := l) h
      have fin : Ev (fun k => taskmasterlaw8_AgainTells.j1 k a1 ((0, 0) : Nat × Nat) false false r l) true := Ev.step (fun k => by rw [taskmasterlaw8_AgainTells.j1, if_neg (by simp)]) (tells_end ok hS hr rfl num_zero rfl)
      refine Ev.step (fun k => by rw [taskmasterlaw8_AgainTells.j0, if_neg (by simp)]) (Ev.bind (cost_no h) ?_)
      by_cases c : a1 ≥ 0
      · rw [decide_eq_false (show ¬ a1 < (l.length : Int) by omega)]; exact evp c fin
      · exact evn c fin
  · rw [show b = false by simpa using c1]; exact no
end Go.Proofs.Ytmhioeoioohmpaa.Pure
namespace Go.Proofs.Ytmhioeoioohmpaa.againTells
open Go.ChangeShapes Go.WideShapes Go.ChangeAt Go.RowKit
open Go.ChangeMaps (open_string shut_string)
open Go.Proofs.YtmhioeoioohmpaaW.PrintWords Go.Proofs.YtmhioeoioohmpaaW.PrintLast Go.Proofs.Ytmhioeoioohmpaa.QAg Go.Proofs.Ytmhioeoioohmpaa.Open
set_option linter.unusedVariables false
theorem own : ownKnob Try.prog.godebug = none := by kernel_rfl
theorem laidOut : laidOutB Try.prog = true := by kernel_rfl
set_option maxRecDepth 100000 in
theorem lifted (os : Os) (started : os.Started) (H : Type) (enc : TypeId × Value → H) :
    ReturnsInHanded {} Try.checked os 6 .any (Rows.againTellsSpec.pre6 enc Try.prog Try.f6 Rows.againTellsRow.domain false) (Rows.againTellsSpec.post enc Try.prog Try.f6 false true false false) := by
  refine returnsInHanded_of_change_sized (C := Try.checked) own started (by kernel_rfl) Try.func6
    (ChangeSpec.witness6 (enc := enc) (C := Try.checked) false ⟨#[], #[.agg #[.int .i64 0, .slice none 0 0], .int .i64 0], []⟩ 8 (by kernel_rfl) (by kernel_rfl) (by kernel_rfl) (by kernel_rfl)) ?_
  intro W base args ds gs before hval0 hW hcnd hsz0 _
  have hsz : (DataW.weightsEach Try.prog (Try.f6.params.toList ++ Rows.againTellsSpec.plain.varTypes Try.prog) (ds ++ gs)).all (· ≤ reachBytes) = true := hsz0
  have hval : ∀ (j : Nat) t v, Try.f6.params[j]? = some t → args[j]? = some v → Value.okWide Try.prog W .any base t v := hval0
  have hW' := hW
  obtain ⟨p, q, hA0, hV, rfl, hfz, hnd⟩ := hW
  have hA : DataW.TrodAll enc Try.prog W 0 (fun _ => true) true Try.f6.params.toList args.toList ds p := hA0
  rw [Try.params6] at hA hval hsz
  obtain ⟨v0, vs0, d0, ds0, p0, q0, hargs, rfl, rfl, h0, r0⟩ := trodAll_cons hA
  obtain ⟨v1, vs1, d1, ds1, p1, q1, rfl, rfl, rfl, h1, r1⟩ := trodAll_cons r0
  obtain ⟨rfl, rfl, rfl⟩ := trodAll_nil r1
  obtain rfl : args = #[v0, v1] := by cases args; simp_all
  obtain ⟨rfl, rfl⟩ := trodVars_none hV
  have k0 := h0
  have lt0 : ∀ x ∈ p0, x.block < W.heap.size := by obtain ⟨m, hm⟩ := k0; exact DataW.trod_lt m _ _ _ hm
  obtain ⟨a0, cs0, rfl, hk0, hw0⟩ := arg_struct Try.underlying24 (hval 0 24 v0 rfl rfl) opens24 h0
  obtain ⟨A0_1, c0_1, rfl, hc0_1, hr0_1⟩ := k24_open hk0
  obtain ⟨a1, rfl, rfl, rfl, w1⟩ := open_int Try.underlying3 (hval 1 3 v1 rfl rfl) h1
  clear hA0 hval0 hsz0 hsz
  obtain ⟨k, hk⟩ := Pure.AgainTells a0 a1 hw0 w1
  refine (taskmasterlaw8_AgainTells.calls (w := W) (h := hk) (hc0_1 := hc0_1) (hr0_1 := hr0_1)).mono fun e W' ⟨he, bel0⟩ => ?_
  have bel : Below W.heap.size W W' := bel0
  subst he
  exact ⟨_, rfl, _, _, _, [], _, [], hW', trodAll_mk1 (shut_bool Try.underlying4 _), (trodAll_cons_mk (Below.trod laidOut (by kernel_rfl) (of_decide_eq_true (by kernel_rfl)) k0 bel lt0) (trodAll_cons_mk (shut_int Try.underlying3 w1) trodAll_mk0)), rfl, bel.frame _, fun h => by cases h⟩
theorem over : Rows.againTellsRow.holds Try.pinned (OpenSpec.ofChange Rows.againTellsSpec) :=
  OpenClaim.holds_of_wide 6 Try.f6 rfl rfl rfl rfl rfl rfl rfl ⟨rfl, rfl, rfl, rfl, rfl⟩ rfl rfl rfl rfl rfl (by kernel_rfl) Try.func6 (by kernel_rfl)
    (of_decide_eq_true (by kernel_rfl)) (by unfold Func.isWrapper; first | (rw [if_pos (by decide +kernel)]; kernel_rfl) | (rw [if_neg (by decide +kernel)]; exact ⟨rfl, rfl⟩))
    (fun os started H enc _ => lifted os started H enc)
theorem proved : Rows.AgainTellsSaid := over
end Go.Proofs.Ytmhioeoioohmpaa.againTells
namespace Go.Proofs.Ytmhioeoioohmpaa
theorem againTells_holds : Rows.AgainTellsSaid := againTells.proved
end Go.Proofs.Ytmhioeoioohmpaa

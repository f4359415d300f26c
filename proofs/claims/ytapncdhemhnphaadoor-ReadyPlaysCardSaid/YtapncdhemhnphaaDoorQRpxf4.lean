/- What is proved: contracts of Go functions, each as a plain Lean function; written by a program of this session after the kit's print; conditions as each theorem names them. -/
import Derived.Test.YtapncdhemhnphaaDoorHandTz
import Derived.Test.YtapncdhemhnphaaDoorQRpx0
import Derived.Test.YtapncdhemhnphaaDoorQRpxf10
import Derived.Test.YtapncdhemhnphaaDoorQRpxf11
import Derived.Test.YtapncdhemhnphaaDoorQRpxf12
import Derived.Test.YtapncdhemhnphaaDoorQRpxf16
import Derived.Test.YtapncdhemhnphaaDoorQRpxf18
import Derived.Test.YtapncdhemhnphaaDoorQRpxf9
import Derived.Test.YtapncdhemhnphaaDoorHandArr
import Derived.Test.YtapncdhemhnphaaDoorHandDrop
namespace Go.Proofs.YtapncdhemhnphaaDoor.QRp
open Go.RowKit Go.Proofs.YtapncdhemhnphaaDoorW.PrintWords Go.Proofs.YtapncdhemhnphaaDoorW.PrintLast Go.Proofs.YtapncdhemhnphaaDoorW.PrintMore
attribute [local go_sem] max2_int min2_int max_two min_two max_three min_three max_four min_four   -- for this text's walks alone
set_option linter.unusedVariables false
set_option linter.unusedSimpArgs false

/-! ### taskmasterlaw23_ReadyPlays: function 4 -/
mutual
def taskmasterlaw23_ReadyPlays.l0 : Nat → List (S34) → Int → Int → Int → Option (Bool)
  | 0, _, _, _, _ => none
  | k + 1, x0, x5, x135000, x137000 => if x5 < (x0.length : Int) then (if 0 ≤ x5 then (if ((rd_T34 x0 x5).f0) = 1 then ((ready_Ready_Put.f k x135000 ((rd_T34 x0 x5).f1)).bind fun bt140 => ((taskmasterref23_Ready_Put.f x137000 ((rd_T34 x0 x5).f1)).bind fun bt142 => (taskmasterlaw23_ReadyPlays.j1 k x0 x5 ((rd_T34 x0 x5).f1) (bt140.1 == bt142.1) bt140.2 bt142.2))) else (if ((rd_T34 x0 x5).f0) = 2 then ((ready_Ready_Drop.f k x135000 ((rd_T34 x0 x5).f1)).bind fun bt144 => ((taskmasterref23_Ready_Drop.f x137000 ((rd_T34 x0 x5).f1)).bind fun bt146 => (taskmasterlaw23_ReadyPlays.j1 k x0 x5 ((rd_T34 x0 x5).f1) (bt144.1 == bt146.1) bt144.2 bt146.2))) else ((ready_Ready_Has.f x135000 ((rd_T34 x0 x5).f1)).bind fun bt148 => ((taskmasterref23_Ready_Has.f x137000 ((rd_T34 x0 x5).f1)).bind fun bt150 => (taskmasterlaw23_ReadyPlays.j1 k x0 x5 ((rd_T34 x0 x5).f1) (bt148.1 == bt150.1) bt148.2 bt150.2))))) else (none)) else ((taskmasterlaw23_known.f k).bind fun t137 => (some t137))
def taskmasterlaw23_ReadyPlays.j1 : Nat → List (S34) → Int → Int → Bool → Int → Int → Option (Bool)
  | 0, _, _, _, _, _, _ => none
  | k + 1, x0, x5, x6, x7, x135000, x137000 => (ready_Ready_First.f x135000).bind fun bt152 => ((taskmasterref23_Ready_First.f x137000).bind fun bt155 => (if x7 = true then (if bt152.1 = bt155.1 then (if (bt152.2.1 != bt155.2.1) = true then (some false) else ((ready_Ready_Ahead.f bt152.2.2 x6).bind fun bt158 => ((taskmasterref23_Ready_Ahead.f bt155.2.2 x6).bind fun bt160 => (if (bt158.1 != bt160.1) = true then (some false) else (taskmasterlaw23_ReadyPlays.l0 k x0 (wrap64 (x5 + 1)) bt158.2 bt160.2))))) else (some false)) else (some false)))
end
def taskmasterlaw23_ReadyPlays.f (k : Nat) (l0 : List (S34)) : Option (Bool) := if (l0.length : Int) > 200 then (some true) else ((ready_New.f).bind fun t133 => ((newA.f).bind fun t135 => (taskmasterlaw23_ReadyPlays.l0 k l0 0 t133 t135)))
theorem taskmasterlaw23_ReadyPlays.mono_l : ∀ k, (∀ y0 y1 y2 y3, LeO (taskmasterlaw23_ReadyPlays.l0 k y0 y1 y2 y3) (taskmasterlaw23_ReadyPlays.l0 (k + 1) y0 y1 y2 y3)) ∧ (∀ y0 y1 y2 y3 y4 y5, LeO (taskmasterlaw23_ReadyPlays.j1 k y0 y1 y2 y3 y4 y5) (taskmasterlaw23_ReadyPlays.j1 (k + 1) y0 y1 y2 y3 y4 y5))
  | 0 => ⟨fun _ _ _ _ r h => by simp [taskmasterlaw23_ReadyPlays.l0] at h, fun _ _ _ _ _ _ r h => by simp [taskmasterlaw23_ReadyPlays.j1] at h⟩
  | k + 1 => by
    obtain ⟨ih0, ih1⟩ := taskmasterlaw23_ReadyPlays.mono_l k
    refine ⟨?_, ?_⟩
    · intro y0 y1 y2 y3
      unfold taskmasterlaw23_ReadyPlays.l0
      repeat' first
      | (with_reducible exact ih0 _ _ _ _)
      | (with_reducible exact ih1 _ _ _ _ _ _)
      | (with_reducible exact ready_Ready_Drop.mono _ _ _)
      | (with_reducible exact ready_Ready_Put.mono _ _ _)
      | (with_reducible exact taskmasterlaw23_known.mono _)
      | (with_reducible exact LeO.refl _)
      | (with_reducible exact LeO.none _)
      | (with_reducible refine LeO.ite ?_ ?_)
      | (with_reducible refine LeO.bind ?_ (fun _ => ?_))
      | exact ih0 _ _ _ _
      | exact ih1 _ _ _ _ _ _
      | exact ready_Ready_Drop.mono _ _ _
      | exact ready_Ready_Put.mono _ _ _
      | exact taskmasterlaw23_known.mono _
      | exact LeO.none _
      | refine LeO.ite ?_ ?_
      | refine LeO.bind ?_ (fun _ => ?_)
    · intro y0 y1 y2 y3 y4 y5
      unfold taskmasterlaw23_ReadyPlays.j1
      repeat' first
      | (with_reducible exact ih0 _ _ _ _)
      | (with_reducible exact ih1 _ _ _ _ _ _)
      | (with_reducible exact ready_Ready_Drop.mono _ _ _)
      | (with_reducible exact ready_Ready_Put.mono _ _ _)
      | (with_reducible exact taskmasterlaw23_known.mono _)
      | (with_reducible exact LeO.refl _)
      | (with_reducible exact LeO.none _)
      | (with_reducible refine LeO.ite ?_ ?_)
      | (with_reducible refine LeO.bind ?_ (fun _ => ?_))
      | exact ih0 _ _ _ _
      | exact ih1 _ _ _ _ _ _
      | exact ready_Ready_Drop.mono _ _ _
      | exact ready_Ready_Put.mono _ _ _
      | exact taskmasterlaw23_known.mono _
      | exact LeO.none _
      | refine LeO.ite ?_ ?_
      | refine LeO.bind ?_ (fun _ => ?_)
theorem taskmasterlaw23_ReadyPlays.mono : ∀ a0 k, LeO (taskmasterlaw23_ReadyPlays.f k a0) (taskmasterlaw23_ReadyPlays.f (k + 1) a0) := by
  intro a0 k
  obtain ⟨ih0, ih1⟩ := taskmasterlaw23_ReadyPlays.mono_l k
  unfold taskmasterlaw23_ReadyPlays.f
  repeat' first
      | (with_reducible exact ih0 _ _ _ _)
      | (with_reducible exact ih1 _ _ _ _ _ _)
      | (with_reducible exact ready_Ready_Drop.mono _ _ _)
      | (with_reducible exact ready_Ready_Put.mono _ _ _)
      | (with_reducible exact taskmasterlaw23_known.mono _)
      | (with_reducible exact LeO.refl _)
      | (with_reducible exact LeO.none _)
      | (with_reducible refine LeO.ite ?_ ?_)
      | (with_reducible refine LeO.bind ?_ (fun _ => ?_))
      | exact ih0 _ _ _ _
      | exact ih1 _ _ _ _ _ _
      | exact ready_Ready_Drop.mono _ _ _
      | exact ready_Ready_Put.mono _ _ _
      | exact taskmasterlaw23_known.mono _
      | exact LeO.none _
      | refine LeO.ite ?_ ?_
      | refine LeO.bind ?_ (fun _ => ?_)
set_option maxHeartbeats 8000000 in
set_option maxRecDepth 100000 in
theorem taskmasterlaw23_ReadyPlays.calls (k : Nat) (A0 : Option Addr) (c0 : Nat) (l0 : List (S34)) (r : Bool) (w : World) (hr0 : Kd.C k34 w A0 l0.length l0) (hc0 : l0.length ≤ c0) (hT : TabW w) (h : taskmasterlaw23_ReadyPlays.f k l0 = some r) :
    Calls Tryd.prog 4 #[.slice A0 l0.length c0] w fun e w' => e = .returned (.bool r) ∧ Below w.heap.size w w' := by
  have HT := Aside0.mk hT
  clear hT
  have HR0 := Aside0.mk hr0
  have HC0 := Aside0.mk hc0
  clear hr0 hc0
  have HB := Aside0.mk (Below.refl w.heap.size w)
  have H : (if (l0.length : Int) > 200 then (some true) else ((ready_New.f).bind fun t133 => ((newA.f).bind fun t135 => (taskmasterlaw23_ReadyPlays.l0 k l0 0 t133 t135)))) = some r := h
  clear h
  by_cases c2 : (l0.length : Int) > 200
  · rw [if_pos c2] at H
    have c2b0 : decide (200 < (l0.length : Int)) = true := decide_eq_true c2
    have c2b1 : decide (200 < l0.length) = true := decide_eq_true (by omega)
    clear c2
    obtain rfl := Option.some.inj H
    go_enter Tryd.func4, Tryd.ntmps4
    go_wp2
    go_ret
    exact ⟨by first | rfl | (simp [errW_none, errW_some] <;> rfl) | (simp [*, errW_none, errW_some] <;> rfl), by repeat (first | (with_reducible first | exact HB.out | apply below_alloc | apply pw_below_drewN | apply below_drew1) | exact HB.out)⟩
  · rw [if_neg c2] at H
    have c2b0 : decide (200 < (l0.length : Int)) = false := decide_eq_false c2
    have c2b1 : decide (200 < l0.length) = false := decide_eq_false (by omega)
    clear c2
    replace H := Option.bind_eq_some_iff.mp H
    obtain ⟨t133, A30, H⟩ := H
    replace H : ((newA.f).bind fun t135 => (taskmasterlaw23_ReadyPlays.l0 k l0 0 t133 t135)) = some r := H
    have A3 := Aside0.mk A30
    clear A30
    replace H := Option.bind_eq_some_iff.mp H
    obtain ⟨t135, A40, H⟩ := H
    replace H : (taskmasterlaw23_ReadyPlays.l0 k l0 0 t133 t135) = some r := H
    have A4 := Aside0.mk A40
    clear A40
    have H' := Aside0.mk H
    clear H
    go_enter Tryd.func4, Tryd.ntmps4
    go_wp2_with (first | ((with_reducible refine gate_callee (f := 9) rfl ?_); refine goesL_ (some 15) rfl rfl Tryd.func9 (by kernel_rfl) rfl #[] rfl (by (try simp only [List.map_toArray, List.map_cons, List.map_nil]); first | done | rfl | (simp only [List.length_drop, List.length_take]; rfl)) ?_; (with_reducible refine (ready_New.calls  t133 w _ ?side1 A3.out).mono ?_); (case side1 => repeat (first | (with_reducible first | exact HB.out | apply below_alloc | apply pw_below_drewN | apply below_drew1) | exact HB.out)); rintro e w5 ⟨g134, rfl, hi, hb, hb2⟩; refine ⟨_, rfl, ?_⟩; have n0_ := Aside0.mk (hb); have n1_ := Aside0.mk (hi); clear HB; have HB := n0_; have HI134 := n1_; clear n0_ n1_; (try clear hb); (try clear hb2); (try clear hk); (try clear hi)))
    obtain rfl := Option.some.inj (show some (0 : Int) = some t135 from A4.out)
    simp only [bcells_zero]
    have n0_ := Aside0.mk (IsS58.alloc HI134.out (.cells (bcells 0) 32))
    have n1_ := Aside0.mk (below_alloc HB.out (.cells (bcells 0) 32))
    have n2_ := Aside0.mk (IsS32.newA w w5 0 HB.out)
    generalize w5.alloc (.cells (bcells 0) 32) = w6 at n0_ n1_ n2_ ⊢
    generalize w5.heap.size = g136 at n2_ ⊢
    clear HI134 HB
    have HI134 := n0_
    have HB := n1_
    have HI136 := n2_
    clear n0_ n1_ n2_
    go_loopg [5] k (fun kq v5 w' => ∃ (x5_1 : Int) (x135000_1 : Int) (x137000_1 : Int), v5 = .int .i64 x5_1 ∧ Aside0 (taskmasterlaw23_ReadyPlays.l0 kq l0 x5_1 x135000_1 x137000_1 = some r) ∧ Aside0 (kq ≤ k) ∧ Aside0 (IsS58 w w' g134 x135000_1) ∧ Aside0 (IsS32 w w' g136 x137000_1) ∧ Aside0 (Below w.heap.size w w'))
    case atStart => exact ⟨(0), (t133), (0), (by first | rfl | (simp; done) | (simp [*]; done)), H', ⟨Nat.le_refl _⟩, ⟨by repeat (first | (with_reducible first | exact HI134.out | apply IsS58.alloc | apply IsS58.drewN | apply IsS58.drew | apply IsS58.set_0) | exact HI134.out)⟩, ⟨by repeat (first | (with_reducible first | exact HI136.out | apply IsS32.alloc | apply IsS32.drewN | apply IsS32.drew | apply IsS32.set_0) | exact HI136.out)⟩, ⟨by repeat (first | (with_reducible first | exact HB.out | apply below_alloc | apply pw_below_drewN | apply below_drew1 | refine below_set ?_ (IsS58.ge HI134.out) | refine below_set ?_ (IsS32.ge HI136.out)) | exact HB.out)⟩⟩
    case round =>
      clear H'
      try clear c2
      try clear c2b0
      try clear c2b1
      try clear p2
      try clear c4
      obtain ⟨x5_1, x135000_1, x137000_1, rfl, HA, HK1, HI134, HI136, HB⟩ := hrel
      cases gk with
      | zero => exact absurd HA.out (by simp [taskmasterlaw23_ReadyPlays.l0])
      | succ k1 =>
        have H := HA.out
        clear HA
        simp only [taskmasterlaw23_ReadyPlays.l0] at H
        by_cases c7 : x5_1 < (l0.length : Int)
        · rw [if_pos c7] at H
          have c7b0 : decide (x5_1 < (l0.length : Int)) = true := decide_eq_true c7
          clear c7
          by_cases c8 : 0 ≤ x5_1
          · rw [if_pos c8] at H
            have c8b0 : decide (0 ≤ x5_1) = true := decide_eq_true c8
            clear c8
            have HC9 := Aside0.mk H
            clear H
            have p138 : 0 ≤ (x5_1 : Int) := of_decide_eq_true (by first | (with_reducible assumption) | assumption)
            have q138 : x5_1 < (l0.length : Int) := of_decide_eq_true (by first | (with_reducible assumption) | assumption)
            obtain ⟨ad138, e138, hx138_0, hx138_1⟩ := at_T34 HR0.out x5_1 p138 q138
            cases e138
            replace hx138_0 := (HB.out.cell (World.block_lt_of_cell? w _ hx138_0)).trans hx138_0
            replace hx138_1 := (HB.out.cell (World.block_lt_of_cell? w _ hx138_1)).trans hx138_1
            replace p138 := eq_true p138
            replace q138 := eq_true q138
            have p139 : 0 ≤ (x5_1 : Int) := of_decide_eq_true (by first | (with_reducible assumption) | assumption)
            have q139 : x5_1 < (l0.length : Int) := of_decide_eq_true (by first | (with_reducible assumption) | assumption)
            obtain ⟨ad139, e139, hx139_0, hx139_1⟩ := at_T34 HR0.out x5_1 p139 q139
            obtain rfl : ad138 = ad139 := (by injection e139)
            replace hx139_0 := (HB.out.cell (World.block_lt_of_cell? w _ hx139_0)).trans hx139_0
            replace hx139_1 := (HB.out.cell (World.block_lt_of_cell? w _ hx139_1)).trans hx139_1
            replace p139 := eq_true p139
            replace q139 := eq_true q139
            go_upto_block 2 with (fail)
            go_cut [7] (fun v7 wc => ∃ (kq : Nat) (x7_8 : Bool) (x135000_8 : Int) (x137000_8 : Int), v7 = .bool x7_8 ∧ Aside0 (taskmasterlaw23_ReadyPlays.j1 kq l0 x5_1 ((rd_T34 l0 x5_1).f1) x7_8 x135000_8 x137000_8 = some r) ∧ Aside0 (kq ≤ k1) ∧ Aside0 (IsS58 w wc g134 x135000_8) ∧ Aside0 (IsS32 w wc g136 x137000_8) ∧ Aside0 (Below w.heap.size w wc))
            case first =>
              have H := HC9.out
              clear HC9
              by_cases c10 : ((rd_T34 l0 x5_1).f0) = 1
              · rw [if_pos c10] at H
                have c10b0 : (((rd_T34 l0 x5_1).f0) == 1) = true := beq_iff_eq.mpr c10
                have c10b1 : (((rd_T34 l0 x5_1).f0) != 1) = false := bne_eq_false_iff_eq.mpr c10
                clear c10
                (first | rw [c10b0] | (simp only [i64_w, i32_w]; rw [c10b0]) | skip)
                replace H := Option.bind_eq_some_iff.mp H
                obtain ⟨⟨t140, t141⟩, A110, H⟩ := H
                replace H : ((taskmasterref23_Ready_Put.f x137000_1 ((rd_T34 l0 x5_1).f1)).bind fun bt142 => (taskmasterlaw23_ReadyPlays.j1 k1 l0 x5_1 ((rd_T34 l0 x5_1).f1) (t140 == bt142.1) t141 bt142.2)) = some r := H
                have A11 := Aside0.mk A110
                clear A110
                replace H := Option.bind_eq_some_iff.mp H
                obtain ⟨⟨t142, t143⟩, A120, H⟩ := H
                replace H : (taskmasterlaw23_ReadyPlays.j1 k1 l0 x5_1 ((rd_T34 l0 x5_1).f1) (t140 == t142) t141 t143) = some r := H
                have A12 := Aside0.mk A120
                clear A120
                have H' := Aside0.mk H
                clear H
                go_wp2_with (first | ((with_reducible refine gate_callee (f := 10) rfl ?_); refine goesL_ (some 49) rfl rfl Tryd.func10 (by kernel_rfl) rfl #[.pointer (some ⟨g134, 0, none⟩), .int .i64 ((rd_T34 l0 x5_1).f1)] rfl (by (try simp only [List.map_toArray, List.map_cons, List.map_nil]); first | done | rfl | (simp only [List.length_drop, List.length_take]; rfl)) ?_; (with_reducible refine (ready_Ready_Put.calls k1 g134 x135000_1 ((rd_T34 l0 x5_1).f1) t140 t141 w _ ?side1 ?side2 A11.out).mono ?_); (case side1 => repeat (first | (with_reducible first | exact HI134.out | apply IsS58.alloc | apply IsS58.drewN | apply IsS58.drew | apply IsS58.set_0) | exact HI134.out)); (case side2 => repeat (first | (with_reducible first | exact HB.out | apply below_alloc | apply pw_below_drewN | apply below_drew1 | refine below_set ?_ (IsS58.ge HI134.out) | refine below_set ?_ (IsS32.ge HI136.out)) | exact HB.out)); rintro e w13 ⟨rfl, hi, hb, hk⟩; refine ⟨_, rfl, ?_⟩; have n0_ := Aside0.mk ((show IsS32 w w13 g136 x137000_1 from ⟨KeepBut.blk hk (show IsS32 w _ g136 x137000_1 from by repeat (first | (with_reducible first | exact HI136.out | apply IsS32.alloc | apply IsS32.drewN | apply IsS32.drew | apply IsS32.set_0) | exact HI136.out)).1 (IsS32.ne_blk (show IsS32 w _ g136 x137000_1 from by repeat (first | (with_reducible first | exact HI136.out | apply IsS32.alloc | apply IsS32.drewN | apply IsS32.drew | apply IsS32.set_0) | exact HI136.out)) (show IsS58 w _ g134 x135000_1 from by repeat (first | (with_reducible first | exact HI134.out | apply IsS58.alloc | apply IsS58.drewN | apply IsS58.drew | apply IsS58.set_0) | exact HI134.out)).1 (by decide)) (by simp), (show IsS32 w _ g136 x137000_1 from by repeat (first | (with_reducible first | exact HI136.out | apply IsS32.alloc | apply IsS32.drewN | apply IsS32.drew | apply IsS32.set_0) | exact HI136.out)).2⟩)); have n1_ := Aside0.mk (hb); have n2_ := Aside0.mk (hi); clear HI136; clear HB; clear HI134; have HI136 := n0_; have HB := n1_; have HI134 := n2_; clear n0_ n1_ n2_; (try clear hb); (try clear hb2); (try clear hk); (try clear hi)) | ((with_reducible refine gate_callee (f := 13) rfl ?_); refine goesL_ (some 52) rfl rfl Tryd.func13 (by kernel_rfl) rfl #[.pointer (some ⟨g136, 0, none⟩), .int .i64 ((rd_T34 l0 x5_1).f1)] rfl (by (try simp only [List.map_toArray, List.map_cons, List.map_nil]); first | done | rfl | (simp only [List.length_drop, List.length_take]; rfl)) ?_; (with_reducible refine (taskmasterref23_Ready_Put.calls g136 x137000_1 ((rd_T34 l0 x5_1).f1) t142 t143 w _ ?side1 ?side2 A12.out).mono ?_); (case side1 => repeat (first | (with_reducible first | exact HI136.out | apply IsS32.alloc | apply IsS32.drewN | apply IsS32.drew | apply IsS32.set_0) | exact HI136.out)); (case side2 => repeat (first | (with_reducible first | exact HB.out | apply below_alloc | apply pw_below_drewN | apply below_drew1 | refine below_set ?_ (IsS58.ge HI134.out) | refine below_set ?_ (IsS32.ge HI136.out)) | exact HB.out)); rintro e w14 ⟨rfl, hi, hb, hk⟩; refine ⟨_, rfl, ?_⟩; have n0_ := Aside0.mk ((show IsS58 w w14 g134 t141 from ⟨KeepBut.blk hk (show IsS58 w _ g134 t141 from by repeat (first | (with_reducible first | exact HI134.out | apply IsS58.alloc | apply IsS58.drewN | apply IsS58.drew | apply IsS58.set_0) | exact HI134.out)).1 (IsS58.ne_blk (show IsS58 w _ g134 t141 from by repeat (first | (with_reducible first | exact HI134.out | apply IsS58.alloc | apply IsS58.drewN | apply IsS58.drew | apply IsS58.set_0) | exact HI134.out)) (show IsS32 w _ g136 x137000_1 from by repeat (first | (with_reducible first | exact HI136.out | apply IsS32.alloc | apply IsS32.drewN | apply IsS32.drew | apply IsS32.set_0) | exact HI136.out)).1 (by decide)) (by simp), (show IsS58 w _ g134 t141 from by repeat (first | (with_reducible first | exact HI134.out | apply IsS58.alloc | apply IsS58.drewN | apply IsS58.drew | apply IsS58.set_0) | exact HI134.out)).2⟩)); have n1_ := Aside0.mk (hb); have n2_ := Aside0.mk (hi); clear HI134; clear HB; clear HI136; have HI134 := n0_; have HB := n1_; have HI136 := n2_; clear n0_ n1_ n2_; (try clear hb); (try clear hb2); (try clear hk); (try clear hi)))
                go_meet
                case rel => exact ⟨_, ((t140 == t142)), (t141), (t143), (by first | rfl | (simp; done) | (simp [*]; done)), H', ⟨by have := HK1.out; first | omega | exact Nat.le_refl _⟩, ⟨by repeat (first | (with_reducible first | exact HI134.out | apply IsS58.alloc | apply IsS58.drewN | apply IsS58.drew | apply IsS58.set_0) | exact HI134.out)⟩, ⟨by repeat (first | (with_reducible first | exact HI136.out | apply IsS32.alloc | apply IsS32.drewN | apply IsS32.drew | apply IsS32.set_0) | exact HI136.out)⟩, ⟨by repeat (first | (with_reducible first | exact HB.out | apply below_alloc | apply pw_below_drewN | apply below_drew1 | refine below_set ?_ (IsS58.ge HI134.out) | refine below_set ?_ (IsS32.ge HI136.out)) | exact HB.out)⟩⟩
              · rw [if_neg c10] at H
                have c10b0 : (((rd_T34 l0 x5_1).f0) == 1) = false := beq_eq_false_iff_ne.mpr c10
                have c10b1 : (((rd_T34 l0 x5_1).f0) != 1) = true := bne_iff_ne.mpr c10
                (first | rw [c10b0] | (simp only [i64_w, i32_w]; rw [c10b0]) | skip)
                by_cases c15 : ((rd_T34 l0 x5_1).f0) = 2
                · rw [if_pos c15] at H
                  have c15b0 : (((rd_T34 l0 x5_1).f0) == 2) = true := beq_iff_eq.mpr c15
                  have c15b1 : (((rd_T34 l0 x5_1).f0) != 2) = false := bne_eq_false_iff_eq.mpr c15
                  clear c15
                  replace H := Option.bind_eq_some_iff.mp H
                  obtain ⟨⟨t144, t145⟩, A160, H⟩ := H
                  replace H : ((taskmasterref23_Ready_Drop.f x137000_1 ((rd_T34 l0 x5_1).f1)).bind fun bt146 => (taskmasterlaw23_ReadyPlays.j1 k1 l0 x5_1 ((rd_T34 l0 x5_1).f1) (t144 == bt146.1) t145 bt146.2)) = some r := H
                  have A16 := Aside0.mk A160
                  clear A160
                  replace H := Option.bind_eq_some_iff.mp H
                  obtain ⟨⟨t146, t147⟩, A170, H⟩ := H
                  replace H : (taskmasterlaw23_ReadyPlays.j1 k1 l0 x5_1 ((rd_T34 l0 x5_1).f1) (t144 == t146) t145 t147) = some r := H
                  have A17 := Aside0.mk A170
                  clear A170
                  have H' := Aside0.mk H
                  clear H
                  go_wp2_with (first | ((with_reducible refine gate_callee (f := 14) rfl ?_); refine goesL_ (some 58) rfl rfl Tryd.func14 (by kernel_rfl) rfl #[.pointer (some ⟨g134, 0, none⟩), .int .i64 ((rd_T34 l0 x5_1).f1)] rfl (by (try simp only [List.map_toArray, List.map_cons, List.map_nil]); first | done | rfl | (simp only [List.length_drop, List.length_take]; rfl)) ?_; (with_reducible refine (ready_Ready_Drop.calls k1 g134 x135000_1 ((rd_T34 l0 x5_1).f1) t144 t145 w _ ?side1 ?side2 A16.out).mono ?_); (case side1 => repeat (first | (with_reducible first | exact HI134.out | apply IsS58.alloc | apply IsS58.drewN | apply IsS58.drew | apply IsS58.set_0) | exact HI134.out)); (case side2 => repeat (first | (with_reducible first | exact HB.out | apply below_alloc | apply pw_below_drewN | apply below_drew1 | refine below_set ?_ (IsS58.ge HI134.out) | refine below_set ?_ (IsS32.ge HI136.out)) | exact HB.out)); rintro e w18 ⟨rfl, hi, hb, hk⟩; refine ⟨_, rfl, ?_⟩; have n0_ := Aside0.mk ((show IsS32 w w18 g136 x137000_1 from ⟨KeepBut.blk hk (show IsS32 w _ g136 x137000_1 from by repeat (first | (with_reducible first | exact HI136.out | apply IsS32.alloc | apply IsS32.drewN | apply IsS32.drew | apply IsS32.set_0) | exact HI136.out)).1 (IsS32.ne_blk (show IsS32 w _ g136 x137000_1 from by repeat (first | (with_reducible first | exact HI136.out | apply IsS32.alloc | apply IsS32.drewN | apply IsS32.drew | apply IsS32.set_0) | exact HI136.out)) (show IsS58 w _ g134 x135000_1 from by repeat (first | (with_reducible first | exact HI134.out | apply IsS58.alloc | apply IsS58.drewN | apply IsS58.drew | apply IsS58.set_0) | exact HI134.out)).1 (by decide)) (by simp), (show IsS32 w _ g136 x137000_1 from by repeat (first | (with_reducible first | exact HI136.out | apply IsS32.alloc | apply IsS32.drewN | apply IsS32.drew | apply IsS32.set_0) | exact HI136.out)).2⟩)); have n1_ := Aside0.mk (hb); have n2_ := Aside0.mk (hi); clear HI136; clear HB; clear HI134; have HI136 := n0_; have HB := n1_; have HI134 := n2_; clear n0_ n1_ n2_; (try clear hb); (try clear hb2); (try clear hk); (try clear hi)) | ((with_reducible refine gate_callee (f := 15) rfl ?_); refine goesL_ (some 61) rfl rfl Tryd.func15 (by kernel_rfl) rfl #[.pointer (some ⟨g136, 0, none⟩), .int .i64 ((rd_T34 l0 x5_1).f1)] rfl (by (try simp only [List.map_toArray, List.map_cons, List.map_nil]); first | done | rfl | (simp only [List.length_drop, List.length_take]; rfl)) ?_; (with_reducible refine (taskmasterref23_Ready_Drop.calls g136 x137000_1 ((rd_T34 l0 x5_1).f1) t146 t147 w _ ?side1 ?side2 A17.out).mono ?_); (case side1 => repeat (first | (with_reducible first | exact HI136.out | apply IsS32.alloc | apply IsS32.drewN | apply IsS32.drew | apply IsS32.set_0) | exact HI136.out)); (case side2 => repeat (first | (with_reducible first | exact HB.out | apply below_alloc | apply pw_below_drewN | apply below_drew1 | refine below_set ?_ (IsS58.ge HI134.out) | refine below_set ?_ (IsS32.ge HI136.out)) | exact HB.out)); rintro e w19 ⟨rfl, hi, hb, hk⟩; refine ⟨_, rfl, ?_⟩; have n0_ := Aside0.mk ((show IsS58 w w19 g134 t145 from ⟨KeepBut.blk hk (show IsS58 w _ g134 t145 from by repeat (first | (with_reducible first | exact HI134.out | apply IsS58.alloc | apply IsS58.drewN | apply IsS58.drew | apply IsS58.set_0) | exact HI134.out)).1 (IsS58.ne_blk (show IsS58 w _ g134 t145 from by repeat (first | (with_reducible first | exact HI134.out | apply IsS58.alloc | apply IsS58.drewN | apply IsS58.drew | apply IsS58.set_0) | exact HI134.out)) (show IsS32 w _ g136 x137000_1 from by repeat (first | (with_reducible first | exact HI136.out | apply IsS32.alloc | apply IsS32.drewN | apply IsS32.drew | apply IsS32.set_0) | exact HI136.out)).1 (by decide)) (by simp), (show IsS58 w _ g134 t145 from by repeat (first | (with_reducible first | exact HI134.out | apply IsS58.alloc | apply IsS58.drewN | apply IsS58.drew | apply IsS58.set_0) | exact HI134.out)).2⟩)); have n1_ := Aside0.mk (hb); have n2_ := Aside0.mk (hi); clear HI134; clear HB; clear HI136; have HI134 := n0_; have HB := n1_; have HI136 := n2_; clear n0_ n1_ n2_; (try clear hb); (try clear hb2); (try clear hk); (try clear hi)))
                  go_meet
                  case rel => exact ⟨_, ((t144 == t146)), (t145), (t147), (by first | rfl | (simp; done) | (simp [*]; done)), H', ⟨by have := HK1.out; first | omega | exact Nat.le_refl _⟩, ⟨by repeat (first | (with_reducible first | exact HI134.out | apply IsS58.alloc | apply IsS58.drewN | apply IsS58.drew | apply IsS58.set_0) | exact HI134.out)⟩, ⟨by repeat (first | (with_reducible first | exact HI136.out | apply IsS32.alloc | apply IsS32.drewN | apply IsS32.drew | apply IsS32.set_0) | exact HI136.out)⟩, ⟨by repeat (first | (with_reducible first | exact HB.out | apply below_alloc | apply pw_below_drewN | apply below_drew1 | refine below_set ?_ (IsS58.ge HI134.out) | refine below_set ?_ (IsS32.ge HI136.out)) | exact HB.out)⟩⟩
                · rw [if_neg c15] at H
                  have c15b0 : (((rd_T34 l0 x5_1).f0) == 2) = false := beq_eq_false_iff_ne.mpr c15
                  have c15b1 : (((rd_T34 l0 x5_1).f0) != 2) = true := bne_iff_ne.mpr c15
                  replace H := Option.bind_eq_some_iff.mp H
                  obtain ⟨⟨t148, t149⟩, A200, H⟩ := H
                  replace H : ((taskmasterref23_Ready_Has.f x137000_1 ((rd_T34 l0 x5_1).f1)).bind fun bt150 => (taskmasterlaw23_ReadyPlays.j1 k1 l0 x5_1 ((rd_T34 l0 x5_1).f1) (t148 == bt150.1) t149 bt150.2)) = some r := H
                  have A20 := Aside0.mk A200
                  clear A200
                  replace H := Option.bind_eq_some_iff.mp H
                  obtain ⟨⟨t150, t151⟩, A210, H⟩ := H
                  replace H : (taskmasterlaw23_ReadyPlays.j1 k1 l0 x5_1 ((rd_T34 l0 x5_1).f1) (t148 == t150) t149 t151) = some r := H
                  have A21 := Aside0.mk A210
                  clear A210
                  have H' := Aside0.mk H
                  clear H
                  go_wp2_with (first | ((with_reducible refine gate_callee (f := 16) rfl ?_); refine goesL_ (some 40) rfl rfl Tryd.func16 (by kernel_rfl) rfl #[.pointer (some ⟨g134, 0, none⟩), .int .i64 ((rd_T34 l0 x5_1).f1)] rfl (by (try simp only [List.map_toArray, List.map_cons, List.map_nil]); first | done | rfl | (simp only [List.length_drop, List.length_take]; rfl)) ?_; (with_reducible refine (ready_Ready_Has.calls g134 x135000_1 ((rd_T34 l0 x5_1).f1) t148 t149 w _ ?side1 ?side2 A20.out).mono ?_); (case side1 => repeat (first | (with_reducible first | exact HI134.out | apply IsS58.alloc | apply IsS58.drewN | apply IsS58.drew | apply IsS58.set_0) | exact HI134.out)); (case side2 => repeat (first | (with_reducible first | exact HB.out | apply below_alloc | apply pw_below_drewN | apply below_drew1 | refine below_set ?_ (IsS58.ge HI134.out) | refine below_set ?_ (IsS32.ge HI136.out)) | exact HB.out)); rintro e w22 ⟨rfl, hi, hb, hk⟩; refine ⟨_, rfl, ?_⟩; have n0_ := Aside0.mk ((show IsS32 w w22 g136 x137000_1 from ⟨KeepBut.blk hk (show IsS32 w _ g136 x137000_1 from by repeat (first | (with_reducible first | exact HI136.out | apply IsS32.alloc | apply IsS32.drewN | apply IsS32.drew | apply IsS32.set_0) | exact HI136.out)).1 (IsS32.ne_blk (show IsS32 w _ g136 x137000_1 from by repeat (first | (with_reducible first | exact HI136.out | apply IsS32.alloc | apply IsS32.drewN | apply IsS32.drew | apply IsS32.set_0) | exact HI136.out)) (show IsS58 w _ g134 x135000_1 from by repeat (first | (with_reducible first | exact HI134.out | apply IsS58.alloc | apply IsS58.drewN | apply IsS58.drew | apply IsS58.set_0) | exact HI134.out)).1 (by decide)) (by simp), (show IsS32 w _ g136 x137000_1 from by repeat (first | (with_reducible first | exact HI136.out | apply IsS32.alloc | apply IsS32.drewN | apply IsS32.drew | apply IsS32.set_0) | exact HI136.out)).2⟩)); have n1_ := Aside0.mk (hb); have n2_ := Aside0.mk (hi); clear HI136; clear HB; clear HI134; have HI136 := n0_; have HB := n1_; have HI134 := n2_; clear n0_ n1_ n2_; (try clear hb); (try clear hb2); (try clear hk); (try clear hi)) | ((with_reducible refine gate_callee (f := 17) rfl ?_); refine goesL_ (some 43) rfl rfl Tryd.func17 (by kernel_rfl) rfl #[.pointer (some ⟨g136, 0, none⟩), .int .i64 ((rd_T34 l0 x5_1).f1)] rfl (by (try simp only [List.map_toArray, List.map_cons, List.map_nil]); first | done | rfl | (simp only [List.length_drop, List.length_take]; rfl)) ?_; (with_reducible refine (taskmasterref23_Ready_Has.calls g136 x137000_1 ((rd_T34 l0 x5_1).f1) t150 t151 w _ ?side1 ?side2 A21.out).mono ?_); (case side1 => repeat (first | (with_reducible first | exact HI136.out | apply IsS32.alloc | apply IsS32.drewN | apply IsS32.drew | apply IsS32.set_0) | exact HI136.out)); (case side2 => repeat (first | (with_reducible first | exact HB.out | apply below_alloc | apply pw_below_drewN | apply below_drew1 | refine below_set ?_ (IsS58.ge HI134.out) | refine below_set ?_ (IsS32.ge HI136.out)) | exact HB.out)); rintro e w23 ⟨rfl, hi, hb, hk⟩; refine ⟨_, rfl, ?_⟩; have n0_ := Aside0.mk ((show IsS58 w w23 g134 t149 from ⟨KeepBut.blk hk (show IsS58 w _ g134 t149 from by repeat (first | (with_reducible first | exact HI134.out | apply IsS58.alloc | apply IsS58.drewN | apply IsS58.drew | apply IsS58.set_0) | exact HI134.out)).1 (IsS58.ne_blk (show IsS58 w _ g134 t149 from by repeat (first | (with_reducible first | exact HI134.out | apply IsS58.alloc | apply IsS58.drewN | apply IsS58.drew | apply IsS58.set_0) | exact HI134.out)) (show IsS32 w _ g136 x137000_1 from by repeat (first | (with_reducible first | exact HI136.out | apply IsS32.alloc | apply IsS32.drewN | apply IsS32.drew | apply IsS32.set_0) | exact HI136.out)).1 (by decide)) (by simp), (show IsS58 w _ g134 t149 from by repeat (first | (with_reducible first | exact HI134.out | apply IsS58.alloc | apply IsS58.drewN | apply IsS58.drew | apply IsS58.set_0) | exact HI134.out)).2⟩)); have n1_ := Aside0.mk (hb); have n2_ := Aside0.mk (hi); clear HI134; clear HB; clear HI136; have HI134 := n0_; have HB := n1_; have HI136 := n2_; clear n0_ n1_ n2_; (try clear hb); (try clear hb2); (try clear hk); (try clear hi)))
                  go_meet
                  case rel => exact ⟨_, ((t148 == t150)), (t149), (t151), (by first | rfl | (simp; done) | (simp [*]; done)), H', ⟨by have := HK1.out; first | omega | exact Nat.le_refl _⟩, ⟨by repeat (first | (with_reducible first | exact HI134.out | apply IsS58.alloc | apply IsS58.drewN | apply IsS58.drew | apply IsS58.set_0) | exact HI134.out)⟩, ⟨by repeat (first | (with_reducible first | exact HI136.out | apply IsS32.alloc | apply IsS32.drewN | apply IsS32.drew | apply IsS32.set_0) | exact HI136.out)⟩, ⟨by repeat (first | (with_reducible first | exact HB.out | apply below_alloc | apply pw_below_drewN | apply below_drew1 | refine below_set ?_ (IsS58.ge HI134.out) | refine below_set ?_ (IsS32.ge HI136.out)) | exact HB.out)⟩⟩
            case rest =>
              clear HC9
              try clear c1
              try clear p1
              try clear q1
              try clear hx1
              try clear c2
              try clear c2b0
              try clear c2b1
              try clear p2
              try clear c4
              try clear c7
              try clear c7b0
              try clear c8
              try clear c8b0
              try clear c9
              try clear c10
              try clear c10b0
              try clear c10b1
              try clear c13
              try clear p13
              try clear q13
              try clear hx13
              try clear c14
              try clear c15
              try clear c15b0
              try clear c15b1
              try clear c16
              try clear c17
              try clear hx138_0
              try clear hx138_1
              try clear hx139_0
              try clear hx139_1
              try clear p138
              try clear p139
              try clear p2
              try clear q138
              try clear q139
              obtain ⟨kq, x7_8, x135000_8, x137000_8, rfl, HA, HJ8, HI134, HI136, HB⟩ := hcut
              cases kq with
              | zero => exact absurd HA.out (by simp [taskmasterlaw23_ReadyPlays.j1])
              | succ kj8 =>
                have H := HA.out
                clear HA
                simp only [taskmasterlaw23_ReadyPlays.j1] at H
                replace H := Option.bind_eq_some_iff.mp H
                obtain ⟨⟨t152, t153, t154⟩, A240, H⟩ := H
                replace H : ((taskmasterref23_Ready_First.f x137000_8).bind fun bt155 => (if x7_8 = true then (if t152 = bt155.1 then (if (t153 != bt155.2.1) = true then (some false) else ((ready_Ready_Ahead.f t154 ((rd_T34 l0 x5_1).f1)).bind fun bt158 => ((taskmasterref23_Ready_Ahead.f bt155.2.2 ((rd_T34 l0 x5_1).f1)).bind fun bt160 => (if (bt158.1 != bt160.1) = true then (some false) else (taskmasterlaw23_ReadyPlays.l0 kj8 l0 (wrap64 (x5_1 + 1)) bt158.2 bt160.2))))) else (some false)) else (some false))) = some r := H
                have A24 := Aside0.mk A240
                clear A240
                replace H := Option.bind_eq_some_iff.mp H
                obtain ⟨⟨t155, t156, t157⟩, A250, H⟩ := H
                replace H : (if x7_8 = true then (if t152 = t155 then (if (t153 != t156) = true then (some false) else ((ready_Ready_Ahead.f t154 ((rd_T34 l0 x5_1).f1)).bind fun bt158 => ((taskmasterref23_Ready_Ahead.f t157 ((rd_T34 l0 x5_1).f1)).bind fun bt160 => (if (bt158.1 != bt160.1) = true then (some false) else (taskmasterlaw23_ReadyPlays.l0 kj8 l0 (wrap64 (x5_1 + 1)) bt158.2 bt160.2))))) else (some false)) else (some false)) = some r := H
                have A25 := Aside0.mk A250
                clear A250
                by_cases c26 : x7_8 = true
                · subst c26
                  have H1 : (if t152 = t155 then (if (t153 != t156) = true then (some false) else ((ready_Ready_Ahead.f t154 ((rd_T34 l0 x5_1).f1)).bind fun bt158 => ((taskmasterref23_Ready_Ahead.f t157 ((rd_T34 l0 x5_1).f1)).bind fun bt160 => (if (bt158.1 != bt160.1) = true then (some false) else (taskmasterlaw23_ReadyPlays.l0 kj8 l0 (wrap64 (x5_1 + 1)) bt158.2 bt160.2))))) else (some false)) = some r := by rw [if_pos rfl] at H; exact H
                  clear H
                  have H := H1
                  clear H1
                  by_cases c27 : t152 = t155
                  · rw [if_pos c27] at H
                    have c27b0 : (t152 == t155) = true := beq_iff_eq.mpr c27
                    have c27b1 : (t152 != t155) = false := bne_eq_false_iff_eq.mpr c27
                    clear c27
                    by_cases c28 : (t153 != t156) = true
                    · rw [if_pos c28] at H
                      have c28b0 : (t153 != t156) = true := c28
                      (try (have c28b1 : decide (t153 = t156) = false := by simpa using c28))
                      (try (have c28b2 : (t153 == t156) = false := by simpa using c28))
                      (try (have c28b3 : ¬ (t153 = t156) := by simpa using c28))
                      clear c28
                      obtain rfl := Option.some.inj H
                      go_wp2_with (first | ((with_reducible refine gate_callee (f := 18) rfl ?_); refine goesL_ (some 65) rfl rfl Tryd.func18 (by kernel_rfl) rfl #[.pointer (some ⟨g134, 0, none⟩)] rfl (by (try simp only [List.map_toArray, List.map_cons, List.map_nil]); first | done | rfl | (simp only [List.length_drop, List.length_take]; rfl)) ?_; (with_reducible refine (ready_Ready_First.calls (hT := ?sideT) g134 x135000_8 t152 t153 t154 w _ ?side1 ?side2 A24.out).mono ?_); (case sideT => first | exact HT.out | refine TabW.below HT.out ?_; repeat (first | (with_reducible first | exact HB.out | apply below_alloc | apply pw_below_drewN | apply below_drew1) | exact HB.out | exact Below.refl _ _)); (case side1 => repeat (first | (with_reducible first | exact HI134.out | apply IsS58.alloc | apply IsS58.drewN | apply IsS58.drew | apply IsS58.set_0) | exact HI134.out)); (case side2 => repeat (first | (with_reducible first | exact HB.out | apply below_alloc | apply pw_below_drewN | apply below_drew1 | refine below_set ?_ (IsS58.ge HI134.out) | refine below_set ?_ (IsS32.ge HI136.out)) | exact HB.out)); rintro e w29 ⟨rfl, hi, hb, hk⟩; refine ⟨_, rfl, ?_⟩; have n0_ := Aside0.mk ((show IsS32 w w29 g136 x137000_8 from ⟨KeepBut.blk hk (show IsS32 w _ g136 x137000_8 from by repeat (first | (with_reducible first | exact HI136.out | apply IsS32.alloc | apply IsS32.drewN | apply IsS32.drew | apply IsS32.set_0) | exact HI136.out)).1 (IsS32.ne_blk (show IsS32 w _ g136 x137000_8 from by repeat (first | (with_reducible first | exact HI136.out | apply IsS32.alloc | apply IsS32.drewN | apply IsS32.drew | apply IsS32.set_0) | exact HI136.out)) (show IsS58 w _ g134 x135000_8 from by repeat (first | (with_reducible first | exact HI134.out | apply IsS58.alloc | apply IsS58.drewN | apply IsS58.drew | apply IsS58.set_0) | exact HI134.out)).1 (by decide)) (by simp), (show IsS32 w _ g136 x137000_8 from by repeat (first | (with_reducible first | exact HI136.out | apply IsS32.alloc | apply IsS32.drewN | apply IsS32.drew | apply IsS32.set_0) | exact HI136.out)).2⟩)); have n1_ := Aside0.mk (hb); have n2_ := Aside0.mk (hi); clear HI136; clear HB; clear HI134; have HI136 := n0_; have HB := n1_; have HI134 := n2_; clear n0_ n1_ n2_; (try clear hb); (try clear hb2); (try clear hk); (try clear hi)) | ((with_reducible refine gate_callee (f := 19) rfl ?_); refine goesL_ (some 70) rfl rfl Tryd.func19 (by kernel_rfl) rfl #[.pointer (some ⟨g136, 0, none⟩)] rfl (by (try simp only [List.map_toArray, List.map_cons, List.map_nil]); first | done | rfl | (simp only [List.length_drop, List.length_take]; rfl)) ?_; (with_reducible refine (taskmasterref23_Ready_First.calls g136 x137000_8 t155 t156 t157 w _ ?side1 ?side2 A25.out).mono ?_); (case side1 => repeat (first | (with_reducible first | exact HI136.out | apply IsS32.alloc | apply IsS32.drewN | apply IsS32.drew | apply IsS32.set_0) | exact HI136.out)); (case side2 => repeat (first | (with_reducible first | exact HB.out | apply below_alloc | apply pw_below_drewN | apply below_drew1 | refine below_set ?_ (IsS58.ge HI134.out) | refine below_set ?_ (IsS32.ge HI136.out)) | exact HB.out)); rintro e w30 ⟨rfl, hi, hb, hk⟩; refine ⟨_, rfl, ?_⟩; have n0_ := Aside0.mk ((show IsS58 w w30 g134 t154 from ⟨KeepBut.blk hk (show IsS58 w _ g134 t154 from by repeat (first | (with_reducible first | exact HI134.out | apply IsS58.alloc | apply IsS58.drewN | apply IsS58.drew | apply IsS58.set_0) | exact HI134.out)).1 (IsS58.ne_blk (show IsS58 w _ g134 t154 from by repeat (first | (with_reducible first | exact HI134.out | apply IsS58.alloc | apply IsS58.drewN | apply IsS58.drew | apply IsS58.set_0) | exact HI134.out)) (show IsS32 w _ g136 x137000_8 from by repeat (first | (with_reducible first | exact HI136.out | apply IsS32.alloc | apply IsS32.drewN | apply IsS32.drew | apply IsS32.set_0) | exact HI136.out)).1 (by decide)) (by simp), (show IsS58 w _ g134 t154 from by repeat (first | (with_reducible first | exact HI134.out | apply IsS58.alloc | apply IsS58.drewN | apply IsS58.drew | apply IsS58.set_0) | exact HI134.out)).2⟩)); have n1_ := Aside0.mk (hb); have n2_ := Aside0.mk (hi); clear HI134; clear HB; clear HI136; have HI134 := n0_; have HB := n1_; have HI136 := n2_; clear n0_ n1_ n2_; (try clear hb); (try clear hb2); (try clear hk); (try clear hi)))
                      go_ret
                      exact ⟨by first | rfl | (simp [errW_none, errW_some] <;> rfl) | (simp [*, errW_none, errW_some] <;> rfl), by repeat (first | (with_reducible first | exact HB.out | apply below_alloc | apply pw_below_drewN | apply below_drew1 | refine below_set ?_ (IsS58.ge HI134.out) | refine below_set ?_ (IsS32.ge HI136.out)) | exact HB.out)⟩
                    · rw [if_neg c28] at H
                      have c28b0 : (t153 != t156) = false := by simpa using c28
                      (try (have c28b1 : decide (t153 = t156) = true := by simpa using c28))
                      (try (have c28b2 : (t153 == t156) = true := by simpa using c28))
                      clear c28
                      replace H := Option.bind_eq_some_iff.mp H
                      obtain ⟨⟨t158, t159⟩, A310, H⟩ := H
                      replace H : ((taskmasterref23_Ready_Ahead.f t157 ((rd_T34 l0 x5_1).f1)).bind fun bt160 => (if (t158 != bt160.1) = true then (some false) else (taskmasterlaw23_ReadyPlays.l0 kj8 l0 (wrap64 (x5_1 + 1)) t159 bt160.2))) = some r := H
                      have A31 := Aside0.mk A310
                      clear A310
                      replace H := Option.bind_eq_some_iff.mp H
                      obtain ⟨⟨t160, t161⟩, A320, H⟩ := H
                      replace H : (if (t158 != t160) = true then (some false) else (taskmasterlaw23_ReadyPlays.l0 kj8 l0 (wrap64 (x5_1 + 1)) t159 t161)) = some r := H
                      have A32 := Aside0.mk A320
                      clear A320
                      by_cases c33 : (t158 != t160) = true
                      · rw [if_pos c33] at H
                        have c33b0 : (t158 != t160) = true := c33
                        (try (have c33b1 : decide (t158 = t160) = false := by simpa using c33))
                        (try (have c33b2 : (t158 == t160) = false := by simpa using c33))
                        (try (have c33b3 : ¬ (t158 = t160) := by simpa using c33))
                        clear c33
                        obtain rfl := Option.some.inj H
                        go_wp2_with (first | ((with_reducible refine gate_callee (f := 18) rfl ?_); refine goesL_ (some 65) rfl rfl Tryd.func18 (by kernel_rfl) rfl #[.pointer (some ⟨g134, 0, none⟩)] rfl (by (try simp only [List.map_toArray, List.map_cons, List.map_nil]); first | done | rfl | (simp only [List.length_drop, List.length_take]; rfl)) ?_; (with_reducible refine (ready_Ready_First.calls (hT := ?sideT) g134 x135000_8 t152 t153 t154 w _ ?side1 ?side2 A24.out).mono ?_); (case sideT => first | exact HT.out | refine TabW.below HT.out ?_; repeat (first | (with_reducible first | exact HB.out | apply below_alloc | apply pw_below_drewN | apply below_drew1) | exact HB.out | exact Below.refl _ _)); (case side1 => repeat (first | (with_reducible first | exact HI134.out | apply IsS58.alloc | apply IsS58.drewN | apply IsS58.drew | apply IsS58.set_0) | exact HI134.out)); (case side2 => repeat (first | (with_reducible first | exact HB.out | apply below_alloc | apply pw_below_drewN | apply below_drew1 | refine below_set ?_ (IsS58.ge HI134.out) | refine below_set ?_ (IsS32.ge HI136.out)) | exact HB.out)); rintro e w34 ⟨rfl, hi, hb, hk⟩; refine ⟨_, rfl, ?_⟩; have n0_ := Aside0.mk ((show IsS32 w w34 g136 x137000_8 from ⟨KeepBut.blk hk (show IsS32 w _ g136 x137000_8 from by repeat (first | (with_reducible first | exact HI136.out | apply IsS32.alloc | apply IsS32.drewN | apply IsS32.drew | apply IsS32.set_0) | exact HI136.out)).1 (IsS32.ne_blk (show IsS32 w _ g136 x137000_8 from by repeat (first | (with_reducible first | exact HI136.out | apply IsS32.alloc | apply IsS32.drewN | apply IsS32.drew | apply IsS32.set_0) | exact HI136.out)) (show IsS58 w _ g134 x135000_8 from by repeat (first | (with_reducible first | exact HI134.out | apply IsS58.alloc | apply IsS58.drewN | apply IsS58.drew | apply IsS58.set_0) | exact HI134.out)).1 (by decide)) (by simp), (show IsS32 w _ g136 x137000_8 from by repeat (first | (with_reducible first | exact HI136.out | apply IsS32.alloc | apply IsS32.drewN | apply IsS32.drew | apply IsS32.set_0) | exact HI136.out)).2⟩)); have n1_ := Aside0.mk (hb); have n2_ := Aside0.mk (hi); clear HI136; clear HB; clear HI134; have HI136 := n0_; have HB := n1_; have HI134 := n2_; clear n0_ n1_ n2_; (try clear hb); (try clear hb2); (try clear hk); (try clear hi)) | ((with_reducible refine gate_callee (f := 19) rfl ?_); refine goesL_ (some 70) rfl rfl Tryd.func19 (by kernel_rfl) rfl #[.pointer (some ⟨g136, 0, none⟩)] rfl (by (try simp only [List.map_toArray, List.map_cons, List.map_nil]); first | done | rfl | (simp only [List.length_drop, List.length_take]; rfl)) ?_; (with_reducible refine (taskmasterref23_Ready_First.calls g136 x137000_8 t155 t156 t157 w _ ?side1 ?side2 A25.out).mono ?_); (case side1 => repeat (first | (with_reducible first | exact HI136.out | apply IsS32.alloc | apply IsS32.drewN | apply IsS32.drew | apply IsS32.set_0) | exact HI136.out)); (case side2 => repeat (first | (with_reducible first | exact HB.out | apply below_alloc | apply pw_below_drewN | apply below_drew1 | refine below_set ?_ (IsS58.ge HI134.out) | refine below_set ?_ (IsS32.ge HI136.out)) | exact HB.out)); rintro e w35 ⟨rfl, hi, hb, hk⟩; refine ⟨_, rfl, ?_⟩; have n0_ := Aside0.mk ((show IsS58 w w35 g134 t154 from ⟨KeepBut.blk hk (show IsS58 w _ g134 t154 from by repeat (first | (with_reducible first | exact HI134.out | apply IsS58.alloc | apply IsS58.drewN | apply IsS58.drew | apply IsS58.set_0) | exact HI134.out)).1 (IsS58.ne_blk (show IsS58 w _ g134 t154 from by repeat (first | (with_reducible first | exact HI134.out | apply IsS58.alloc | apply IsS58.drewN | apply IsS58.drew | apply IsS58.set_0) | exact HI134.out)) (show IsS32 w _ g136 x137000_8 from by repeat (first | (with_reducible first | exact HI136.out | apply IsS32.alloc | apply IsS32.drewN | apply IsS32.drew | apply IsS32.set_0) | exact HI136.out)).1 (by decide)) (by simp), (show IsS58 w _ g134 t154 from by repeat (first | (with_reducible first | exact HI134.out | apply IsS58.alloc | apply IsS58.drewN | apply IsS58.drew | apply IsS58.set_0) | exact HI134.out)).2⟩)); have n1_ := Aside0.mk (hb); have n2_ := Aside0.mk (hi); clear HI134; clear HB; clear HI136; have HI134 := n0_; have HB := n1_; have HI136 := n2_; clear n0_ n1_ n2_; (try clear hb); (try clear hb2); (try clear hk); (try clear hi)) | (go_at_call 11; (with_reducible refine (ready_Ready_Ahead.calls (hT := ?sideT) g134 t154 ((rd_T34 l0 x5_1).f1) t158 t159 w _ ?side1 ?side2 A31.out).mono ?_); (case sideT => first | exact HT.out | refine TabW.below HT.out ?_; repeat (first | (with_reducible first | exact HB.out | apply below_alloc | apply pw_below_drewN | apply below_drew1) | exact HB.out | exact Below.refl _ _)); (case side1 => repeat (first | (with_reducible first | exact HI134.out | apply IsS58.alloc | apply IsS58.drewN | apply IsS58.drew | apply IsS58.set_0) | exact HI134.out)); (case side2 => repeat (first | (with_reducible first | exact HB.out | apply below_alloc | apply pw_below_drewN | apply below_drew1 | refine below_set ?_ (IsS58.ge HI134.out) | refine below_set ?_ (IsS32.ge HI136.out)) | exact HB.out)); rintro e w36 ⟨rfl, hi, hb, hk⟩; have n0_ := Aside0.mk ((show IsS32 w w36 g136 t157 from ⟨KeepBut.blk hk (show IsS32 w _ g136 t157 from by repeat (first | (with_reducible first | exact HI136.out | apply IsS32.alloc | apply IsS32.drewN | apply IsS32.drew | apply IsS32.set_0) | exact HI136.out)).1 (IsS32.ne_blk (show IsS32 w _ g136 t157 from by repeat (first | (with_reducible first | exact HI136.out | apply IsS32.alloc | apply IsS32.drewN | apply IsS32.drew | apply IsS32.set_0) | exact HI136.out)) (show IsS58 w _ g134 t154 from by repeat (first | (with_reducible first | exact HI134.out | apply IsS58.alloc | apply IsS58.drewN | apply IsS58.drew | apply IsS58.set_0) | exact HI134.out)).1 (by decide)) (by simp), (show IsS32 w _ g136 t157 from by repeat (first | (with_reducible first | exact HI136.out | apply IsS32.alloc | apply IsS32.drewN | apply IsS32.drew | apply IsS32.set_0) | exact HI136.out)).2⟩)); have n1_ := Aside0.mk (hb); have n2_ := Aside0.mk (hi); clear HI136; clear HB; clear HI134; have HI136 := n0_; have HB := n1_; have HI134 := n2_; clear n0_ n1_ n2_; (try clear hb); (try clear hb2); (try clear hk); (try clear hi)) | (go_at_call 20; (with_reducible refine (taskmasterref23_Ready_Ahead.calls g136 t157 ((rd_T34 l0 x5_1).f1) t160 t161 w _ ?side1 ?side2 A32.out).mono ?_); (case side1 => repeat (first | (with_reducible first | exact HI136.out | apply IsS32.alloc | apply IsS32.drewN | apply IsS32.drew | apply IsS32.set_0) | exact HI136.out)); (case side2 => repeat (first | (with_reducible first | exact HB.out | apply below_alloc | apply pw_below_drewN | apply below_drew1 | refine below_set ?_ (IsS58.ge HI134.out) | refine below_set ?_ (IsS32.ge HI136.out)) | exact HB.out)); rintro e w37 ⟨rfl, hi, hb, hk⟩; have n0_ := Aside0.mk ((show IsS58 w w37 g134 t159 from ⟨KeepBut.blk hk (show IsS58 w _ g134 t159 from by repeat (first | (with_reducible first | exact HI134.out | apply IsS58.alloc | apply IsS58.drewN | apply IsS58.drew | apply IsS58.set_0) | exact HI134.out)).1 (IsS58.ne_blk (show IsS58 w _ g134 t159 from by repeat (first | (with_reducible first | exact HI134.out | apply IsS58.alloc | apply IsS58.drewN | apply IsS58.drew | apply IsS58.set_0) | exact HI134.out)) (show IsS32 w _ g136 t157 from by repeat (first | (with_reducible first | exact HI136.out | apply IsS32.alloc | apply IsS32.drewN | apply IsS32.drew | apply IsS32.set_0) | exact HI136.out)).1 (by decide)) (by simp), (show IsS58 w _ g134 t159 from by repeat (first | (with_reducible first | exact HI134.out | apply IsS58.alloc | apply IsS58.drewN | apply IsS58.drew | apply IsS58.set_0) | exact HI134.out)).2⟩)); have n1_ := Aside0.mk (hb); have n2_ := Aside0.mk (hi); clear HI134; clear HB; clear HI136; have HI134 := n0_; have HB := n1_; have HI136 := n2_; clear n0_ n1_ n2_; (try clear hb); (try clear hb2); (try clear hk); (try clear hi)))
                        go_ret
                        exact ⟨by first | rfl | (simp [errW_none, errW_some] <;> rfl) | (simp [*, errW_none, errW_some] <;> rfl), by repeat (first | (with_reducible first | exact HB.out | apply below_alloc | apply pw_below_drewN | apply below_drew1 | refine below_set ?_ (IsS58.ge HI134.out) | refine below_set ?_ (IsS32.ge HI136.out)) | exact HB.out)⟩
                      · rw [if_neg c33] at H
                        have c33b0 : (t158 != t160) = false := by simpa using c33
                        (try (have c33b1 : decide (t158 = t160) = true := by simpa using c33))
                        (try (have c33b2 : (t158 == t160) = true := by simpa using c33))
                        clear c33
                        have H' := Aside0.mk H
                        clear H
                        go_wp2_with (first | ((with_reducible refine gate_callee (f := 18) rfl ?_); refine goesL_ (some 65) rfl rfl Tryd.func18 (by kernel_rfl) rfl #[.pointer (some ⟨g134, 0, none⟩)] rfl (by (try simp only [List.map_toArray, List.map_cons, List.map_nil]); first | done | rfl | (simp only [List.length_drop, List.length_take]; rfl)) ?_; (with_reducible refine (ready_Ready_First.calls (hT := ?sideT) g134 x135000_8 t152 t153 t154 w _ ?side1 ?side2 A24.out).mono ?_); (case sideT => first | exact HT.out | refine TabW.below HT.out ?_; repeat (first | (with_reducible first | exact HB.out | apply below_alloc | apply pw_below_drewN | apply below_drew1) | exact HB.out | exact Below.refl _ _)); (case side1 => repeat (first | (with_reducible first | exact HI134.out | apply IsS58.alloc | apply IsS58.drewN | apply IsS58.drew | apply IsS58.set_0) | exact HI134.out)); (case side2 => repeat (first | (with_reducible first | exact HB.out | apply below_alloc | apply pw_below_drewN | apply below_drew1 | refine below_set ?_ (IsS58.ge HI134.out) | refine below_set ?_ (IsS32.ge HI136.out)) | exact HB.out)); rintro e w38 ⟨rfl, hi, hb, hk⟩; refine ⟨_, rfl, ?_⟩; have n0_ := Aside0.mk ((show IsS32 w w38 g136 x137000_8 from ⟨KeepBut.blk hk (show IsS32 w _ g136 x137000_8 from by repeat (first | (with_reducible first | exact HI136.out | apply IsS32.alloc | apply IsS32.drewN | apply IsS32.drew | apply IsS32.set_0) | exact HI136.out)).1 (IsS32.ne_blk (show IsS32 w _ g136 x137000_8 from by repeat (first | (with_reducible first | exact HI136.out | apply IsS32.alloc | apply IsS32.drewN | apply IsS32.drew | apply IsS32.set_0) | exact HI136.out)) (show IsS58 w _ g134 x135000_8 from by repeat (first | (with_reducible first | exact HI134.out | apply IsS58.alloc | apply IsS58.drewN | apply IsS58.drew | apply IsS58.set_0) | exact HI134.out)).1 (by decide)) (by simp), (show IsS32 w _ g136 x137000_8 from by repeat (first | (with_reducible first | exact HI136.out | apply IsS32.alloc | apply IsS32.drewN | apply IsS32.drew | apply IsS32.set_0) | exact HI136.out)).2⟩)); have n1_ := Aside0.mk (hb); have n2_ := Aside0.mk (hi); clear HI136; clear HB; clear HI134; have HI136 := n0_; have HB := n1_; have HI134 := n2_; clear n0_ n1_ n2_; (try clear hb); (try clear hb2); (try clear hk); (try clear hi)) | ((with_reducible refine gate_callee (f := 19) rfl ?_); refine goesL_ (some 70) rfl rfl Tryd.func19 (by kernel_rfl) rfl #[.pointer (some ⟨g136, 0, none⟩)] rfl (by (try simp only [List.map_toArray, List.map_cons, List.map_nil]); first | done | rfl | (simp only [List.length_drop, List.length_take]; rfl)) ?_; (with_reducible refine (taskmasterref23_Ready_First.calls g136 x137000_8 t155 t156 t157 w _ ?side1 ?side2 A25.out).mono ?_); (case side1 => repeat (first | (with_reducible first | exact HI136.out | apply IsS32.alloc | apply IsS32.drewN | apply IsS32.drew | apply IsS32.set_0) | exact HI136.out)); (case side2 => repeat (first | (with_reducible first | exact HB.out | apply below_alloc | apply pw_below_drewN | apply below_drew1 | refine below_set ?_ (IsS58.ge HI134.out) | refine below_set ?_ (IsS32.ge HI136.out)) | exact HB.out)); rintro e w39 ⟨rfl, hi, hb, hk⟩; refine ⟨_, rfl, ?_⟩; have n0_ := Aside0.mk ((show IsS58 w w39 g134 t154 from ⟨KeepBut.blk hk (show IsS58 w _ g134 t154 from by repeat (first | (with_reducible first | exact HI134.out | apply IsS58.alloc | apply IsS58.drewN | apply IsS58.drew | apply IsS58.set_0) | exact HI134.out)).1 (IsS58.ne_blk (show IsS58 w _ g134 t154 from by repeat (first | (with_reducible first | exact HI134.out | apply IsS58.alloc | apply IsS58.drewN | apply IsS58.drew | apply IsS58.set_0) | exact HI134.out)) (show IsS32 w _ g136 x137000_8 from by repeat (first | (with_reducible first | exact HI136.out | apply IsS32.alloc | apply IsS32.drewN | apply IsS32.drew | apply IsS32.set_0) | exact HI136.out)).1 (by decide)) (by simp), (show IsS58 w _ g134 t154 from by repeat (first | (with_reducible first | exact HI134.out | apply IsS58.alloc | apply IsS58.drewN | apply IsS58.drew | apply IsS58.set_0) | exact HI134.out)).2⟩)); have n1_ := Aside0.mk (hb); have n2_ := Aside0.mk (hi); clear HI134; clear HB; clear HI136; have HI134 := n0_; have HB := n1_; have HI136 := n2_; clear n0_ n1_ n2_; (try clear hb); (try clear hb2); (try clear hk); (try clear hi)) | (go_at_call 11; (with_reducible refine (ready_Ready_Ahead.calls (hT := ?sideT) g134 t154 ((rd_T34 l0 x5_1).f1) t158 t159 w _ ?side1 ?side2 A31.out).mono ?_); (case sideT => first | exact HT.out | refine TabW.below HT.out ?_; repeat (first | (with_reducible first | exact HB.out | apply below_alloc | apply pw_below_drewN | apply below_drew1) | exact HB.out | exact Below.refl _ _)); (case side1 => repeat (first | (with_reducible first | exact HI134.out | apply IsS58.alloc | apply IsS58.drewN | apply IsS58.drew | apply IsS58.set_0) | exact HI134.out)); (case side2 => repeat (first | (with_reducible first | exact HB.out | apply below_alloc | apply pw_below_drewN | apply below_drew1 | refine below_set ?_ (IsS58.ge HI134.out) | refine below_set ?_ (IsS32.ge HI136.out)) | exact HB.out)); rintro e w40 ⟨rfl, hi, hb, hk⟩; have n0_ := Aside0.mk ((show IsS32 w w40 g136 t157 from ⟨KeepBut.blk hk (show IsS32 w _ g136 t157 from by repeat (first | (with_reducible first | exact HI136.out | apply IsS32.alloc | apply IsS32.drewN | apply IsS32.drew | apply IsS32.set_0) | exact HI136.out)).1 (IsS32.ne_blk (show IsS32 w _ g136 t157 from by repeat (first | (with_reducible first | exact HI136.out | apply IsS32.alloc | apply IsS32.drewN | apply IsS32.drew | apply IsS32.set_0) | exact HI136.out)) (show IsS58 w _ g134 t154 from by repeat (first | (with_reducible first | exact HI134.out | apply IsS58.alloc | apply IsS58.drewN | apply IsS58.drew | apply IsS58.set_0) | exact HI134.out)).1 (by decide)) (by simp), (show IsS32 w _ g136 t157 from by repeat (first | (with_reducible first | exact HI136.out | apply IsS32.alloc | apply IsS32.drewN | apply IsS32.drew | apply IsS32.set_0) | exact HI136.out)).2⟩)); have n1_ := Aside0.mk (hb); have n2_ := Aside0.mk (hi); clear HI136; clear HB; clear HI134; have HI136 := n0_; have HB := n1_; have HI134 := n2_; clear n0_ n1_ n2_; (try clear hb); (try clear hb2); (try clear hk); (try clear hi)) | (go_at_call 20; (with_reducible refine (taskmasterref23_Ready_Ahead.calls g136 t157 ((rd_T34 l0 x5_1).f1) t160 t161 w _ ?side1 ?side2 A32.out).mono ?_); (case side1 => repeat (first | (with_reducible first | exact HI136.out | apply IsS32.alloc | apply IsS32.drewN | apply IsS32.drew | apply IsS32.set_0) | exact HI136.out)); (case side2 => repeat (first | (with_reducible first | exact HB.out | apply below_alloc | apply pw_below_drewN | apply below_drew1 | refine below_set ?_ (IsS58.ge HI134.out) | refine below_set ?_ (IsS32.ge HI136.out)) | exact HB.out)); rintro e w41 ⟨rfl, hi, hb, hk⟩; have n0_ := Aside0.mk ((show IsS58 w w41 g134 t159 from ⟨KeepBut.blk hk (show IsS58 w _ g134 t159 from by repeat (first | (with_reducible first | exact HI134.out | apply IsS58.alloc | apply IsS58.drewN | apply IsS58.drew | apply IsS58.set_0) | exact HI134.out)).1 (IsS58.ne_blk (show IsS58 w _ g134 t159 from by repeat (first | (with_reducible first | exact HI134.out | apply IsS58.alloc | apply IsS58.drewN | apply IsS58.drew | apply IsS58.set_0) | exact HI134.out)) (show IsS32 w _ g136 t157 from by repeat (first | (with_reducible first | exact HI136.out | apply IsS32.alloc | apply IsS32.drewN | apply IsS32.drew | apply IsS32.set_0) | exact HI136.out)).1 (by decide)) (by simp), (show IsS58 w _ g134 t159 from by repeat (first | (with_reducible first | exact HI134.out | apply IsS58.alloc | apply IsS58.drewN | apply IsS58.drew | apply IsS58.set_0) | exact HI134.out)).2⟩)); have n1_ := Aside0.mk (hb); have n2_ := Aside0.mk (hi); clear HI134; clear HB; clear HI136; have HI134 := n0_; have HB := n1_; have HI136 := n2_; clear n0_ n1_ n2_; (try clear hb); (try clear hb2); (try clear hk); (try clear hi)))
                        go_roundg kj8
                        case measure => have := HK1.out; have := HJ8.out; omega
                        case rel => exact ⟨(wrap64 (x5_1 + 1)), (t159), (t161), (by first | rfl | (simp; done) | (simp [*]; done)), H', ⟨by have := HK1.out; have := HJ8.out; omega⟩, ⟨by repeat (first | (with_reducible first | exact HI134.out | apply IsS58.alloc | apply IsS58.drewN | apply IsS58.drew | apply IsS58.set_0) | exact HI134.out)⟩, ⟨by repeat (first | (with_reducible first | exact HI136.out | apply IsS32.alloc | apply IsS32.drewN | apply IsS32.drew | apply IsS32.set_0) | exact HI136.out)⟩, ⟨by repeat (first | (with_reducible first | exact HB.out | apply below_alloc | apply pw_below_drewN | apply below_drew1 | refine below_set ?_ (IsS58.ge HI134.out) | refine below_set ?_ (IsS32.ge HI136.out)) | exact HB.out)⟩⟩
                  · rw [if_neg c27] at H
                    have c27b0 : (t152 == t155) = false := beq_eq_false_iff_ne.mpr c27
                    have c27b1 : (t152 != t155) = true := bne_iff_ne.mpr c27
                    obtain rfl := Option.some.inj H
                    go_wp2_with (first | ((with_reducible refine gate_callee (f := 18) rfl ?_); refine goesL_ (some 65) rfl rfl Tryd.func18 (by kernel_rfl) rfl #[.pointer (some ⟨g134, 0, none⟩)] rfl (by (try simp only [List.map_toArray, List.map_cons, List.map_nil]); first | done | rfl | (simp only [List.length_drop, List.length_take]; rfl)) ?_; (with_reducible refine (ready_Ready_First.calls (hT := ?sideT) g134 x135000_8 t152 t153 t154 w _ ?side1 ?side2 A24.out).mono ?_); (case sideT => first | exact HT.out | refine TabW.below HT.out ?_; repeat (first | (with_reducible first | exact HB.out | apply below_alloc | apply pw_below_drewN | apply below_drew1) | exact HB.out | exact Below.refl _ _)); (case side1 => repeat (first | (with_reducible first | exact HI134.out | apply IsS58.alloc | apply IsS58.drewN | apply IsS58.drew | apply IsS58.set_0) | exact HI134.out)); (case side2 => repeat (first | (with_reducible first | exact HB.out | apply below_alloc | apply pw_below_drewN | apply below_drew1 | refine below_set ?_ (IsS58.ge HI134.out) | refine below_set ?_ (IsS32.ge HI136.out)) | exact HB.out)); rintro e w42 ⟨rfl, hi, hb, hk⟩; refine ⟨_, rfl, ?_⟩; have n0_ := Aside0.mk ((show IsS32 w w42 g136 x137000_8 from ⟨KeepBut.blk hk (show IsS32 w _ g136 x137000_8 from by repeat (first | (with_reducible first | exact HI136.out | apply IsS32.alloc | apply IsS32.drewN | apply IsS32.drew | apply IsS32.set_0) | exact HI136.out)).1 (IsS32.ne_blk (show IsS32 w _ g136 x137000_8 from by repeat (first | (with_reducible first | exact HI136.out | apply IsS32.alloc | apply IsS32.drewN | apply IsS32.drew | apply IsS32.set_0) | exact HI136.out)) (show IsS58 w _ g134 x135000_8 from by repeat (first | (with_reducible first | exact HI134.out | apply IsS58.alloc | apply IsS58.drewN | apply IsS58.drew | apply IsS58.set_0) | exact HI134.out)).1 (by decide)) (by simp), (show IsS32 w _ g136 x137000_8 from by repeat (first | (with_reducible first | exact HI136.out | apply IsS32.alloc | apply IsS32.drewN | apply IsS32.drew | apply IsS32.set_0) | exact HI136.out)).2⟩)); have n1_ := Aside0.mk (hb); have n2_ := Aside0.mk (hi); clear HI136; clear HB; clear HI134; have HI136 := n0_; have HB := n1_; have HI134 := n2_; clear n0_ n1_ n2_; (try clear hb); (try clear hb2); (try clear hk); (try clear hi)) | ((with_reducible refine gate_callee (f := 19) rfl ?_); refine goesL_ (some 70) rfl rfl Tryd.func19 (by kernel_rfl) rfl #[.pointer (some ⟨g136, 0, none⟩)] rfl (by (try simp only [List.map_toArray, List.map_cons, List.map_nil]); first | done | rfl | (simp only [List.length_drop, List.length_take]; rfl)) ?_; (with_reducible refine (taskmasterref23_Ready_First.calls g136 x137000_8 t155 t156 t157 w _ ?side1 ?side2 A25.out).mono ?_); (case side1 => repeat (first | (with_reducible first | exact HI136.out | apply IsS32.alloc | apply IsS32.drewN | apply IsS32.drew | apply IsS32.set_0) | exact HI136.out)); (case side2 => repeat (first | (with_reducible first | exact HB.out | apply below_alloc | apply pw_below_drewN | apply below_drew1 | refine below_set ?_ (IsS58.ge HI134.out) | refine below_set ?_ (IsS32.ge HI136.out)) | exact HB.out)); rintro e w43 ⟨rfl, hi, hb, hk⟩; refine ⟨_, rfl, ?_⟩; have n0_ := Aside0.mk ((show IsS58 w w43 g134 t154 from ⟨KeepBut.blk hk (show IsS58 w _ g134 t154 from by repeat (first | (with_reducible first | exact HI134.out | apply IsS58.alloc | apply IsS58.drewN | apply IsS58.drew | apply IsS58.set_0) | exact HI134.out)).1 (IsS58.ne_blk (show IsS58 w _ g134 t154 from by repeat (first | (with_reducible first | exact HI134.out | apply IsS58.alloc | apply IsS58.drewN | apply IsS58.drew | apply IsS58.set_0) | exact HI134.out)) (show IsS32 w _ g136 x137000_8 from by repeat (first | (with_reducible first | exact HI136.out | apply IsS32.alloc | apply IsS32.drewN | apply IsS32.drew | apply IsS32.set_0) | exact HI136.out)).1 (by decide)) (by simp), (show IsS58 w _ g134 t154 from by repeat (first | (with_reducible first | exact HI134.out | apply IsS58.alloc | apply IsS58.drewN | apply IsS58.drew | apply IsS58.set_0) | exact HI134.out)).2⟩)); have n1_ := Aside0.mk (hb); have n2_ := Aside0.mk (hi); clear HI134; clear HB; clear HI136; have HI134 := n0_; have HB := n1_; have HI136 := n2_; clear n0_ n1_ n2_; (try clear hb); (try clear hb2); (try clear hk); (try clear hi)))
                    go_ret
                    exact ⟨by first | rfl | (simp [errW_none, errW_some] <;> rfl) | (simp [*, errW_none, errW_some] <;> rfl), by repeat (first | (with_reducible first | exact HB.out | apply below_alloc | apply pw_below_drewN | apply below_drew1 | refine below_set ?_ (IsS58.ge HI134.out) | refine below_set ?_ (IsS32.ge HI136.out)) | exact HB.out)⟩
                · replace c26 := Bool.eq_false_iff.mpr c26
                  subst c26
                  have H1 : (some false) = some r := by rw [if_neg (show ¬ (false = true) by decide)] at H; exact H
                  clear H
                  have H := H1
                  clear H1
                  obtain rfl := Option.some.inj H
                  go_wp2_with (first | ((with_reducible refine gate_callee (f := 18) rfl ?_); refine goesL_ (some 65) rfl rfl Tryd.func18 (by kernel_rfl) rfl #[.pointer (some ⟨g134, 0, none⟩)] rfl (by (try simp only [List.map_toArray, List.map_cons, List.map_nil]); first | done | rfl | (simp only [List.length_drop, List.length_take]; rfl)) ?_; (with_reducible refine (ready_Ready_First.calls (hT := ?sideT) g134 x135000_8 t152 t153 t154 w _ ?side1 ?side2 A24.out).mono ?_); (case sideT => first | exact HT.out | refine TabW.below HT.out ?_; repeat (first | (with_reducible first | exact HB.out | apply below_alloc | apply pw_below_drewN | apply below_drew1) | exact HB.out | exact Below.refl _ _)); (case side1 => repeat (first | (with_reducible first | exact HI134.out | apply IsS58.alloc | apply IsS58.drewN | apply IsS58.drew | apply IsS58.set_0) | exact HI134.out)); (case side2 => repeat (first | (with_reducible first | exact HB.out | apply below_alloc | apply pw_below_drewN | apply below_drew1 | refine below_set ?_ (IsS58.ge HI134.out) | refine below_set ?_ (IsS32.ge HI136.out)) | exact HB.out)); rintro e w44 ⟨rfl, hi, hb, hk⟩; refine ⟨_, rfl, ?_⟩; have n0_ := Aside0.mk ((show IsS32 w w44 g136 x137000_8 from ⟨KeepBut.blk hk (show IsS32 w _ g136 x137000_8 from by repeat (first | (with_reducible first | exact HI136.out | apply IsS32.alloc | apply IsS32.drewN | apply IsS32.drew | apply IsS32.set_0) | exact HI136.out)).1 (IsS32.ne_blk (show IsS32 w _ g136 x137000_8 from by repeat (first | (with_reducible first | exact HI136.out | apply IsS32.alloc | apply IsS32.drewN | apply IsS32.drew | apply IsS32.set_0) | exact HI136.out)) (show IsS58 w _ g134 x135000_8 from by repeat (first | (with_reducible first | exact HI134.out | apply IsS58.alloc | apply IsS58.drewN | apply IsS58.drew | apply IsS58.set_0) | exact HI134.out)).1 (by decide)) (by simp), (show IsS32 w _ g136 x137000_8 from by repeat (first | (with_reducible first | exact HI136.out | apply IsS32.alloc | apply IsS32.drewN | apply IsS32.drew | apply IsS32.set_0) | exact HI136.out)).2⟩)); have n1_ := Aside0.mk (hb); have n2_ := Aside0.mk (hi); clear HI136; clear HB; clear HI134; have HI136 := n0_; have HB := n1_; have HI134 := n2_; clear n0_ n1_ n2_; (try clear hb); (try clear hb2); (try clear hk); (try clear hi)) | ((with_reducible refine gate_callee (f := 19) rfl ?_); refine goesL_ (some 70) rfl rfl Tryd.func19 (by kernel_rfl) rfl #[.pointer (some ⟨g136, 0, none⟩)] rfl (by (try simp only [List.map_toArray, List.map_cons, List.map_nil]); first | done | rfl | (simp only [List.length_drop, List.length_take]; rfl)) ?_; (with_reducible refine (taskmasterref23_Ready_First.calls g136 x137000_8 t155 t156 t157 w _ ?side1 ?side2 A25.out).mono ?_); (case side1 => repeat (first | (with_reducible first | exact HI136.out | apply IsS32.alloc | apply IsS32.drewN | apply IsS32.drew | apply IsS32.set_0) | exact HI136.out)); (case side2 => repeat (first | (with_reducible first | exact HB.out | apply below_alloc | apply pw_below_drewN | apply below_drew1 | refine below_set ?_ (IsS58.ge HI134.out) | refine below_set ?_ (IsS32.ge HI136.out)) | exact HB.out)); rintro e w45 ⟨rfl, hi, hb, hk⟩; refine ⟨_, rfl, ?_⟩; have n0_ := Aside0.mk ((show IsS58 w w45 g134 t154 from ⟨KeepBut.blk hk (show IsS58 w _ g134 t154 from by repeat (first | (with_reducible first | exact HI134.out | apply IsS58.alloc | apply IsS58.drewN | apply IsS58.drew | apply IsS58.set_0) | exact HI134.out)).1 (IsS58.ne_blk (show IsS58 w _ g134 t154 from by repeat (first | (with_reducible first | exact HI134.out | apply IsS58.alloc | apply IsS58.drewN | apply IsS58.drew | apply IsS58.set_0) | exact HI134.out)) (show IsS32 w _ g136 x137000_8 from by repeat (first | (with_reducible first | exact HI136.out | apply IsS32.alloc | apply IsS32.drewN | apply IsS32.drew | apply IsS32.set_0) | exact HI136.out)).1 (by decide)) (by simp), (show IsS58 w _ g134 t154 from by repeat (first | (with_reducible first | exact HI134.out | apply IsS58.alloc | apply IsS58.drewN | apply IsS58.drew | apply IsS58.set_0) | exact HI134.out)).2⟩)); have n1_ := Aside0.mk (hb); have n2_ := Aside0.mk (hi); clear HI134; clear HB; clear HI136; have HI134 := n0_; have HB := n1_; have HI136 := n2_; clear n0_ n1_ n2_; (try clear hb); (try clear hb2); (try clear hk); (try clear hi)))
                  go_ret
                  exact ⟨by first | rfl | (simp [errW_none, errW_some] <;> rfl) | (simp [*, errW_none, errW_some] <;> rfl), by repeat (first | (with_reducible first | exact HB.out | apply below_alloc | apply pw_below_drewN | apply below_drew1 | refine below_set ?_ (IsS58.ge HI134.out) | refine below_set ?_ (IsS32.ge HI136.out)) | exact HB.out)⟩
          · rw [if_neg c8] at H
            exact absurd H (by simp)
        · rw [if_neg c7] at H
          have c7b0 : decide (x5_1 < (l0.length : Int)) = false := decide_eq_false c7
          clear c7
          replace H := Option.bind_eq_some_iff.mp H
          obtain ⟨t137, A460, H⟩ := H
          replace H : (some t137) = some r := H
          have A46 := Aside0.mk A460
          clear A460
          obtain rfl := Option.some.inj H
          go_wp2_with (first | (go_at_call 12; (with_reducible refine (taskmasterlaw23_known.calls (hT := ?sideT) k1  t137 _ A46.out).mono ?_); (case sideT => first | exact HT.out | refine TabW.below HT.out ?_; repeat (first | (with_reducible first | exact HB.out | apply below_alloc | apply pw_below_drewN | apply below_drew1) | exact HB.out | exact Below.refl _ _)); rintro e w47 ⟨rfl, hb⟩; have n0_ := Aside0.mk (IsS58.below (by repeat (first | (with_reducible first | exact HI134.out | apply IsS58.alloc | apply IsS58.drewN | apply IsS58.drew | apply IsS58.set_0) | exact HI134.out)) hb); have n1_ := Aside0.mk (IsS32.below (by repeat (first | (with_reducible first | exact HI136.out | apply IsS32.alloc | apply IsS32.drewN | apply IsS32.drew | apply IsS32.set_0) | exact HI136.out)) hb); have n2_ := Aside0.mk (below_step (by repeat (first | (with_reducible first | exact HB.out | apply below_alloc | apply pw_below_drewN | apply below_drew1 | refine below_set ?_ (IsS58.ge HI134.out) | refine below_set ?_ (IsS32.ge HI136.out)) | exact HB.out)) hb); clear HI134; clear HI136; clear HB; have HI134 := n0_; have HI136 := n1_; have HB := n2_; clear n0_ n1_ n2_; (try clear hb); (try clear hb2); (try clear hk); (try clear hi)))
          go_ret
          exact ⟨by first | rfl | (simp [errW_none, errW_some] <;> rfl) | (simp [*, errW_none, errW_some] <;> rfl), by repeat (first | (with_reducible first | exact HB.out | apply below_alloc | apply pw_below_drewN | apply below_drew1 | refine below_set ?_ (IsS58.ge HI134.out) | refine below_set ?_ (IsS32.ge HI136.out)) | exact HB.out)⟩

end Go.Proofs.YtapncdhemhnphaaDoor.QRp

/- What is proved: contracts of Go functions, each as a plain Lean function; written by a program of this session after the kit's print; conditions as each theorem names them. -/
import Derived.Test.YthppgakbgkknlaaQCox0
import Derived.Test.YthppgakbgkknlaaQCoxf13
import Derived.Test.YthppgakbgkknlaaQCoxf14
import Derived.Test.YthppgakbgkknlaaQCoxf15
namespace Go.Proofs.Ythppgakbgkknlaa.QCo
open Go.RowKit Go.Proofs.YthppgakbgkknlaaW.PrintWords Go.Proofs.YthppgakbgkknlaaW.PrintLast Go.Proofs.YthppgakbgkknlaaW.PrintMore
attribute [local go_sem] max2_int min2_int max_two min_two max_three min_three max_four min_four   -- for this text's walks alone
set_option linter.unusedVariables false
set_option linter.unusedSimpArgs false

/-! ### taskmasterlaw3_CostMore: function 4 -/
def taskmasterlaw3_CostMore.j0 : Nat → Int → Int → Int → Int → Bool → Option (Bool)
  | 0, _, _, _, _, _ => none
  | k + 1, x0, x1, x2, x3, x40 => if x40 = true then (some true) else ((cost_More.f k ((floatOfInt .f64 x0, floatOfInt .f64 x1) : Nat × Nat) ((floatOfInt .f64 x2, floatOfInt .f64 x3) : Nat × Nat)).bind fun t200 => ((taskmasterref3_More.f k ((floatOfInt .f64 x0, floatOfInt .f64 x1) : Nat × Nat) ((floatOfInt .f64 x2, floatOfInt .f64 x3) : Nat × Nat)).bind fun t201 => (if ((FloatKind.f64.format.order t200.1 t201.1 == some .eq) && (FloatKind.f64.format.order t200.2 t201.2 == some .eq)) = true then ((cost_More.f k ((floatOfInt .f64 x0, floatOfInt .f64 x1) : Nat × Nat) ((floatOfInt .f64 x0, floatOfInt .f64 x1) : Nat × Nat)).bind fun t202 => ((taskmasterref3_More.f k ((floatOfInt .f64 x0, floatOfInt .f64 x1) : Nat × Nat) ((floatOfInt .f64 x0, floatOfInt .f64 x1) : Nat × Nat)).bind fun t203 => (if ((FloatKind.f64.format.order t202.1 t203.1 == some .eq) && (FloatKind.f64.format.order t202.2 t203.2 == some .eq)) = true then ((taskmasterlaw3_known.f).bind fun t204 => (some t204)) else (some false)))) else (some false))))
def taskmasterlaw3_CostMore.f (k : Nat) (a0 : Int) (a1 : Int) (a2 : Int) (a3 : Int) : Option (Bool) := if a0 < (-1125899906842624) then (taskmasterlaw3_CostMore.j0 k a0 a1 a2 a3 true) else (if a0 > 1125899906842624 then (taskmasterlaw3_CostMore.j0 k a0 a1 a2 a3 true) else (if a1 < (-1125899906842624) then (taskmasterlaw3_CostMore.j0 k a0 a1 a2 a3 true) else (if a1 > 1125899906842624 then (taskmasterlaw3_CostMore.j0 k a0 a1 a2 a3 true) else (if a2 < (-1125899906842624) then (taskmasterlaw3_CostMore.j0 k a0 a1 a2 a3 true) else (if a2 > 1125899906842624 then (taskmasterlaw3_CostMore.j0 k a0 a1 a2 a3 true) else (if a3 < (-1125899906842624) then (taskmasterlaw3_CostMore.j0 k a0 a1 a2 a3 true) else (taskmasterlaw3_CostMore.j0 k a0 a1 a2 a3 (decide (a3 > 1125899906842624)))))))))
theorem taskmasterlaw3_CostMore.mono_l : ∀ k, (∀ y0 y1 y2 y3 y4, LeO (taskmasterlaw3_CostMore.j0 k y0 y1 y2 y3 y4) (taskmasterlaw3_CostMore.j0 (k + 1) y0 y1 y2 y3 y4))
  | 0 => fun _ _ _ _ _ r h => by simp [taskmasterlaw3_CostMore.j0] at h
  | k + 1 => by
    have ih0 := taskmasterlaw3_CostMore.mono_l k
    · intro y0 y1 y2 y3 y4
      unfold taskmasterlaw3_CostMore.j0
      repeat' first
      | (with_reducible exact ih0 _ _ _ _ _)
      | (with_reducible exact cost_More.mono _ _ _)
      | (with_reducible exact taskmasterref3_More.mono _ _ _)
      | (with_reducible exact LeO.refl _)
      | (with_reducible exact LeO.none _)
      | (with_reducible refine LeO.ite ?_ ?_)
      | (with_reducible refine LeO.bind ?_ (fun _ => ?_))
      | exact ih0 _ _ _ _ _
      | exact cost_More.mono _ _ _
      | exact taskmasterref3_More.mono _ _ _
      | exact LeO.none _
      | refine LeO.ite ?_ ?_
      | refine LeO.bind ?_ (fun _ => ?_)
theorem taskmasterlaw3_CostMore.mono : ∀ a0 a1 a2 a3 k, LeO (taskmasterlaw3_CostMore.f k a0 a1 a2 a3) (taskmasterlaw3_CostMore.f (k + 1) a0 a1 a2 a3) := by
  intro a0 a1 a2 a3 k
  have ih0 := taskmasterlaw3_CostMore.mono_l k
  unfold taskmasterlaw3_CostMore.f
  repeat' first
      | (with_reducible exact ih0 _ _ _ _ _)
      | (with_reducible exact cost_More.mono _ _ _)
      | (with_reducible exact taskmasterref3_More.mono _ _ _)
      | (with_reducible exact LeO.refl _)
      | (with_reducible exact LeO.none _)
      | (with_reducible refine LeO.ite ?_ ?_)
      | (with_reducible refine LeO.bind ?_ (fun _ => ?_))
      | exact ih0 _ _ _ _ _
      | exact cost_More.mono _ _ _
      | exact taskmasterref3_More.mono _ _ _
      | exact LeO.none _
      | refine LeO.ite ?_ ?_
      | refine LeO.bind ?_ (fun _ => ?_)
set_option maxHeartbeats 8000000 in
set_option maxRecDepth 100000 in
theorem taskmasterlaw3_CostMore.calls (k : Nat) (a0 : Int) (a1 : Int) (a2 : Int) (a3 : Int) (r : Bool) (w : World) (h : taskmasterlaw3_CostMore.f k a0 a1 a2 a3 = some r) :
    Calls Try.prog 4 #[.int .i64 a0, .int .i64 a1, .int .i64 a2, .int .i64 a3] w fun e w' => e = .returned (.bool r) ∧ Below w.heap.size w w' := by
  have HB := Aside0.mk (Below.refl w.heap.size w)
  have H : (if a0 < (-1125899906842624) then (taskmasterlaw3_CostMore.j0 k a0 a1 a2 a3 true) else (if a0 > 1125899906842624 then (taskmasterlaw3_CostMore.j0 k a0 a1 a2 a3 true) else (if a1 < (-1125899906842624) then (taskmasterlaw3_CostMore.j0 k a0 a1 a2 a3 true) else (if a1 > 1125899906842624 then (taskmasterlaw3_CostMore.j0 k a0 a1 a2 a3 true) else (if a2 < (-1125899906842624) then (taskmasterlaw3_CostMore.j0 k a0 a1 a2 a3 true) else (if a2 > 1125899906842624 then (taskmasterlaw3_CostMore.j0 k a0 a1 a2 a3 true) else (if a3 < (-1125899906842624) then (taskmasterlaw3_CostMore.j0 k a0 a1 a2 a3 true) else (taskmasterlaw3_CostMore.j0 k a0 a1 a2 a3 (decide (a3 > 1125899906842624)))))))))) = some r := h
  clear h
  have HC5 := Aside0.mk H
  clear H
  go_enter Try.func4, Try.ntmps4
  go_upto_region 1 with (fail)
  go_cut [40] (fun v40 wc => ∃ (kq : Nat) (x40_4 : Bool), v40 = .bool x40_4 ∧ Aside0 (taskmasterlaw3_CostMore.j0 kq a0 a1 a2 a3 x40_4 = some r) ∧ Aside0 (kq ≤ k) ∧ Aside0 (Below w.heap.size w wc))
  case first =>
    have H := HC5.out
    clear HC5
    by_cases c6 : a0 < (-1125899906842624)
    · rw [if_pos c6] at H
      have c6b0 : decide (a0 < (-1125899906842624)) = true := decide_eq_true c6
      clear c6
      (first | rw [c6b0] | (simp only [i64_w, i32_w]; rw [c6b0]) | skip)
      have H' := Aside0.mk H
      clear H
      go_wp2
      go_meet
      case rel => exact ⟨_, (true), (by first | rfl | (simp; done) | (simp [*]; done)), H', ⟨by first | omega | exact Nat.le_refl _⟩, ⟨by repeat (first | (with_reducible first | exact HB.out | apply below_alloc | apply pw_below_drewN | apply below_drew1) | exact HB.out)⟩⟩
    · rw [if_neg c6] at H
      have c6b0 : decide (a0 < (-1125899906842624)) = false := decide_eq_false c6
      clear c6
      (first | rw [c6b0] | (simp only [i64_w, i32_w]; rw [c6b0]) | skip)
      by_cases c7 : a0 > 1125899906842624
      · rw [if_pos c7] at H
        have c7b0 : decide (1125899906842624 < a0) = true := decide_eq_true c7
        clear c7
        have H' := Aside0.mk H
        clear H
        go_wp2
        go_meet
        case rel => exact ⟨_, (true), (by first | rfl | (simp; done) | (simp [*]; done)), H', ⟨by first | omega | exact Nat.le_refl _⟩, ⟨by repeat (first | (with_reducible first | exact HB.out | apply below_alloc | apply pw_below_drewN | apply below_drew1) | exact HB.out)⟩⟩
      · rw [if_neg c7] at H
        have c7b0 : decide (1125899906842624 < a0) = false := decide_eq_false c7
        clear c7
        by_cases c8 : a1 < (-1125899906842624)
        · rw [if_pos c8] at H
          have c8b0 : decide (a1 < (-1125899906842624)) = true := decide_eq_true c8
          clear c8
          have H' := Aside0.mk H
          clear H
          go_wp2
          go_meet
          case rel => exact ⟨_, (true), (by first | rfl | (simp; done) | (simp [*]; done)), H', ⟨by first | omega | exact Nat.le_refl _⟩, ⟨by repeat (first | (with_reducible first | exact HB.out | apply below_alloc | apply pw_below_drewN | apply below_drew1) | exact HB.out)⟩⟩
        · rw [if_neg c8] at H
          have c8b0 : decide (a1 < (-1125899906842624)) = false := decide_eq_false c8
          clear c8
          by_cases c9 : a1 > 1125899906842624
          · rw [if_pos c9] at H
            have c9b0 : decide (1125899906842624 < a1) = true := decide_eq_true c9
            clear c9
            have H' := Aside0.mk H
            clear H
            go_wp2
            go_meet
            case rel => exact ⟨_, (true), (by first | rfl | (simp; done) | (simp [*]; done)), H', ⟨by first | omega | exact Nat.le_refl _⟩, ⟨by repeat (first | (with_reducible first | exact HB.out | apply below_alloc | apply pw_below_drewN | apply below_drew1) | exact HB.out)⟩⟩
          · rw [if_neg c9] at H
            have c9b0 : decide (1125899906842624 < a1) = false := decide_eq_false c9
            clear c9
            by_cases c10 : a2 < (-1125899906842624)
            · rw [if_pos c10] at H
              have c10b0 : decide (a2 < (-1125899906842624)) = true := decide_eq_true c10
              clear c10
              have H' := Aside0.mk H
              clear H
              go_wp2
              go_meet
              case rel => exact ⟨_, (true), (by first | rfl | (simp; done) | (simp [*]; done)), H', ⟨by first | omega | exact Nat.le_refl _⟩, ⟨by repeat (first | (with_reducible first | exact HB.out | apply below_alloc | apply pw_below_drewN | apply below_drew1) | exact HB.out)⟩⟩
            · rw [if_neg c10] at H
              have c10b0 : decide (a2 < (-1125899906842624)) = false := decide_eq_false c10
              clear c10
              by_cases c11 : a2 > 1125899906842624
              · rw [if_pos c11] at H
                have c11b0 : decide (1125899906842624 < a2) = true := decide_eq_true c11
                clear c11
                have H' := Aside0.mk H
                clear H
                go_wp2
                go_meet
                case rel => exact ⟨_, (true), (by first | rfl | (simp; done) | (simp [*]; done)), H', ⟨by first | omega | exact Nat.le_refl _⟩, ⟨by repeat (first | (with_reducible first | exact HB.out | apply below_alloc | apply pw_below_drewN | apply below_drew1) | exact HB.out)⟩⟩
              · rw [if_neg c11] at H
                have c11b0 : decide (1125899906842624 < a2) = false := decide_eq_false c11
                clear c11
                by_cases c12 : a3 < (-1125899906842624)
                · rw [if_pos c12] at H
                  have c12b0 : decide (a3 < (-1125899906842624)) = true := decide_eq_true c12
                  clear c12
                  have H' := Aside0.mk H
                  clear H
                  go_wp2
                  go_meet
                  case rel => exact ⟨_, (true), (by first | rfl | (simp; done) | (simp [*]; done)), H', ⟨by first | omega | exact Nat.le_refl _⟩, ⟨by repeat (first | (with_reducible first | exact HB.out | apply below_alloc | apply pw_below_drewN | apply below_drew1) | exact HB.out)⟩⟩
                · rw [if_neg c12] at H
                  have c12b0 : decide (a3 < (-1125899906842624)) = false := decide_eq_false c12
                  clear c12
                  have H' := Aside0.mk H
                  clear H
                  go_wp2
                  go_meet
                  case rel => exact ⟨_, (decide (a3 > 1125899906842624)), (by first | rfl | (simp; done) | (simp [*]; done)), H', ⟨by first | omega | exact Nat.le_refl _⟩, ⟨by repeat (first | (with_reducible first | exact HB.out | apply below_alloc | apply pw_below_drewN | apply below_drew1) | exact HB.out)⟩⟩
  case rest =>
    clear HC5
    try clear c1
    try clear p2
    try clear c4
    try clear c6
    try clear c6b0
    try clear c7
    try clear c7b0
    try clear c8
    try clear c8b0
    try clear c9
    try clear c9b0
    try clear c10
    try clear c10b0
    try clear c11
    try clear c11b0
    try clear c12
    try clear c12b0
    obtain ⟨kq, x40_4, rfl, HA, HJ4, HB⟩ := hcut
    cases kq with
    | zero => exact absurd HA.out (by simp [taskmasterlaw3_CostMore.j0])
    | succ kj4 =>
      have H := HA.out
      clear HA
      simp only [taskmasterlaw3_CostMore.j0] at H
      by_cases c13 : x40_4 = true
      · subst c13
        have H1 : (some true) = some r := by rw [if_pos rfl] at H; exact H
        clear H
        have H := H1
        clear H1
        obtain rfl := Option.some.inj H
        go_wp2
        go_ret
        exact ⟨by first | rfl | (simp [errW_none, errW_some] <;> rfl) | (simp [*, errW_none, errW_some] <;> rfl), by repeat (first | (with_reducible first | exact HB.out | apply below_alloc | apply pw_below_drewN | apply below_drew1) | exact HB.out)⟩
      · replace c13 := Bool.eq_false_iff.mpr c13
        subst c13
        have H1 : ((cost_More.f kj4 ((floatOfInt .f64 a0, floatOfInt .f64 a1) : Nat × Nat) ((floatOfInt .f64 a2, floatOfInt .f64 a3) : Nat × Nat)).bind fun t200 => ((taskmasterref3_More.f kj4 ((floatOfInt .f64 a0, floatOfInt .f64 a1) : Nat × Nat) ((floatOfInt .f64 a2, floatOfInt .f64 a3) : Nat × Nat)).bind fun t201 => (if ((FloatKind.f64.format.order t200.1 t201.1 == some .eq) && (FloatKind.f64.format.order t200.2 t201.2 == some .eq)) = true then ((cost_More.f kj4 ((floatOfInt .f64 a0, floatOfInt .f64 a1) : Nat × Nat) ((floatOfInt .f64 a0, floatOfInt .f64 a1) : Nat × Nat)).bind fun t202 => ((taskmasterref3_More.f kj4 ((floatOfInt .f64 a0, floatOfInt .f64 a1) : Nat × Nat) ((floatOfInt .f64 a0, floatOfInt .f64 a1) : Nat × Nat)).bind fun t203 => (if ((FloatKind.f64.format.order t202.1 t203.1 == some .eq) && (FloatKind.f64.format.order t202.2 t203.2 == some .eq)) = true then ((taskmasterlaw3_known.f).bind fun t204 => (some t204)) else (some false)))) else (some false)))) = some r := by rw [if_neg (show ¬ (false = true) by decide)] at H; exact H
        clear H
        have H := H1
        clear H1
        replace H := Option.bind_eq_some_iff.mp H
        obtain ⟨t200, A140, H⟩ := H
        replace H : ((taskmasterref3_More.f kj4 ((floatOfInt .f64 a0, floatOfInt .f64 a1) : Nat × Nat) ((floatOfInt .f64 a2, floatOfInt .f64 a3) : Nat × Nat)).bind fun t201 => (if ((FloatKind.f64.format.order t200.1 t201.1 == some .eq) && (FloatKind.f64.format.order t200.2 t201.2 == some .eq)) = true then ((cost_More.f kj4 ((floatOfInt .f64 a0, floatOfInt .f64 a1) : Nat × Nat) ((floatOfInt .f64 a0, floatOfInt .f64 a1) : Nat × Nat)).bind fun t202 => ((taskmasterref3_More.f kj4 ((floatOfInt .f64 a0, floatOfInt .f64 a1) : Nat × Nat) ((floatOfInt .f64 a0, floatOfInt .f64 a1) : Nat × Nat)).bind fun t203 => (if ((FloatKind.f64.format.order t202.1 t203.1 == some .eq) && (FloatKind.f64.format.order t202.2 t203.2 == some .eq)) = true then ((taskmasterlaw3_known.f).bind fun t204 => (some t204)) else (some false)))) else (some false))) = some r := H
        have A14 := Aside0.mk A140
        clear A140
        replace H := Option.bind_eq_some_iff.mp H
        obtain ⟨t201, A150, H⟩ := H
        replace H : (if ((FloatKind.f64.format.order t200.1 t201.1 == some .eq) && (FloatKind.f64.format.order t200.2 t201.2 == some .eq)) = true then ((cost_More.f kj4 ((floatOfInt .f64 a0, floatOfInt .f64 a1) : Nat × Nat) ((floatOfInt .f64 a0, floatOfInt .f64 a1) : Nat × Nat)).bind fun t202 => ((taskmasterref3_More.f kj4 ((floatOfInt .f64 a0, floatOfInt .f64 a1) : Nat × Nat) ((floatOfInt .f64 a0, floatOfInt .f64 a1) : Nat × Nat)).bind fun t203 => (if ((FloatKind.f64.format.order t202.1 t203.1 == some .eq) && (FloatKind.f64.format.order t202.2 t203.2 == some .eq)) = true then ((taskmasterlaw3_known.f).bind fun t204 => (some t204)) else (some false)))) else (some false)) = some r := H
        have A15 := Aside0.mk A150
        clear A150
        by_cases c16 : ((FloatKind.f64.format.order t200.1 t201.1 == some .eq) && (FloatKind.f64.format.order t200.2 t201.2 == some .eq)) = true
        · rw [if_pos c16] at H
          have c16b0 : ((FloatKind.f64.format.order t200.1 t201.1 == some .eq) && (FloatKind.f64.format.order t200.2 t201.2 == some .eq)) = true := c16
          clear c16
          replace H := Option.bind_eq_some_iff.mp H
          obtain ⟨t202, A170, H⟩ := H
          replace H : ((taskmasterref3_More.f kj4 ((floatOfInt .f64 a0, floatOfInt .f64 a1) : Nat × Nat) ((floatOfInt .f64 a0, floatOfInt .f64 a1) : Nat × Nat)).bind fun t203 => (if ((FloatKind.f64.format.order t202.1 t203.1 == some .eq) && (FloatKind.f64.format.order t202.2 t203.2 == some .eq)) = true then ((taskmasterlaw3_known.f).bind fun t204 => (some t204)) else (some false))) = some r := H
          have A17 := Aside0.mk A170
          clear A170
          replace H := Option.bind_eq_some_iff.mp H
          obtain ⟨t203, A180, H⟩ := H
          replace H : (if ((FloatKind.f64.format.order t202.1 t203.1 == some .eq) && (FloatKind.f64.format.order t202.2 t203.2 == some .eq)) = true then ((taskmasterlaw3_known.f).bind fun t204 => (some t204)) else (some false)) = some r := H
          have A18 := Aside0.mk A180
          clear A180
          by_cases c19 : ((FloatKind.f64.format.order t202.1 t203.1 == some .eq) && (FloatKind.f64.format.order t202.2 t203.2 == some .eq)) = true
          · rw [if_pos c19] at H
            have c19b0 : ((FloatKind.f64.format.order t202.1 t203.1 == some .eq) && (FloatKind.f64.format.order t202.2 t203.2 == some .eq)) = true := c19
            clear c19
            replace H := Option.bind_eq_some_iff.mp H
            obtain ⟨t204, A200, H⟩ := H
            replace H : (some t204) = some r := H
            have A20 := Aside0.mk A200
            clear A200
            obtain rfl := Option.some.inj H
            go_wp2_with (first | ((with_reducible refine gate_callee (f := 14) rfl ?_); refine goesL_ (some 53) rfl rfl Try.func14 (by kernel_rfl) rfl #[.complex .f64 ((floatOfInt .f64 a0, floatOfInt .f64 a1) : Nat × Nat).1 ((floatOfInt .f64 a0, floatOfInt .f64 a1) : Nat × Nat).2, .complex .f64 ((floatOfInt .f64 a2, floatOfInt .f64 a3) : Nat × Nat).1 ((floatOfInt .f64 a2, floatOfInt .f64 a3) : Nat × Nat).2] rfl (by (try simp only [List.map_toArray, List.map_cons, List.map_nil]); first | done | rfl | (simp only [List.length_drop, List.length_take]; rfl)) ?_; (with_reducible refine (cost_More.calls kj4 ((floatOfInt .f64 a0, floatOfInt .f64 a1) : Nat × Nat) ((floatOfInt .f64 a2, floatOfInt .f64 a3) : Nat × Nat) t200 _ A14.out).mono ?_); rintro e w21 ⟨rfl, hb⟩; refine ⟨_, rfl, ?_⟩; have n0_ := Aside0.mk (below_step (by repeat (first | (with_reducible first | exact HB.out | apply below_alloc | apply pw_below_drewN | apply below_drew1) | exact HB.out)) hb); clear HB; have HB := n0_; clear n0_; (try clear hb); (try clear hb2); (try clear hk); (try clear hi)) | ((with_reducible refine gate_callee (f := 15) rfl ?_); refine goesL_ (some 56) rfl rfl Try.func15 (by kernel_rfl) rfl #[.complex .f64 ((floatOfInt .f64 a0, floatOfInt .f64 a1) : Nat × Nat).1 ((floatOfInt .f64 a0, floatOfInt .f64 a1) : Nat × Nat).2, .complex .f64 ((floatOfInt .f64 a2, floatOfInt .f64 a3) : Nat × Nat).1 ((floatOfInt .f64 a2, floatOfInt .f64 a3) : Nat × Nat).2] rfl (by (try simp only [List.map_toArray, List.map_cons, List.map_nil]); first | done | rfl | (simp only [List.length_drop, List.length_take]; rfl)) ?_; (with_reducible refine (taskmasterref3_More.calls kj4 ((floatOfInt .f64 a0, floatOfInt .f64 a1) : Nat × Nat) ((floatOfInt .f64 a2, floatOfInt .f64 a3) : Nat × Nat) t201 _ A15.out).mono ?_); rintro e w22 ⟨rfl, hb⟩; refine ⟨_, rfl, ?_⟩; have n0_ := Aside0.mk (below_step (by repeat (first | (with_reducible first | exact HB.out | apply below_alloc | apply pw_below_drewN | apply below_drew1) | exact HB.out)) hb); clear HB; have HB := n0_; clear n0_; (try clear hb); (try clear hb2); (try clear hk); (try clear hi)) | (go_at_call 14; (with_reducible refine (cost_More.calls kj4 ((floatOfInt .f64 a0, floatOfInt .f64 a1) : Nat × Nat) ((floatOfInt .f64 a0, floatOfInt .f64 a1) : Nat × Nat) t202 _ A17.out).mono ?_); rintro e w23 ⟨rfl, hb⟩; have n0_ := Aside0.mk (below_step (by repeat (first | (with_reducible first | exact HB.out | apply below_alloc | apply pw_below_drewN | apply below_drew1) | exact HB.out)) hb); clear HB; have HB := n0_; clear n0_; (try clear hb); (try clear hb2); (try clear hk); (try clear hi)) | (go_at_call 15; (with_reducible refine (taskmasterref3_More.calls kj4 ((floatOfInt .f64 a0, floatOfInt .f64 a1) : Nat × Nat) ((floatOfInt .f64 a0, floatOfInt .f64 a1) : Nat × Nat) t203 _ A18.out).mono ?_); rintro e w24 ⟨rfl, hb⟩; have n0_ := Aside0.mk (below_step (by repeat (first | (with_reducible first | exact HB.out | apply below_alloc | apply pw_below_drewN | apply below_drew1) | exact HB.out)) hb); clear HB; have HB := n0_; clear n0_; (try clear hb); (try clear hb2); (try clear hk); (try clear hi)) | (go_at_call 13; (with_reducible refine (taskmasterlaw3_known.calls  t204 _ A20.out).mono ?_); rintro e w25 ⟨rfl, hb⟩; have n0_ := Aside0.mk (below_step (by repeat (first | (with_reducible first | exact HB.out | apply below_alloc | apply pw_below_drewN | apply below_drew1) | exact HB.out)) hb); clear HB; have HB := n0_; clear n0_; (try clear hb); (try clear hb2); (try clear hk); (try clear hi)))
            go_ret
            exact ⟨by first | rfl | (simp [errW_none, errW_some] <;> rfl) | (simp [*, errW_none, errW_some] <;> rfl), by repeat (first | (with_reducible first | exact HB.out | apply below_alloc | apply pw_below_drewN | apply below_drew1) | exact HB.out)⟩
          · rw [if_neg c19] at H
            have c19b0 : ((FloatKind.f64.format.order t202.1 t203.1 == some .eq) && (FloatKind.f64.format.order t202.2 t203.2 == some .eq)) = false := by simpa using c19
            clear c19
            obtain rfl := Option.some.inj H
            go_wp2_with (first | ((with_reducible refine gate_callee (f := 14) rfl ?_); refine goesL_ (some 53) rfl rfl Try.func14 (by kernel_rfl) rfl #[.complex .f64 ((floatOfInt .f64 a0, floatOfInt .f64 a1) : Nat × Nat).1 ((floatOfInt .f64 a0, floatOfInt .f64 a1) : Nat × Nat).2, .complex .f64 ((floatOfInt .f64 a2, floatOfInt .f64 a3) : Nat × Nat).1 ((floatOfInt .f64 a2, floatOfInt .f64 a3) : Nat × Nat).2] rfl (by (try simp only [List.map_toArray, List.map_cons, List.map_nil]); first | done | rfl | (simp only [List.length_drop, List.length_take]; rfl)) ?_; (with_reducible refine (cost_More.calls kj4 ((floatOfInt .f64 a0, floatOfInt .f64 a1) : Nat × Nat) ((floatOfInt .f64 a2, floatOfInt .f64 a3) : Nat × Nat) t200 _ A14.out).mono ?_); rintro e w26 ⟨rfl, hb⟩; refine ⟨_, rfl, ?_⟩; have n0_ := Aside0.mk (below_step (by repeat (first | (with_reducible first | exact HB.out | apply below_alloc | apply pw_below_drewN | apply below_drew1) | exact HB.out)) hb); clear HB; have HB := n0_; clear n0_; (try clear hb); (try clear hb2); (try clear hk); (try clear hi)) | ((with_reducible refine gate_callee (f := 15) rfl ?_); refine goesL_ (some 56) rfl rfl Try.func15 (by kernel_rfl) rfl #[.complex .f64 ((floatOfInt .f64 a0, floatOfInt .f64 a1) : Nat × Nat).1 ((floatOfInt .f64 a0, floatOfInt .f64 a1) : Nat × Nat).2, .complex .f64 ((floatOfInt .f64 a2, floatOfInt .f64 a3) : Nat × Nat).1 ((floatOfInt .f64 a2, floatOfInt .f64 a3) : Nat × Nat).2] rfl (by (try simp only [List.map_toArray, List.map_cons, List.map_nil]); first | done | rfl | (simp only [List.length_drop, List.length_take]; rfl)) ?_; (with_reducible refine (taskmasterref3_More.calls kj4 ((floatOfInt .f64 a0, floatOfInt .f64 a1) : Nat × Nat) ((floatOfInt .f64 a2, floatOfInt .f64 a3) : Nat × Nat) t201 _ A15.out).mono ?_); rintro e w27 ⟨rfl, hb⟩; refine ⟨_, rfl, ?_⟩; have n0_ := Aside0.mk (below_step (by repeat (first | (with_reducible first | exact HB.out | apply below_alloc | apply pw_below_drewN | apply below_drew1) | exact HB.out)) hb); clear HB; have HB := n0_; clear n0_; (try clear hb); (try clear hb2); (try clear hk); (try clear hi)) | (go_at_call 14; (with_reducible refine (cost_More.calls kj4 ((floatOfInt .f64 a0, floatOfInt .f64 a1) : Nat × Nat) ((floatOfInt .f64 a0, floatOfInt .f64 a1) : Nat × Nat) t202 _ A17.out).mono ?_); rintro e w28 ⟨rfl, hb⟩; have n0_ := Aside0.mk (below_step (by repeat (first | (with_reducible first | exact HB.out | apply below_alloc | apply pw_below_drewN | apply below_drew1) | exact HB.out)) hb); clear HB; have HB := n0_; clear n0_; (try clear hb); (try clear hb2); (try clear hk); (try clear hi)) | (go_at_call 15; (with_reducible refine (taskmasterref3_More.calls kj4 ((floatOfInt .f64 a0, floatOfInt .f64 a1) : Nat × Nat) ((floatOfInt .f64 a0, floatOfInt .f64 a1) : Nat × Nat) t203 _ A18.out).mono ?_); rintro e w29 ⟨rfl, hb⟩; have n0_ := Aside0.mk (below_step (by repeat (first | (with_reducible first | exact HB.out | apply below_alloc | apply pw_below_drewN | apply below_drew1) | exact HB.out)) hb); clear HB; have HB := n0_; clear n0_; (try clear hb); (try clear hb2); (try clear hk); (try clear hi)))
            go_ret
            exact ⟨by first | rfl | (simp [errW_none, errW_some] <;> rfl) | (simp [*, errW_none, errW_some] <;> rfl), by repeat (first | (with_reducible first | exact HB.out | apply below_alloc | apply pw_below_drewN | apply below_drew1) | exact HB.out)⟩
        · rw [if_neg c16] at H
          have c16b0 : ((FloatKind.f64.format.order t200.1 t201.1 == some .eq) && (FloatKind.f64.format.order t200.2 t201.2 == some .eq)) = false := by simpa using c16
          clear c16
          obtain rfl := Option.some.inj H
          go_wp2_with (first | ((with_reducible refine gate_callee (f := 14) rfl ?_); refine goesL_ (some 53) rfl rfl Try.func14 (by kernel_rfl) rfl #[.complex .f64 ((floatOfInt .f64 a0, floatOfInt .f64 a1) : Nat × Nat).1 ((floatOfInt .f64 a0, floatOfInt .f64 a1) : Nat × Nat).2, .complex .f64 ((floatOfInt .f64 a2, floatOfInt .f64 a3) : Nat × Nat).1 ((floatOfInt .f64 a2, floatOfInt .f64 a3) : Nat × Nat).2] rfl (by (try simp only [List.map_toArray, List.map_cons, List.map_nil]); first | done | rfl | (simp only [List.length_drop, List.length_take]; rfl)) ?_; (with_reducible refine (cost_More.calls kj4 ((floatOfInt .f64 a0, floatOfInt .f64 a1) : Nat × Nat) ((floatOfInt .f64 a2, floatOfInt .f64 a3) : Nat × Nat) t200 _ A14.out).mono ?_); rintro e w30 ⟨rfl, hb⟩; refine ⟨_, rfl, ?_⟩; have n0_ := Aside0.mk (below_step (by repeat (first | (with_reducible first | exact HB.out | apply below_alloc | apply pw_below_drewN | apply below_drew1) | exact HB.out)) hb); clear HB; have HB := n0_; clear n0_; (try clear hb); (try clear hb2); (try clear hk); (try clear hi)) | ((with_reducible refine gate_callee (f := 15) rfl ?_); refine goesL_ (some 56) rfl rfl Try.func15 (by kernel_rfl) rfl #[.complex .f64 ((floatOfInt .f64 a0, floatOfInt .f64 a1) : Nat × Nat).1 ((floatOfInt .f64 a0, floatOfInt .f64 a1) : Nat × Nat).2, .complex .f64 ((floatOfInt .f64 a2, floatOfInt .f64 a3) : Nat × Nat).1 ((floatOfInt .f64 a2, floatOfInt .f64 a3) : Nat × Nat).2] rfl (by (try simp only [List.map_toArray, List.map_cons, List.map_nil]); first | done | rfl | (simp only [List.length_drop, List.length_take]; rfl)) ?_; (with_reducible refine (taskmasterref3_More.calls kj4 ((floatOfInt .f64 a0, floatOfInt .f64 a1) : Nat × Nat) ((floatOfInt .f64 a2, floatOfInt .f64 a3) : Nat × Nat) t201 _ A15.out).mono ?_); rintro e w31 ⟨rfl, hb⟩; refine ⟨_, rfl, ?_⟩; have n0_ := Aside0.mk (below_step (by repeat (first | (with_reducible first | exact HB.out | apply below_alloc | apply pw_below_drewN | apply below_drew1) | exact HB.out)) hb); clear HB; have HB := n0_; clear n0_; (try clear hb); (try clear hb2); (try clear hk); (try clear hi)))
          go_ret
          exact ⟨by first | rfl | (simp [errW_none, errW_some] <;> rfl) | (simp [*, errW_none, errW_some] <;> rfl), by repeat (first | (with_reducible first | exact HB.out | apply below_alloc | apply pw_below_drewN | apply below_drew1) | exact HB.out)⟩

/-- THE ONE PURE STATEMENT of taskmasterlaw3_CostMore: yours. -/
def taskmasterlaw3_CostMore.Pure : Prop := ∀ (a0 : Int) (a1 : Int) (a2 : Int) (a3 : Int), (Lit.int .i64 a0).wf = true → (Lit.int .i64 a1).wf = true → (Lit.int .i64 a2).wf = true → (Lit.int .i64 a3).wf = true → ∃ k, taskmasterlaw3_CostMore.f k a0 a1 a2 a3 = some true
theorem taskmasterlaw3_CostMore.walk (P : taskmasterlaw3_CostMore.Pure) (a0 : Int) (a1 : Int) (a2 : Int) (a3 : Int) (w : World) (w0 : (Lit.int .i64 a0).wf = true) (w1 : (Lit.int .i64 a1).wf = true) (w2 : (Lit.int .i64 a2).wf = true) (w3 : (Lit.int .i64 a3).wf = true) :
    Calls Try.prog 4 #[.int .i64 a0, .int .i64 a1, .int .i64 a2, .int .i64 a3] w fun e w' => e = .returned (.bool true) ∧ Below w.heap.size w w' := by
  obtain ⟨k, h⟩ := P a0 a1 a2 a3 w0 w1 w2 w3
  refine (taskmasterlaw3_CostMore.calls k a0 a1 a2 a3 true w h).mono ?_
  rintro e w' ⟨rfl, hd⟩
  exact ⟨rfl, hd⟩

end Go.Proofs.Ythppgakbgkknlaa.QCo

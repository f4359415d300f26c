/- What is proved: contracts of Go functions, each as a plain Lean function; written by a program of this session after the kit's print; conditions as each theorem names them. -/
import Derived.Test.YthppgakbgkknlaaQCox0
import Derived.Test.YthppgakbgkknlaaQCoxf10
import Derived.Test.YthppgakbgkknlaaQCoxf19
import Derived.Test.YthppgakbgkknlaaQCoxf24
namespace Go.Proofs.Ythppgakbgkknlaa.QCo
open Go.RowKit Go.Proofs.YthppgakbgkknlaaW.PrintWords Go.Proofs.YthppgakbgkknlaaW.PrintLast Go.Proofs.YthppgakbgkknlaaW.PrintMore
attribute [local go_sem] max2_int min2_int max_two min_two max_three min_three max_four min_four   -- for this text's walks alone
set_option linter.unusedVariables false
set_option linter.unusedSimpArgs false

/-! ### taskmasterref3_Sum: function 17 -/
def taskmasterref3_Sum.l0 : Nat → List (Nat × Nat) → Int → Int → Int → Option ((Nat × Nat) × Bool)
  | 0, _, _, _, _ => none
  | k + 1, x0, x4, x5, x6 => if x6 < (x0.length : Int) then (if 0 ≤ x6 then ((taskmasterref3_Parts.f (rdOf ((0, 0) : Nat × Nat) x0 x6)).bind fun bt201 => (if bt201.2.2 = true then ((taskmasterref1_Is.f (wrap64 (x4 + bt201.1))).bind fun t204 => (if t204 = true then ((taskmasterref1_Is.f (wrap64 (x5 + bt201.2.1))).bind fun t205 => (if t205 = true then (taskmasterref3_Sum.l0 k x0 (wrap64 (x4 + bt201.1)) (wrap64 (x5 + bt201.2.1)) (wrap64 (x6 + 1))) else (some (((0, 0) : Nat × Nat), false)))) else (some (((0, 0) : Nat × Nat), false)))) else (some (((0, 0) : Nat × Nat), false)))) else (none)) else ((taskmasterref3_Of.f x4 x5).bind fun bt198 => (some (bt198.1, bt198.2)))
def taskmasterref3_Sum.f (k : Nat) (l0 : List (Nat × Nat)) : Option ((Nat × Nat) × Bool) := taskmasterref3_Sum.l0 k l0 0 0 0
theorem taskmasterref3_Sum.mono_l : ∀ k, (∀ y0 y1 y2 y3, LeO (taskmasterref3_Sum.l0 k y0 y1 y2 y3) (taskmasterref3_Sum.l0 (k + 1) y0 y1 y2 y3))
  | 0 => fun _ _ _ _ r h => by simp [taskmasterref3_Sum.l0] at h
  | k + 1 => by
    have ih0 := taskmasterref3_Sum.mono_l k
    · intro y0 y1 y2 y3
      unfold taskmasterref3_Sum.l0
      repeat' first
      | (with_reducible exact ih0 _ _ _ _)
      | (with_reducible exact LeO.refl _)
      | (with_reducible exact LeO.none _)
      | (with_reducible refine LeO.ite ?_ ?_)
      | (with_reducible refine LeO.bind ?_ (fun _ => ?_))
      | exact ih0 _ _ _ _
      | exact LeO.none _
      | refine LeO.ite ?_ ?_
      | refine LeO.bind ?_ (fun _ => ?_)
theorem taskmasterref3_Sum.mono : ∀ a0 k, LeO (taskmasterref3_Sum.f k a0) (taskmasterref3_Sum.f (k + 1) a0) := by
  intro a0 k
  have ih0 := taskmasterref3_Sum.mono_l k
  unfold taskmasterref3_Sum.f
  repeat' first
      | (with_reducible exact ih0 _ _ _ _)
      | (with_reducible exact LeO.refl _)
      | (with_reducible exact LeO.none _)
      | (with_reducible refine LeO.ite ?_ ?_)
      | (with_reducible refine LeO.bind ?_ (fun _ => ?_))
      | exact ih0 _ _ _ _
      | exact LeO.none _
      | refine LeO.ite ?_ ?_
      | refine LeO.bind ?_ (fun _ => ?_)
set_option maxHeartbeats 8000000 in
set_option maxRecDepth 100000 in
theorem taskmasterref3_Sum.calls (k : Nat) (A0 : Option Addr) (c0 : Nat) (l0 : List (Nat × Nat)) (r1 : (Nat × Nat)) (r2 : Bool) (w : World) (hr0 : Kd.C Kd.cx w A0 l0.length l0) (hc0 : l0.length ≤ c0) (h : taskmasterref3_Sum.f k l0 = some (r1, r2)) :
    Calls Try.prog 17 #[.slice A0 l0.length c0] w fun e w' => e = .returned (.tuple #[.complex .f64 r1.1 r1.2, .bool r2]) ∧ Below w.heap.size w w' := by
  have HR0 := Aside0.mk hr0
  have HC0 := Aside0.mk hc0
  clear hr0 hc0
  have HB := Aside0.mk (Below.refl w.heap.size w)
  have H : (taskmasterref3_Sum.l0 k l0 0 0 0) = some (r1, r2) := h
  clear h
  have H' := Aside0.mk H
  clear H
  go_enter Try.func17, Try.ntmps17
  go_wp2
  go_loopg [4, 5, 6] k (fun kq v4 v5 v6 w' => ∃ (x4_1 : Int) (x5_1 : Int) (x6_1 : Int), v4 = .int .i64 x4_1 ∧ v5 = .int .i64 x5_1 ∧ v6 = .int .i64 x6_1 ∧ Aside0 (taskmasterref3_Sum.l0 kq l0 x4_1 x5_1 x6_1 = some (r1, r2)) ∧ Aside0 (kq ≤ k) ∧ Aside0 (Below w.heap.size w w'))
  case atStart => exact ⟨(0), (0), (0), (by first | rfl | (simp; done) | (simp [*]; done)), (by first | rfl | (simp; done) | (simp [*]; done)), (by first | rfl | (simp; done) | (simp [*]; done)), H', ⟨Nat.le_refl _⟩, ⟨by repeat (first | (with_reducible first | exact HB.out | apply below_alloc | apply pw_below_drewN | apply below_drew1) | exact HB.out)⟩⟩
  case round =>
    clear H'
    try clear c1
    obtain ⟨x4_1, x5_1, x6_1, rfl, rfl, rfl, HA, HK1, HB⟩ := hrel
    cases gk with
    | zero => exact absurd HA.out (by simp [taskmasterref3_Sum.l0])
    | succ k1 =>
      have H := HA.out
      clear HA
      simp only [taskmasterref3_Sum.l0] at H
      by_cases c2 : x6_1 < (l0.length : Int)
      · rw [if_pos c2] at H
        have c2b0 : decide (x6_1 < (l0.length : Int)) = true := decide_eq_true c2
        clear c2
        by_cases c3 : 0 ≤ x6_1
        · rw [if_pos c3] at H
          have c3b0 : decide (0 ≤ x6_1) = true := decide_eq_true c3
          clear c3
          replace H := Option.bind_eq_some_iff.mp H
          obtain ⟨⟨t201, t202, t203⟩, A40, H⟩ := H
          replace H : (if t203 = true then ((taskmasterref1_Is.f (wrap64 (x4_1 + t201))).bind fun t204 => (if t204 = true then ((taskmasterref1_Is.f (wrap64 (x5_1 + t202))).bind fun t205 => (if t205 = true then (taskmasterref3_Sum.l0 k1 l0 (wrap64 (x4_1 + t201)) (wrap64 (x5_1 + t202)) (wrap64 (x6_1 + 1))) else (some (((0, 0) : Nat × Nat), false)))) else (some (((0, 0) : Nat × Nat), false)))) else (some (((0, 0) : Nat × Nat), false))) = some (r1, r2) := H
          have A4 := Aside0.mk A40
          clear A40
          by_cases c5 : t203 = true
          · subst c5
            have H1 : ((taskmasterref1_Is.f (wrap64 (x4_1 + t201))).bind fun t204 => (if t204 = true then ((taskmasterref1_Is.f (wrap64 (x5_1 + t202))).bind fun t205 => (if t205 = true then (taskmasterref3_Sum.l0 k1 l0 (wrap64 (x4_1 + t201)) (wrap64 (x5_1 + t202)) (wrap64 (x6_1 + 1))) else (some (((0, 0) : Nat × Nat), false)))) else (some (((0, 0) : Nat × Nat), false)))) = some (r1, r2) := by rw [if_pos rfl] at H; exact H
            clear H
            have H := H1
            clear H1
            replace H := Option.bind_eq_some_iff.mp H
            obtain ⟨t204, A60, H⟩ := H
            replace H : (if t204 = true then ((taskmasterref1_Is.f (wrap64 (x5_1 + t202))).bind fun t205 => (if t205 = true then (taskmasterref3_Sum.l0 k1 l0 (wrap64 (x4_1 + t201)) (wrap64 (x5_1 + t202)) (wrap64 (x6_1 + 1))) else (some (((0, 0) : Nat × Nat), false)))) else (some (((0, 0) : Nat × Nat), false))) = some (r1, r2) := H
            have A6 := Aside0.mk A60
            clear A60
            by_cases c7 : t204 = true
            · subst c7
              have H1 : ((taskmasterref1_Is.f (wrap64 (x5_1 + t202))).bind fun t205 => (if t205 = true then (taskmasterref3_Sum.l0 k1 l0 (wrap64 (x4_1 + t201)) (wrap64 (x5_1 + t202)) (wrap64 (x6_1 + 1))) else (some (((0, 0) : Nat × Nat), false)))) = some (r1, r2) := by rw [if_pos rfl] at H; exact H
              clear H
              have H := H1
              clear H1
              replace H := Option.bind_eq_some_iff.mp H
              obtain ⟨t205, A80, H⟩ := H
              replace H : (if t205 = true then (taskmasterref3_Sum.l0 k1 l0 (wrap64 (x4_1 + t201)) (wrap64 (x5_1 + t202)) (wrap64 (x6_1 + 1))) else (some (((0, 0) : Nat × Nat), false))) = some (r1, r2) := H
              have A8 := Aside0.mk A80
              clear A80
              by_cases c9 : t205 = true
              · subst c9
                have H1 : (taskmasterref3_Sum.l0 k1 l0 (wrap64 (x4_1 + t201)) (wrap64 (x5_1 + t202)) (wrap64 (x6_1 + 1))) = some (r1, r2) := by rw [if_pos rfl] at H; exact H
                clear H
                have H := H1
                clear H1
                have H' := Aside0.mk H
                clear H
                have p200 : 0 ≤ (x6_1 : Int) := of_decide_eq_true (by first | (with_reducible assumption) | assumption)
                have q200 : x6_1 < (l0.length : Int) := of_decide_eq_true (by first | (with_reducible assumption) | assumption)
                obtain ⟨ad200, e200, hx200_0⟩ := Kd.at_cx HR0.out x6_1 p200 q200
                cases e200
                replace hx200_0 := (HB.out.cell (World.block_lt_of_cell? w _ hx200_0)).trans hx200_0
                replace p200 := eq_true p200
                replace q200 := eq_true q200
                go_wp2_with (first | ((with_reducible refine gate_callee (f := 19) rfl ?_); refine goesL_ (some 21) rfl rfl Try.func19 (by kernel_rfl) rfl #[.complex .f64 (rdOf ((0, 0) : Nat × Nat) l0 x6_1).1 (rdOf ((0, 0) : Nat × Nat) l0 x6_1).2] rfl (by (try simp only [List.map_toArray, List.map_cons, List.map_nil]); first | done | rfl | (simp only [List.length_drop, List.length_take]; rfl)) ?_; (with_reducible refine (taskmasterref3_Parts.calls (rdOf ((0, 0) : Nat × Nat) l0 x6_1) t201 t202 true _ A4.out).mono ?_); rintro e w10 ⟨rfl, hb⟩; refine ⟨_, rfl, ?_⟩; have n0_ := Aside0.mk (below_step (by repeat (first | (with_reducible first | exact HB.out | apply below_alloc | apply pw_below_drewN | apply below_drew1) | exact HB.out)) hb); clear HB; have HB := n0_; clear n0_; (try clear hb); (try clear hb2); (try clear hk); (try clear hi)) | (go_at_call 24; (with_reducible refine (taskmasterref1_Is.calls (wrap64 (x4_1 + t201)) true _ A6.out).mono ?_); rintro e w' ⟨rfl, ⟨nd, rfl⟩⟩) | (go_at_call 24; (with_reducible refine (taskmasterref1_Is.calls (wrap64 (x5_1 + t202)) true _ A8.out).mono ?_); rintro e w' ⟨rfl, ⟨nd, rfl⟩⟩))
                go_roundg k1
                case measure => have := HK1.out; omega
                case rel => exact ⟨(wrap64 (x4_1 + t201)), (wrap64 (x5_1 + t202)), (wrap64 (x6_1 + 1)), (by first | rfl | (simp; done) | (simp [*]; done)), (by first | rfl | (simp; done) | (simp [*]; done)), (by first | rfl | (simp; done) | (simp [*]; done)), H', ⟨by have := HK1.out; omega⟩, ⟨by repeat (first | (with_reducible first | exact HB.out | apply below_alloc | apply pw_below_drewN | apply below_drew1) | exact HB.out)⟩⟩
              · replace c9 := Bool.eq_false_iff.mpr c9
                subst c9
                have H1 : (some (((0, 0) : Nat × Nat), false)) = some (r1, r2) := by rw [if_neg (show ¬ (false = true) by decide)] at H; exact H
                clear H
                have H := H1
                clear H1
                simp only [Option.some.injEq, Prod.mk.injEq] at H
                obtain ⟨rfl, rfl⟩ := H
                have p200 : 0 ≤ (x6_1 : Int) := of_decide_eq_true (by first | (with_reducible assumption) | assumption)
                have q200 : x6_1 < (l0.length : Int) := of_decide_eq_true (by first | (with_reducible assumption) | assumption)
                obtain ⟨ad200, e200, hx200_0⟩ := Kd.at_cx HR0.out x6_1 p200 q200
                cases e200
                replace hx200_0 := (HB.out.cell (World.block_lt_of_cell? w _ hx200_0)).trans hx200_0
                replace p200 := eq_true p200
                replace q200 := eq_true q200
                go_wp2_with (first | ((with_reducible refine gate_callee (f := 19) rfl ?_); refine goesL_ (some 21) rfl rfl Try.func19 (by kernel_rfl) rfl #[.complex .f64 (rdOf ((0, 0) : Nat × Nat) l0 x6_1).1 (rdOf ((0, 0) : Nat × Nat) l0 x6_1).2] rfl (by (try simp only [List.map_toArray, List.map_cons, List.map_nil]); first | done | rfl | (simp only [List.length_drop, List.length_take]; rfl)) ?_; (with_reducible refine (taskmasterref3_Parts.calls (rdOf ((0, 0) : Nat × Nat) l0 x6_1) t201 t202 true _ A4.out).mono ?_); rintro e w11 ⟨rfl, hb⟩; refine ⟨_, rfl, ?_⟩; have n0_ := Aside0.mk (below_step (by repeat (first | (with_reducible first | exact HB.out | apply below_alloc | apply pw_below_drewN | apply below_drew1) | exact HB.out)) hb); clear HB; have HB := n0_; clear n0_; (try clear hb); (try clear hb2); (try clear hk); (try clear hi)) | (go_at_call 24; (with_reducible refine (taskmasterref1_Is.calls (wrap64 (x4_1 + t201)) true _ A6.out).mono ?_); rintro e w' ⟨rfl, ⟨nd, rfl⟩⟩) | (go_at_call 24; (with_reducible refine (taskmasterref1_Is.calls (wrap64 (x5_1 + t202)) false _ A8.out).mono ?_); rintro e w' ⟨rfl, ⟨nd, rfl⟩⟩))
                go_ret2
                exact ⟨by first | rfl | (simp [errW_none, errW_some] <;> rfl) | (simp [*, errW_none, errW_some] <;> rfl), by repeat (first | (with_reducible first | exact HB.out | apply below_alloc | apply pw_below_drewN | apply below_drew1) | exact HB.out)⟩
            · replace c7 := Bool.eq_false_iff.mpr c7
              subst c7
              have H1 : (some (((0, 0) : Nat × Nat), false)) = some (r1, r2) := by rw [if_neg (show ¬ (false = true) by decide)] at H; exact H
              clear H
              have H := H1
              clear H1
              simp only [Option.some.injEq, Prod.mk.injEq] at H
              obtain ⟨rfl, rfl⟩ := H
              have p200 : 0 ≤ (x6_1 : Int) := of_decide_eq_true (by first | (with_reducible assumption) | assumption)
              have q200 : x6_1 < (l0.length : Int) := of_decide_eq_true (by first | (with_reducible assumption) | assumption)
              obtain ⟨ad200, e200, hx200_0⟩ := Kd.at_cx HR0.out x6_1 p200 q200
              cases e200
              replace hx200_0 := (HB.out.cell (World.block_lt_of_cell? w _ hx200_0)).trans hx200_0
              replace p200 := eq_true p200
              replace q200 := eq_true q200
              go_wp2_with (first | ((with_reducible refine gate_callee (f := 19) rfl ?_); refine goesL_ (some 21) rfl rfl Try.func19 (by kernel_rfl) rfl #[.complex .f64 (rdOf ((0, 0) : Nat × Nat) l0 x6_1).1 (rdOf ((0, 0) : Nat × Nat) l0 x6_1).2] rfl (by (try simp only [List.map_toArray, List.map_cons, List.map_nil]); first | done | rfl | (simp only [List.length_drop, List.length_take]; rfl)) ?_; (with_reducible refine (taskmasterref3_Parts.calls (rdOf ((0, 0) : Nat × Nat) l0 x6_1) t201 t202 true _ A4.out).mono ?_); rintro e w12 ⟨rfl, hb⟩; refine ⟨_, rfl, ?_⟩; have n0_ := Aside0.mk (below_step (by repeat (first | (with_reducible first | exact HB.out | apply below_alloc | apply pw_below_drewN | apply below_drew1) | exact HB.out)) hb); clear HB; have HB := n0_; clear n0_; (try clear hb); (try clear hb2); (try clear hk); (try clear hi)) | (go_at_call 24; (with_reducible refine (taskmasterref1_Is.calls (wrap64 (x4_1 + t201)) false _ A6.out).mono ?_); rintro e w' ⟨rfl, ⟨nd, rfl⟩⟩))
              go_ret2
              exact ⟨by first | rfl | (simp [errW_none, errW_some] <;> rfl) | (simp [*, errW_none, errW_some] <;> rfl), by repeat (first | (with_reducible first | exact HB.out | apply below_alloc | apply pw_below_drewN | apply below_drew1) | exact HB.out)⟩
          · replace c5 := Bool.eq_false_iff.mpr c5
            subst c5
            have H1 : (some (((0, 0) : Nat × Nat), false)) = some (r1, r2) := by rw [if_neg (show ¬ (false = true) by decide)] at H; exact H
            clear H
            have H := H1
            clear H1
            simp only [Option.some.injEq, Prod.mk.injEq] at H
            obtain ⟨rfl, rfl⟩ := H
            have p200 : 0 ≤ (x6_1 : Int) := of_decide_eq_true (by first | (with_reducible assumption) | assumption)
            have q200 : x6_1 < (l0.length : Int) := of_decide_eq_true (by first | (with_reducible assumption) | assumption)
            obtain ⟨ad200, e200, hx200_0⟩ := Kd.at_cx HR0.out x6_1 p200 q200
            cases e200
            replace hx200_0 := (HB.out.cell (World.block_lt_of_cell? w _ hx200_0)).trans hx200_0
            replace p200 := eq_true p200
            replace q200 := eq_true q200
            go_wp2_with (first | ((with_reducible refine gate_callee (f := 19) rfl ?_); refine goesL_ (some 21) rfl rfl Try.func19 (by kernel_rfl) rfl #[.complex .f64 (rdOf ((0, 0) : Nat × Nat) l0 x6_1).1 (rdOf ((0, 0) : Nat × Nat) l0 x6_1).2] rfl (by (try simp only [List.map_toArray, List.map_cons, List.map_nil]); first | done | rfl | (simp only [List.length_drop, List.length_take]; rfl)) ?_; (with_reducible refine (taskmasterref3_Parts.calls (rdOf ((0, 0) : Nat × Nat) l0 x6_1) t201 t202 false _ A4.out).mono ?_); rintro e w13 ⟨rfl, hb⟩; refine ⟨_, rfl, ?_⟩; have n0_ := Aside0.mk (below_step (by repeat (first | (with_reducible first | exact HB.out | apply below_alloc | apply pw_below_drewN | apply below_drew1) | exact HB.out)) hb); clear HB; have HB := n0_; clear n0_; (try clear hb); (try clear hb2); (try clear hk); (try clear hi)))
            go_ret2
            exact ⟨by first | rfl | (simp [errW_none, errW_some] <;> rfl) | (simp [*, errW_none, errW_some] <;> rfl), by repeat (first | (with_reducible first | exact HB.out | apply below_alloc | apply pw_below_drewN | apply below_drew1) | exact HB.out)⟩
        · rw [if_neg c3] at H
          exact absurd H (by simp)
      · rw [if_neg c2] at H
        have c2b0 : decide (x6_1 < (l0.length : Int)) = false := decide_eq_false c2
        clear c2
        replace H := Option.bind_eq_some_iff.mp H
        obtain ⟨⟨t198, t199⟩, A140, H⟩ := H
        replace H : (some (t198, t199)) = some (r1, r2) := H
        have A14 := Aside0.mk A140
        clear A140
        simp only [Option.some.injEq, Prod.mk.injEq] at H
        obtain ⟨rfl, rfl⟩ := H
        go_wp2_with (first | ((with_reducible refine gate_callee (f := 10) rfl ?_); refine goesL_ (some 45) rfl rfl Try.func10 (by kernel_rfl) rfl #[.int .i64 x4_1, .int .i64 x5_1] rfl (by (try simp only [List.map_toArray, List.map_cons, List.map_nil]); first | done | rfl | (simp only [List.length_drop, List.length_take]; rfl)) ?_; (with_reducible refine (taskmasterref3_Of.calls x4_1 x5_1 t198 t199 _ A14.out).mono ?_); rintro e w15 ⟨rfl, hb⟩; refine ⟨_, rfl, ?_⟩; have n0_ := Aside0.mk (below_step (by repeat (first | (with_reducible first | exact HB.out | apply below_alloc | apply pw_below_drewN | apply below_drew1) | exact HB.out)) hb); clear HB; have HB := n0_; clear n0_; (try clear hb); (try clear hb2); (try clear hk); (try clear hi)))
        go_ret2
        exact ⟨by first | rfl | (simp [errW_none, errW_some] <;> rfl) | (simp [*, errW_none, errW_some] <;> rfl), by repeat (first | (with_reducible first | exact HB.out | apply below_alloc | apply pw_below_drewN | apply below_drew1) | exact HB.out)⟩

end Go.Proofs.Ythppgakbgkknlaa.QCo

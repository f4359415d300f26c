/- What is proved: contracts of Go functions, each as a plain Lean function; written by a program of this session after the kit's print; conditions as each theorem names them. -/
import Derived.Test.YthppgakbgkknlaaQCox0
import Derived.Test.YthppgakbgkknlaaQCoxf10
import Derived.Test.YthppgakbgkknlaaQCoxf19
namespace Go.Proofs.Ythppgakbgkknlaa.QCo
open Go.RowKit Go.Proofs.YthppgakbgkknlaaW.PrintWords Go.Proofs.YthppgakbgkknlaaW.PrintLast Go.Proofs.YthppgakbgkknlaaW.PrintMore
attribute [local go_sem] max2_int min2_int max_two min_two max_three min_three max_four min_four   -- for this text's walks alone
set_option linter.unusedVariables false
set_option linter.unusedSimpArgs false

/-! ### taskmasterref3_Times: function 22 -/
theorem tdiv_last (t : Int) : Int.tdiv 1099511627776 t = 1099511627776 / t := Int.tdiv_eq_ediv_of_nonneg (by decide)
attribute [local go_sem] tdiv_last
def taskmasterref3_Times.f (a0 : (Nat × Nat)) (a1 : Int) : Option ((Nat × Nat) × Bool) := (taskmasterref3_Parts.f a0).bind fun bt162 => (if bt162.2.2 = true then (if a1 < 0 then (some (((0, 0) : Nat × Nat), false)) else (if bt162.1 > 0 then (if bt162.1 = 0 then (none) else (if a1 > (wrap64 ((1099511627776 : Int) / bt162.1)) then (some (((0, 0) : Nat × Nat), false)) else (if bt162.2.1 > 0 then (if bt162.2.1 = 0 then (none) else (if a1 > (wrap64 ((1099511627776 : Int) / bt162.2.1)) then (some (((0, 0) : Nat × Nat), false)) else ((taskmasterref3_Of.f (wrap64 (bt162.1 * a1)) (wrap64 (bt162.2.1 * a1))).bind fun bt165 => (some (bt165.1, bt165.2))))) else ((taskmasterref3_Of.f (wrap64 (bt162.1 * a1)) (wrap64 (bt162.2.1 * a1))).bind fun bt167 => (some (bt167.1, bt167.2)))))) else (if bt162.2.1 > 0 then (if bt162.2.1 = 0 then (none) else (if a1 > (wrap64 ((1099511627776 : Int) / bt162.2.1)) then (some (((0, 0) : Nat × Nat), false)) else ((taskmasterref3_Of.f (wrap64 (bt162.1 * a1)) (wrap64 (bt162.2.1 * a1))).bind fun bt169 => (some (bt169.1, bt169.2))))) else ((taskmasterref3_Of.f (wrap64 (bt162.1 * a1)) (wrap64 (bt162.2.1 * a1))).bind fun bt171 => (some (bt171.1, bt171.2)))))) else (some (((0, 0) : Nat × Nat), false)))
set_option maxHeartbeats 8000000 in
set_option maxRecDepth 100000 in
theorem taskmasterref3_Times.calls (a0 : (Nat × Nat)) (a1 : Int) (r1 : (Nat × Nat)) (r2 : Bool) (w : World) (h : taskmasterref3_Times.f a0 a1 = some (r1, r2)) :
    Calls Try.prog 22 #[.complex .f64 a0.1 a0.2, .int .i64 a1] w fun e w' => e = .returned (.tuple #[.complex .f64 r1.1 r1.2, .bool r2]) ∧ Below w.heap.size w w' := by
  have HB := Aside0.mk (Below.refl w.heap.size w)
  have H : ((taskmasterref3_Parts.f a0).bind fun bt162 => (if bt162.2.2 = true then (if a1 < 0 then (some (((0, 0) : Nat × Nat), false)) else (if bt162.1 > 0 then (if bt162.1 = 0 then (none) else (if a1 > (wrap64 ((1099511627776 : Int) / bt162.1)) then (some (((0, 0) : Nat × Nat), false)) else (if bt162.2.1 > 0 then (if bt162.2.1 = 0 then (none) else (if a1 > (wrap64 ((1099511627776 : Int) / bt162.2.1)) then (some (((0, 0) : Nat × Nat), false)) else ((taskmasterref3_Of.f (wrap64 (bt162.1 * a1)) (wrap64 (bt162.2.1 * a1))).bind fun bt165 => (some (bt165.1, bt165.2))))) else ((taskmasterref3_Of.f (wrap64 (bt162.1 * a1)) (wrap64 (bt162.2.1 * a1))).bind fun bt167 => (some (bt167.1, bt167.2)))))) else (if bt162.2.1 > 0 then (if bt162.2.1 = 0 then (none) else (if a1 > (wrap64 ((1099511627776 : Int) / bt162.2.1)) then (some (((0, 0) : Nat × Nat), false)) else ((taskmasterref3_Of.f (wrap64 (bt162.1 * a1)) (wrap64 (bt162.2.1 * a1))).bind fun bt169 => (some (bt169.1, bt169.2))))) else ((taskmasterref3_Of.f (wrap64 (bt162.1 * a1)) (wrap64 (bt162.2.1 * a1))).bind fun bt171 => (some (bt171.1, bt171.2)))))) else (some (((0, 0) : Nat × Nat), false)))) = some (r1, r2) := h
  clear h
  replace H := Option.bind_eq_some_iff.mp H
  obtain ⟨⟨t162, t163, t164⟩, A30, H⟩ := H
  replace H : (if t164 = true then (if a1 < 0 then (some (((0, 0) : Nat × Nat), false)) else (if t162 > 0 then (if t162 = 0 then (none) else (if a1 > (wrap64 ((1099511627776 : Int) / t162)) then (some (((0, 0) : Nat × Nat), false)) else (if t163 > 0 then (if t163 = 0 then (none) else (if a1 > (wrap64 ((1099511627776 : Int) / t163)) then (some (((0, 0) : Nat × Nat), false)) else ((taskmasterref3_Of.f (wrap64 (t162 * a1)) (wrap64 (t163 * a1))).bind fun bt165 => (some (bt165.1, bt165.2))))) else ((taskmasterref3_Of.f (wrap64 (t162 * a1)) (wrap64 (t163 * a1))).bind fun bt167 => (some (bt167.1, bt167.2)))))) else (if t163 > 0 then (if t163 = 0 then (none) else (if a1 > (wrap64 ((1099511627776 : Int) / t163)) then (some (((0, 0) : Nat × Nat), false)) else ((taskmasterref3_Of.f (wrap64 (t162 * a1)) (wrap64 (t163 * a1))).bind fun bt169 => (some (bt169.1, bt169.2))))) else ((taskmasterref3_Of.f (wrap64 (t162 * a1)) (wrap64 (t163 * a1))).bind fun bt171 => (some (bt171.1, bt171.2)))))) else (some (((0, 0) : Nat × Nat), false))) = some (r1, r2) := H
  have A3 := Aside0.mk A30
  clear A30
  by_cases c4 : t164 = true
  · subst c4
    have H1 : (if a1 < 0 then (some (((0, 0) : Nat × Nat), false)) else (if t162 > 0 then (if t162 = 0 then (none) else (if a1 > (wrap64 ((1099511627776 : Int) / t162)) then (some (((0, 0) : Nat × Nat), false)) else (if t163 > 0 then (if t163 = 0 then (none) else (if a1 > (wrap64 ((1099511627776 : Int) / t163)) then (some (((0, 0) : Nat × Nat), false)) else ((taskmasterref3_Of.f (wrap64 (t162 * a1)) (wrap64 (t163 * a1))).bind fun bt165 => (some (bt165.1, bt165.2))))) else ((taskmasterref3_Of.f (wrap64 (t162 * a1)) (wrap64 (t163 * a1))).bind fun bt167 => (some (bt167.1, bt167.2)))))) else (if t163 > 0 then (if t163 = 0 then (none) else (if a1 > (wrap64 ((1099511627776 : Int) / t163)) then (some (((0, 0) : Nat × Nat), false)) else ((taskmasterref3_Of.f (wrap64 (t162 * a1)) (wrap64 (t163 * a1))).bind fun bt169 => (some (bt169.1, bt169.2))))) else ((taskmasterref3_Of.f (wrap64 (t162 * a1)) (wrap64 (t163 * a1))).bind fun bt171 => (some (bt171.1, bt171.2)))))) = some (r1, r2) := by rw [if_pos rfl] at H; exact H
    clear H
    have H := H1
    clear H1
    by_cases c5 : a1 < 0
    · rw [if_pos c5] at H
      have c5b0 : decide (a1 < 0) = true := decide_eq_true c5
      clear c5
      simp only [Option.some.injEq, Prod.mk.injEq] at H
      obtain ⟨rfl, rfl⟩ := H
      go_enter Try.func22, Try.ntmps22
      go_wp2_with (first | ((with_reducible refine gate_callee (f := 19) rfl ?_); refine goesL_ (some 11) rfl rfl Try.func19 (by kernel_rfl) rfl #[.complex .f64 a0.1 a0.2] rfl (by (try simp only [List.map_toArray, List.map_cons, List.map_nil]); first | done | rfl | (simp only [List.length_drop, List.length_take]; rfl)) ?_; (with_reducible refine (taskmasterref3_Parts.calls a0 t162 t163 true _ A3.out).mono ?_); rintro e w6 ⟨rfl, hb⟩; refine ⟨_, rfl, ?_⟩; have n0_ := Aside0.mk (below_step (by repeat (first | (with_reducible first | exact HB.out | apply below_alloc | apply pw_below_drewN | apply below_drew1) | exact HB.out)) hb); clear HB; have HB := n0_; clear n0_; (try clear hb); (try clear hb2); (try clear hk); (try clear hi)))
      go_ret2
      exact ⟨by first | rfl | (simp [errW_none, errW_some] <;> rfl) | (simp [*, errW_none, errW_some] <;> rfl), by repeat (first | (with_reducible first | exact HB.out | apply below_alloc | apply pw_below_drewN | apply below_drew1) | exact HB.out)⟩
    · rw [if_neg c5] at H
      have c5b0 : decide (a1 < 0) = false := decide_eq_false c5
      clear c5
      by_cases c7 : t162 > 0
      · rw [if_pos c7] at H
        have c7b0 : decide (0 < t162) = true := decide_eq_true c7
        clear c7
        by_cases c8 : t162 = 0
        · rw [if_pos c8] at H
          exact absurd H (by simp)
        · rw [if_neg c8] at H
          have c8b0 : (t162 == 0) = false := beq_eq_false_iff_ne.mpr c8
          have c8b1 : (t162 != 0) = true := bne_iff_ne.mpr c8
          by_cases c9 : a1 > (wrap64 ((1099511627776 : Int) / t162))
          · rw [if_pos c9] at H
            have c9b0 : decide ((wrap64 ((1099511627776 : Int) / t162)) < a1) = true := decide_eq_true c9
            clear c9
            simp only [Option.some.injEq, Prod.mk.injEq] at H
            obtain ⟨rfl, rfl⟩ := H
            go_enter Try.func22, Try.ntmps22
            go_wp2_with (first | ((with_reducible refine gate_callee (f := 19) rfl ?_); refine goesL_ (some 11) rfl rfl Try.func19 (by kernel_rfl) rfl #[.complex .f64 a0.1 a0.2] rfl (by (try simp only [List.map_toArray, List.map_cons, List.map_nil]); first | done | rfl | (simp only [List.length_drop, List.length_take]; rfl)) ?_; (with_reducible refine (taskmasterref3_Parts.calls a0 t162 t163 true _ A3.out).mono ?_); rintro e w10 ⟨rfl, hb⟩; refine ⟨_, rfl, ?_⟩; have n0_ := Aside0.mk (below_step (by repeat (first | (with_reducible first | exact HB.out | apply below_alloc | apply pw_below_drewN | apply below_drew1) | exact HB.out)) hb); clear HB; have HB := n0_; clear n0_; (try clear hb); (try clear hb2); (try clear hk); (try clear hi)))
            go_ret2
            exact ⟨by first | rfl | (simp [errW_none, errW_some] <;> rfl) | (simp [*, errW_none, errW_some] <;> rfl), by repeat (first | (with_reducible first | exact HB.out | apply below_alloc | apply pw_below_drewN | apply below_drew1) | exact HB.out)⟩
          · rw [if_neg c9] at H
            have c9b0 : decide ((wrap64 ((1099511627776 : Int) / t162)) < a1) = false := decide_eq_false c9
            clear c9
            by_cases c11 : t163 > 0
            · rw [if_pos c11] at H
              have c11b0 : decide (0 < t163) = true := decide_eq_true c11
              clear c11
              by_cases c12 : t163 = 0
              · rw [if_pos c12] at H
                exact absurd H (by simp)
              · rw [if_neg c12] at H
                have c12b0 : (t163 == 0) = false := beq_eq_false_iff_ne.mpr c12
                have c12b1 : (t163 != 0) = true := bne_iff_ne.mpr c12
                by_cases c13 : a1 > (wrap64 ((1099511627776 : Int) / t163))
                · rw [if_pos c13] at H
                  have c13b0 : decide ((wrap64 ((1099511627776 : Int) / t163)) < a1) = true := decide_eq_true c13
                  clear c13
                  simp only [Option.some.injEq, Prod.mk.injEq] at H
                  obtain ⟨rfl, rfl⟩ := H
                  go_enter Try.func22, Try.ntmps22
                  go_wp2_with (first | ((with_reducible refine gate_callee (f := 19) rfl ?_); refine goesL_ (some 11) rfl rfl Try.func19 (by kernel_rfl) rfl #[.complex .f64 a0.1 a0.2] rfl (by (try simp only [List.map_toArray, List.map_cons, List.map_nil]); first | done | rfl | (simp only [List.length_drop, List.length_take]; rfl)) ?_; (with_reducible refine (taskmasterref3_Parts.calls a0 t162 t163 true _ A3.out).mono ?_); rintro e w14 ⟨rfl, hb⟩; refine ⟨_, rfl, ?_⟩; have n0_ := Aside0.mk (below_step (by repeat (first | (with_reducible first | exact HB.out | apply below_alloc | apply pw_below_drewN | apply below_drew1) | exact HB.out)) hb); clear HB; have HB := n0_; clear n0_; (try clear hb); (try clear hb2); (try clear hk); (try clear hi)))
                  go_ret2
                  exact ⟨by first | rfl | (simp [errW_none, errW_some] <;> rfl) | (simp [*, errW_none, errW_some] <;> rfl), by repeat (first | (with_reducible first | exact HB.out | apply below_alloc | apply pw_below_drewN | apply below_drew1) | exact HB.out)⟩
                · rw [if_neg c13] at H
                  have c13b0 : decide ((wrap64 ((1099511627776 : Int) / t163)) < a1) = false := decide_eq_false c13
                  clear c13
                  replace H := Option.bind_eq_some_iff.mp H
                  obtain ⟨⟨t165, t166⟩, A150, H⟩ := H
                  replace H : (some (t165, t166)) = some (r1, r2) := H
                  have A15 := Aside0.mk A150
                  clear A150
                  simp only [Option.some.injEq, Prod.mk.injEq] at H
                  obtain ⟨rfl, rfl⟩ := H
                  go_enter Try.func22, Try.ntmps22
                  go_wp2_with (first | ((with_reducible refine gate_callee (f := 19) rfl ?_); refine goesL_ (some 11) rfl rfl Try.func19 (by kernel_rfl) rfl #[.complex .f64 a0.1 a0.2] rfl (by (try simp only [List.map_toArray, List.map_cons, List.map_nil]); first | done | rfl | (simp only [List.length_drop, List.length_take]; rfl)) ?_; (with_reducible refine (taskmasterref3_Parts.calls a0 t162 t163 true _ A3.out).mono ?_); rintro e w16 ⟨rfl, hb⟩; refine ⟨_, rfl, ?_⟩; have n0_ := Aside0.mk (below_step (by repeat (first | (with_reducible first | exact HB.out | apply below_alloc | apply pw_below_drewN | apply below_drew1) | exact HB.out)) hb); clear HB; have HB := n0_; clear n0_; (try clear hb); (try clear hb2); (try clear hk); (try clear hi)) | ((with_reducible refine gate_callee (f := 10) rfl ?_); refine goesL_ (some 47) rfl rfl Try.func10 (by kernel_rfl) rfl #[.int .i64 (wrap64 (t162 * a1)), .int .i64 (wrap64 (t163 * a1))] rfl (by (try simp only [List.map_toArray, List.map_cons, List.map_nil]); first | done | rfl | (simp only [List.length_drop, List.length_take]; rfl)) ?_; (with_reducible refine (taskmasterref3_Of.calls (wrap64 (t162 * a1)) (wrap64 (t163 * a1)) t165 t166 _ A15.out).mono ?_); rintro e w17 ⟨rfl, hb⟩; refine ⟨_, rfl, ?_⟩; have n0_ := Aside0.mk (below_step (by repeat (first | (with_reducible first | exact HB.out | apply below_alloc | apply pw_below_drewN | apply below_drew1) | exact HB.out)) hb); clear HB; have HB := n0_; clear n0_; (try clear hb); (try clear hb2); (try clear hk); (try clear hi)))
                  go_ret2
                  exact ⟨by first | rfl | (simp [errW_none, errW_some] <;> rfl) | (simp [*, errW_none, errW_some] <;> rfl), by repeat (first | (with_reducible first | exact HB.out | apply below_alloc | apply pw_below_drewN | apply below_drew1) | exact HB.out)⟩
            · rw [if_neg c11] at H
              have c11b0 : decide (0 < t163) = false := decide_eq_false c11
              clear c11
              replace H := Option.bind_eq_some_iff.mp H
              obtain ⟨⟨t167, t168⟩, A180, H⟩ := H
              replace H : (some (t167, t168)) = some (r1, r2) := H
              have A18 := Aside0.mk A180
              clear A180
              simp only [Option.some.injEq, Prod.mk.injEq] at H
              obtain ⟨rfl, rfl⟩ := H
              go_enter Try.func22, Try.ntmps22
              go_wp2_with (first | ((with_reducible refine gate_callee (f := 19) rfl ?_); refine goesL_ (some 11) rfl rfl Try.func19 (by kernel_rfl) rfl #[.complex .f64 a0.1 a0.2] rfl (by (try simp only [List.map_toArray, List.map_cons, List.map_nil]); first | done | rfl | (simp only [List.length_drop, List.length_take]; rfl)) ?_; (with_reducible refine (taskmasterref3_Parts.calls a0 t162 t163 true _ A3.out).mono ?_); rintro e w19 ⟨rfl, hb⟩; refine ⟨_, rfl, ?_⟩; have n0_ := Aside0.mk (below_step (by repeat (first | (with_reducible first | exact HB.out | apply below_alloc | apply pw_below_drewN | apply below_drew1) | exact HB.out)) hb); clear HB; have HB := n0_; clear n0_; (try clear hb); (try clear hb2); (try clear hk); (try clear hi)) | ((with_reducible refine gate_callee (f := 10) rfl ?_); refine goesL_ (some 47) rfl rfl Try.func10 (by kernel_rfl) rfl #[.int .i64 (wrap64 (t162 * a1)), .int .i64 (wrap64 (t163 * a1))] rfl (by (try simp only [List.map_toArray, List.map_cons, List.map_nil]); first | done | rfl | (simp only [List.length_drop, List.length_take]; rfl)) ?_; (with_reducible refine (taskmasterref3_Of.calls (wrap64 (t162 * a1)) (wrap64 (t163 * a1)) t167 t168 _ A18.out).mono ?_); rintro e w20 ⟨rfl, hb⟩; refine ⟨_, rfl, ?_⟩; have n0_ := Aside0.mk (below_step (by repeat (first | (with_reducible first | exact HB.out | apply below_alloc | apply pw_below_drewN | apply below_drew1) | exact HB.out)) hb); clear HB; have HB := n0_; clear n0_; (try clear hb); (try clear hb2); (try clear hk); (try clear hi)))
              go_ret2
              exact ⟨by first | rfl | (simp [errW_none, errW_some] <;> rfl) | (simp [*, errW_none, errW_some] <;> rfl), by repeat (first | (with_reducible first | exact HB.out | apply below_alloc | apply pw_below_drewN | apply below_drew1) | exact HB.out)⟩
      · rw [if_neg c7] at H
        have c7b0 : decide (0 < t162) = false := decide_eq_false c7
        clear c7
        by_cases c21 : t163 > 0
        · rw [if_pos c21] at H
          have c21b0 : decide (0 < t163) = true := decide_eq_true c21
          clear c21
          by_cases c22 : t163 = 0
          · rw [if_pos c22] at H
            exact absurd H (by simp)
          · rw [if_neg c22] at H
            have c22b0 : (t163 == 0) = false := beq_eq_false_iff_ne.mpr c22
            have c22b1 : (t163 != 0) = true := bne_iff_ne.mpr c22
            by_cases c23 : a1 > (wrap64 ((1099511627776 : Int) / t163))
            · rw [if_pos c23] at H
              have c23b0 : decide ((wrap64 ((1099511627776 : Int) / t163)) < a1) = true := decide_eq_true c23
              clear c23
              simp only [Option.some.injEq, Prod.mk.injEq] at H
              obtain ⟨rfl, rfl⟩ := H
              go_enter Try.func22, Try.ntmps22
              go_wp2_with (first | ((with_reducible refine gate_callee (f := 19) rfl ?_); refine goesL_ (some 11) rfl rfl Try.func19 (by kernel_rfl) rfl #[.complex .f64 a0.1 a0.2] rfl (by (try simp only [List.map_toArray, List.map_cons, List.map_nil]); first | done | rfl | (simp only [List.length_drop, List.length_take]; rfl)) ?_; (with_reducible refine (taskmasterref3_Parts.calls a0 t162 t163 true _ A3.out).mono ?_); rintro e w24 ⟨rfl, hb⟩; refine ⟨_, rfl, ?_⟩; have n0_ := Aside0.mk (below_step (by repeat (first | (with_reducible first | exact HB.out | apply below_alloc | apply pw_below_drewN | apply below_drew1) | exact HB.out)) hb); clear HB; have HB := n0_; clear n0_; (try clear hb); (try clear hb2); (try clear hk); (try clear hi)))
              go_ret2
              exact ⟨by first | rfl | (simp [errW_none, errW_some] <;> rfl) | (simp [*, errW_none, errW_some] <;> rfl), by repeat (first | (with_reducible first | exact HB.out | apply below_alloc | apply pw_below_drewN | apply below_drew1) | exact HB.out)⟩
            · rw [if_neg c23] at H
              have c23b0 : decide ((wrap64 ((1099511627776 : Int) / t163)) < a1) = false := decide_eq_false c23
              clear c23
              replace H := Option.bind_eq_some_iff.mp H
              obtain ⟨⟨t169, t170⟩, A250, H⟩ := H
              replace H : (some (t169, t170)) = some (r1, r2) := H
              have A25 := Aside0.mk A250
              clear A250
              simp only [Option.some.injEq, Prod.mk.injEq] at H
              obtain ⟨rfl, rfl⟩ := H
              go_enter Try.func22, Try.ntmps22
              go_wp2_with (first | ((with_reducible refine gate_callee (f := 19) rfl ?_); refine goesL_ (some 11) rfl rfl Try.func19 (by kernel_rfl) rfl #[.complex .f64 a0.1 a0.2] rfl (by (try simp only [List.map_toArray, List.map_cons, List.map_nil]); first | done | rfl | (simp only [List.length_drop, List.length_take]; rfl)) ?_; (with_reducible refine (taskmasterref3_Parts.calls a0 t162 t163 true _ A3.out).mono ?_); rintro e w26 ⟨rfl, hb⟩; refine ⟨_, rfl, ?_⟩; have n0_ := Aside0.mk (below_step (by repeat (first | (with_reducible first | exact HB.out | apply below_alloc | apply pw_below_drewN | apply below_drew1) | exact HB.out)) hb); clear HB; have HB := n0_; clear n0_; (try clear hb); (try clear hb2); (try clear hk); (try clear hi)) | ((with_reducible refine gate_callee (f := 10) rfl ?_); refine goesL_ (some 47) rfl rfl Try.func10 (by kernel_rfl) rfl #[.int .i64 (wrap64 (t162 * a1)), .int .i64 (wrap64 (t163 * a1))] rfl (by (try simp only [List.map_toArray, List.map_cons, List.map_nil]); first | done | rfl | (simp only [List.length_drop, List.length_take]; rfl)) ?_; (with_reducible refine (taskmasterref3_Of.calls (wrap64 (t162 * a1)) (wrap64 (t163 * a1)) t169 t170 _ A25.out).mono ?_); rintro e w27 ⟨rfl, hb⟩; refine ⟨_, rfl, ?_⟩; have n0_ := Aside0.mk (below_step (by repeat (first | (with_reducible first | exact HB.out | apply below_alloc | apply pw_below_drewN | apply below_drew1) | exact HB.out)) hb); clear HB; have HB := n0_; clear n0_; (try clear hb); (try clear hb2); (try clear hk); (try clear hi)))
              go_ret2
              exact ⟨by first | rfl | (simp [errW_none, errW_some] <;> rfl) | (simp [*, errW_none, errW_some] <;> rfl), by repeat (first | (with_reducible first | exact HB.out | apply below_alloc | apply pw_below_drewN | apply below_drew1) | exact HB.out)⟩
        · rw [if_neg c21] at H
          have c21b0 : decide (0 < t163) = false := decide_eq_false c21
          clear c21
          replace H := Option.bind_eq_some_iff.mp H
          obtain ⟨⟨t171, t172⟩, A280, H⟩ := H
          replace H : (some (t171, t172)) = some (r1, r2) := H
          have A28 := Aside0.mk A280
          clear A280
          simp only [Option.some.injEq, Prod.mk.injEq] at H
          obtain ⟨rfl, rfl⟩ := H
          go_enter Try.func22, Try.ntmps22
          go_wp2_with (first | ((with_reducible refine gate_callee (f := 19) rfl ?_); refine goesL_ (some 11) rfl rfl Try.func19 (by kernel_rfl) rfl #[.complex .f64 a0.1 a0.2] rfl (by (try simp only [List.map_toArray, List.map_cons, List.map_nil]); first | done | rfl | (simp only [List.length_drop, List.length_take]; rfl)) ?_; (with_reducible refine (taskmasterref3_Parts.calls a0 t162 t163 true _ A3.out).mono ?_); rintro e w29 ⟨rfl, hb⟩; refine ⟨_, rfl, ?_⟩; have n0_ := Aside0.mk (below_step (by repeat (first | (with_reducible first | exact HB.out | apply below_alloc | apply pw_below_drewN | apply below_drew1) | exact HB.out)) hb); clear HB; have HB := n0_; clear n0_; (try clear hb); (try clear hb2); (try clear hk); (try clear hi)) | ((with_reducible refine gate_callee (f := 10) rfl ?_); refine goesL_ (some 47) rfl rfl Try.func10 (by kernel_rfl) rfl #[.int .i64 (wrap64 (t162 * a1)), .int .i64 (wrap64 (t163 * a1))] rfl (by (try simp only [List.map_toArray, List.map_cons, List.map_nil]); first | done | rfl | (simp only [List.length_drop, List.length_take]; rfl)) ?_; (with_reducible refine (taskmasterref3_Of.calls (wrap64 (t162 * a1)) (wrap64 (t163 * a1)) t171 t172 _ A28.out).mono ?_); rintro e w30 ⟨rfl, hb⟩; refine ⟨_, rfl, ?_⟩; have n0_ := Aside0.mk (below_step (by repeat (first | (with_reducible first | exact HB.out | apply below_alloc | apply pw_below_drewN | apply below_drew1) | exact HB.out)) hb); clear HB; have HB := n0_; clear n0_; (try clear hb); (try clear hb2); (try clear hk); (try clear hi)))
          go_ret2
          exact ⟨by first | rfl | (simp [errW_none, errW_some] <;> rfl) | (simp [*, errW_none, errW_some] <;> rfl), by repeat (first | (with_reducible first | exact HB.out | apply below_alloc | apply pw_below_drewN | apply below_drew1) | exact HB.out)⟩
  · replace c4 := Bool.eq_false_iff.mpr c4
    subst c4
    have H1 : (some (((0, 0) : Nat × Nat), false)) = some (r1, r2) := by rw [if_neg (show ¬ (false = true) by decide)] at H; exact H
    clear H
    have H := H1
    clear H1
    simp only [Option.some.injEq, Prod.mk.injEq] at H
    obtain ⟨rfl, rfl⟩ := H
    go_enter Try.func22, Try.ntmps22
    go_wp2_with (first | ((with_reducible refine gate_callee (f := 19) rfl ?_); refine goesL_ (some 11) rfl rfl Try.func19 (by kernel_rfl) rfl #[.complex .f64 a0.1 a0.2] rfl (by (try simp only [List.map_toArray, List.map_cons, List.map_nil]); first | done | rfl | (simp only [List.length_drop, List.length_take]; rfl)) ?_; (with_reducible refine (taskmasterref3_Parts.calls a0 t162 t163 false _ A3.out).mono ?_); rintro e w31 ⟨rfl, hb⟩; refine ⟨_, rfl, ?_⟩; have n0_ := Aside0.mk (below_step (by repeat (first | (with_reducible first | exact HB.out | apply below_alloc | apply pw_below_drewN | apply below_drew1) | exact HB.out)) hb); clear HB; have HB := n0_; clear n0_; (try clear hb); (try clear hb2); (try clear hk); (try clear hi)))
    go_ret2
    exact ⟨by first | rfl | (simp [errW_none, errW_some] <;> rfl) | (simp [*, errW_none, errW_some] <;> rfl), by repeat (first | (with_reducible first | exact HB.out | apply below_alloc | apply pw_below_drewN | apply below_drew1) | exact HB.out)⟩

end Go.Proofs.Ythppgakbgkknlaa.QCo

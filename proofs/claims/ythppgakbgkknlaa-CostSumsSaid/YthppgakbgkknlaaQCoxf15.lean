/- What is proved: contracts of Go functions, each as a plain Lean function; written by a program of this session after the kit's print; conditions as each theorem names them. -/
import Derived.Test.YthppgakbgkknlaaQCox0
import Derived.Test.YthppgakbgkknlaaQCoxf19
namespace Go.Proofs.Ythppgakbgkknlaa.QCo
open Go.RowKit Go.Proofs.YthppgakbgkknlaaW.PrintWords Go.Proofs.YthppgakbgkknlaaW.PrintLast Go.Proofs.YthppgakbgkknlaaW.PrintMore
attribute [local go_sem] max2_int min2_int max_two min_two max_three min_three max_four min_four   -- for this text's walks alone
set_option linter.unusedVariables false
set_option linter.unusedSimpArgs false

/-! ### taskmasterref3_More: function 15 -/
def taskmasterref3_More.j0 : Nat → (Nat × Nat) → (Nat × Nat) → Int → Int → Bool → Int → Int → Bool → Bool → Option ((Nat × Nat))
  | 0, _, _, _, _, _, _, _, _, _ => none
  | k + 1, x0, x1, x5, x6, x7, x8, x9, x10, x23 => if x23 = true then (some ((0, 0) : Nat × Nat)) else (if x7 = true then (if x10 = true then (if (wrap64 (x8 + x9)) > (wrap64 (x5 + x6)) then (some x1) else (some x0)) else (some x0)) else (some x1))
def taskmasterref3_More.f (k : Nat) (a0 : (Nat × Nat)) (a1 : (Nat × Nat)) : Option ((Nat × Nat)) := (taskmasterref3_Parts.f a0).bind fun bt235 => ((taskmasterref3_Parts.f a1).bind fun bt238 => (if bt235.2.2 = true then (taskmasterref3_More.j0 k a0 a1 bt235.1 bt235.2.1 bt235.2.2 bt238.1 bt238.2.1 bt238.2.2 false) else (taskmasterref3_More.j0 k a0 a1 bt235.1 bt235.2.1 bt235.2.2 bt238.1 bt238.2.1 bt238.2.2 (!bt238.2.2))))
theorem taskmasterref3_More.mono_l : ∀ k, (∀ y0 y1 y2 y3 y4 y5 y6 y7 y8, LeO (taskmasterref3_More.j0 k y0 y1 y2 y3 y4 y5 y6 y7 y8) (taskmasterref3_More.j0 (k + 1) y0 y1 y2 y3 y4 y5 y6 y7 y8))
  | 0 => fun _ _ _ _ _ _ _ _ _ r h => by simp [taskmasterref3_More.j0] at h
  | k + 1 => by
    have ih0 := taskmasterref3_More.mono_l k
    · intro y0 y1 y2 y3 y4 y5 y6 y7 y8
      unfold taskmasterref3_More.j0
      repeat' first
      | (with_reducible exact ih0 _ _ _ _ _ _ _ _ _)
      | (with_reducible exact LeO.refl _)
      | (with_reducible exact LeO.none _)
      | (with_reducible refine LeO.ite ?_ ?_)
      | (with_reducible refine LeO.bind ?_ (fun _ => ?_))
      | exact ih0 _ _ _ _ _ _ _ _ _
      | exact LeO.none _
      | refine LeO.ite ?_ ?_
      | refine LeO.bind ?_ (fun _ => ?_)
theorem taskmasterref3_More.mono : ∀ a0 a1 k, LeO (taskmasterref3_More.f k a0 a1) (taskmasterref3_More.f (k + 1) a0 a1) := by
  intro a0 a1 k
  have ih0 := taskmasterref3_More.mono_l k
  unfold taskmasterref3_More.f
  repeat' first
      | (with_reducible exact ih0 _ _ _ _ _ _ _ _ _)
      | (with_reducible exact LeO.refl _)
      | (with_reducible exact LeO.none _)
      | (with_reducible refine LeO.ite ?_ ?_)
      | (with_reducible refine LeO.bind ?_ (fun _ => ?_))
      | exact ih0 _ _ _ _ _ _ _ _ _
      | exact LeO.none _
      | refine LeO.ite ?_ ?_
      | refine LeO.bind ?_ (fun _ => ?_)
set_option maxHeartbeats 8000000 in
set_option maxRecDepth 100000 in
theorem taskmasterref3_More.calls (k : Nat) (a0 : (Nat × Nat)) (a1 : (Nat × Nat)) (r : (Nat × Nat)) (w : World) (h : taskmasterref3_More.f k a0 a1 = some r) :
    Calls Try.prog 15 #[.complex .f64 a0.1 a0.2, .complex .f64 a1.1 a1.2] w fun e w' => e = .returned (.complex .f64 r.1 r.2) ∧ Below w.heap.size w w' := by
  have HB := Aside0.mk (Below.refl w.heap.size w)
  have H : ((taskmasterref3_Parts.f a0).bind fun bt235 => ((taskmasterref3_Parts.f a1).bind fun bt238 => (if bt235.2.2 = true then (taskmasterref3_More.j0 k a0 a1 bt235.1 bt235.2.1 bt235.2.2 bt238.1 bt238.2.1 bt238.2.2 false) else (taskmasterref3_More.j0 k a0 a1 bt235.1 bt235.2.1 bt235.2.2 bt238.1 bt238.2.1 bt238.2.2 (!bt238.2.2))))) = some r := h
  clear h
  replace H := Option.bind_eq_some_iff.mp H
  obtain ⟨⟨t235, t236, t237⟩, A30, H⟩ := H
  replace H : ((taskmasterref3_Parts.f a1).bind fun bt238 => (if t237 = true then (taskmasterref3_More.j0 k a0 a1 t235 t236 t237 bt238.1 bt238.2.1 bt238.2.2 false) else (taskmasterref3_More.j0 k a0 a1 t235 t236 t237 bt238.1 bt238.2.1 bt238.2.2 (!bt238.2.2)))) = some r := H
  have A3 := Aside0.mk A30
  clear A30
  replace H := Option.bind_eq_some_iff.mp H
  obtain ⟨⟨t238, t239, t240⟩, A40, H⟩ := H
  replace H : (if t237 = true then (taskmasterref3_More.j0 k a0 a1 t235 t236 t237 t238 t239 t240 false) else (taskmasterref3_More.j0 k a0 a1 t235 t236 t237 t238 t239 t240 (!t240))) = some r := H
  have A4 := Aside0.mk A40
  clear A40
  have HC5 := Aside0.mk H
  clear H
  go_enter Try.func15, Try.ntmps15
  go_upto_region 3 with (first | ((with_reducible refine gate_callee (f := 19) rfl ?_); refine goesL_ (some 13) rfl rfl Try.func19 (by kernel_rfl) rfl #[.complex .f64 a0.1 a0.2] rfl (by (try simp only [List.map_toArray, List.map_cons, List.map_nil]); first | done | rfl | (simp only [List.length_drop, List.length_take]; rfl)) ?_; (with_reducible refine (taskmasterref3_Parts.calls a0 t235 t236 t237 _ A3.out).mono ?_); rintro e w6 ⟨rfl, hb⟩; refine ⟨_, rfl, ?_⟩; have n0_ := Aside0.mk (below_step (by repeat (first | (with_reducible first | exact HB.out | apply below_alloc | apply pw_below_drewN | apply below_drew1) | exact HB.out)) hb); clear HB; have HB := n0_; clear n0_; (try clear hb); (try clear hb2); (try clear hk); (try clear hi)) | ((with_reducible refine gate_callee (f := 19) rfl ?_); refine goesL_ (some 19) rfl rfl Try.func19 (by kernel_rfl) rfl #[.complex .f64 a1.1 a1.2] rfl (by (try simp only [List.map_toArray, List.map_cons, List.map_nil]); first | done | rfl | (simp only [List.length_drop, List.length_take]; rfl)) ?_; (with_reducible refine (taskmasterref3_Parts.calls a1 t238 t239 t240 _ A4.out).mono ?_); rintro e w7 ⟨rfl, hb⟩; refine ⟨_, rfl, ?_⟩; have n0_ := Aside0.mk (below_step (by repeat (first | (with_reducible first | exact HB.out | apply below_alloc | apply pw_below_drewN | apply below_drew1) | exact HB.out)) hb); clear HB; have HB := n0_; clear n0_; (try clear hb); (try clear hb2); (try clear hk); (try clear hi)))
  (try simp only [Act.put, List.setIfInBounds_toArray, List.set_cons_zero, List.set_cons_succ])
  go_cut [23] (fun v23 wc => ∃ (kq : Nat) (x23_4 : Bool), v23 = .bool x23_4 ∧ Aside0 (taskmasterref3_More.j0 kq a0 a1 t235 t236 t237 t238 t239 t240 x23_4 = some r) ∧ Aside0 (kq ≤ k) ∧ Aside0 (Below w.heap.size w wc))
  case first =>
    have H := HC5.out
    clear HC5
    by_cases c8 : t237 = true
    · subst c8
      have H1 : (taskmasterref3_More.j0 k a0 a1 t235 t236 true t238 t239 t240 false) = some r := by rw [if_pos rfl] at H; exact H
      clear H
      have H := H1
      clear H1
      have H' := Aside0.mk H
      clear H
      go_wp2
      go_meet
      case rel => exact ⟨_, (false), (by first | rfl | (simp; done) | (simp [*]; done)), H', ⟨by first | omega | exact Nat.le_refl _⟩, ⟨by repeat (first | (with_reducible first | exact HB.out | apply below_alloc | apply pw_below_drewN | apply below_drew1) | exact HB.out)⟩⟩
    · replace c8 := Bool.eq_false_iff.mpr c8
      subst c8
      have H1 : (taskmasterref3_More.j0 k a0 a1 t235 t236 false t238 t239 t240 (!t240)) = some r := by rw [if_neg (show ¬ (false = true) by decide)] at H; exact H
      clear H
      have H := H1
      clear H1
      have H' := Aside0.mk H
      clear H
      go_wp2
      go_meet
      case rel => exact ⟨_, (!t240), (by first | rfl | (simp; done) | (simp [*]; done)), H', ⟨by first | omega | exact Nat.le_refl _⟩, ⟨by repeat (first | (with_reducible first | exact HB.out | apply below_alloc | apply pw_below_drewN | apply below_drew1) | exact HB.out)⟩⟩
  case rest =>
    clear HC5
    try clear c1
    try clear p2
    try clear c8
    obtain ⟨kq, x23_4, rfl, HA, HJ4, HB⟩ := hcut
    cases kq with
    | zero => exact absurd HA.out (by simp [taskmasterref3_More.j0])
    | succ kj4 =>
      have H := HA.out
      clear HA
      simp only [taskmasterref3_More.j0] at H
      by_cases c9 : x23_4 = true
      · subst c9
        have H1 : (some ((0, 0) : Nat × Nat)) = some r := by rw [if_pos rfl] at H; exact H
        clear H
        have H := H1
        clear H1
        obtain rfl := Option.some.inj H
        go_wp2
        go_ret
        exact ⟨by first | rfl | (simp [errW_none, errW_some] <;> rfl) | (simp [*, errW_none, errW_some] <;> rfl), by repeat (first | (with_reducible first | exact HB.out | apply below_alloc | apply pw_below_drewN | apply below_drew1) | exact HB.out)⟩
      · replace c9 := Bool.eq_false_iff.mpr c9
        subst c9
        have H1 : (if t237 = true then (if t240 = true then (if (wrap64 (t238 + t239)) > (wrap64 (t235 + t236)) then (some a1) else (some a0)) else (some a0)) else (some a1)) = some r := by rw [if_neg (show ¬ (false = true) by decide)] at H; exact H
        clear H
        have H := H1
        clear H1
        by_cases c10 : t237 = true
        · subst c10
          have H1 : (if t240 = true then (if (wrap64 (t238 + t239)) > (wrap64 (t235 + t236)) then (some a1) else (some a0)) else (some a0)) = some r := by rw [if_pos rfl] at H; exact H
          clear H
          have H := H1
          clear H1
          by_cases c11 : t240 = true
          · subst c11
            have H1 : (if (wrap64 (t238 + t239)) > (wrap64 (t235 + t236)) then (some a1) else (some a0)) = some r := by rw [if_pos rfl] at H; exact H
            clear H
            have H := H1
            clear H1
            by_cases c12 : (wrap64 (t238 + t239)) > (wrap64 (t235 + t236))
            · rw [if_pos c12] at H
              have c12b0 : decide ((wrap64 (t235 + t236)) < (wrap64 (t238 + t239))) = true := decide_eq_true c12
              clear c12
              obtain rfl := Option.some.inj H
              go_wp2
              go_ret
              exact ⟨by first | rfl | (simp [errW_none, errW_some] <;> rfl) | (simp [*, errW_none, errW_some] <;> rfl), by repeat (first | (with_reducible first | exact HB.out | apply below_alloc | apply pw_below_drewN | apply below_drew1) | exact HB.out)⟩
            · rw [if_neg c12] at H
              have c12b0 : decide ((wrap64 (t235 + t236)) < (wrap64 (t238 + t239))) = false := decide_eq_false c12
              clear c12
              obtain rfl := Option.some.inj H
              go_wp2
              go_ret
              exact ⟨by first | rfl | (simp [errW_none, errW_some] <;> rfl) | (simp [*, errW_none, errW_some] <;> rfl), by repeat (first | (with_reducible first | exact HB.out | apply below_alloc | apply pw_below_drewN | apply below_drew1) | exact HB.out)⟩
          · replace c11 := Bool.eq_false_iff.mpr c11
            subst c11
            have H1 : (some a0) = some r := by rw [if_neg (show ¬ (false = true) by decide)] at H; exact H
            clear H
            have H := H1
            clear H1
            obtain rfl := Option.some.inj H
            go_wp2
            go_ret
            exact ⟨by first | rfl | (simp [errW_none, errW_some] <;> rfl) | (simp [*, errW_none, errW_some] <;> rfl), by repeat (first | (with_reducible first | exact HB.out | apply below_alloc | apply pw_below_drewN | apply below_drew1) | exact HB.out)⟩
        · replace c10 := Bool.eq_false_iff.mpr c10
          subst c10
          have H1 : (some a1) = some r := by rw [if_neg (show ¬ (false = true) by decide)] at H; exact H
          clear H
          have H := H1
          clear H1
          obtain rfl := Option.some.inj H
          go_wp2
          go_ret
          exact ⟨by first | rfl | (simp [errW_none, errW_some] <;> rfl) | (simp [*, errW_none, errW_some] <;> rfl), by repeat (first | (with_reducible first | exact HB.out | apply below_alloc | apply pw_below_drewN | apply below_drew1) | exact HB.out)⟩

end Go.Proofs.Ythppgakbgkknlaa.QCo

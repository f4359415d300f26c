/- What is proved: contracts of Go functions, each as a plain Lean function; written by a program of this session after the kit's print; conditions as each theorem names them. -/
import Derived.Test.YtbkkmlhoobkimaaQPtx0
import Derived.Test.YtbkkmlhoobkimaaQPtxf14
import Derived.Test.YtbkkmlhoobkimaaQPtxf24
import Derived.Test.YtbkkmlhoobkimaaQPtxf25
import Derived.Test.YtbkkmlhoobkimaaQPtxf26
namespace Go.Proofs.Ytbkkmlhoobkimaa.QPt
open Go.RowKit Go.Proofs.YtbkkmlhoobkimaaW.PrintWords Go.Proofs.YtbkkmlhoobkimaaW.PrintLast Go.Proofs.YtbkkmlhoobkimaaW.PrintMore
attribute [local go_sem] max2_int min2_int max_two min_two max_three min_three max_four min_four   -- for this text's walks alone
set_option linter.unusedVariables false
set_option linter.unusedSimpArgs false

/-! ### taskmasterref16_Choose: function 10 -/
mutual
def taskmasterref16_Choose.l0 : Nat → List Int → List Int → Int → List Int → Int → Bool → Int → Option (List Int × Int × Bool)
  | 0, _, _, _, _, _, _, _ => none
  | k + 1, x0, x1, x2, x9, x10, x11, x12 => if 0 ≤ (IntKind.u64.wrap ((x1.length : Int))) then (if x12 < (shl .i64 1 (IntKind.u64.wrap ((x1.length : Int)))) then ((taskmasterref16_points.f k x12 (x1.length : Int)).bind fun t168 => ((taskmasterref16_Cut.f k x0 x1 t168).bind fun bt171 => (taskmasterref16_Choose.l1 k x0 x1 x2 x9 x10 x11 x12 t168 bt171.1 0 true 0))) else (some (x9, x10, x11))) else (none)
def taskmasterref16_Choose.l1 : Nat → List Int → List Int → Int → List Int → Int → Bool → Int → List Int → List Int → Int → Bool → Int → Option (List Int × Int × Bool)
  | 0, _, _, _, _, _, _, _, _, _, _, _, _ => none
  | k + 1, x0, x1, x2, x9, x10, x11, x12, x13, x14, x16, x17, x18 => if x18 < (x14.length : Int) then (if 0 ≤ x18 then (if x17 = true then (taskmasterref16_Choose.l1 k x0 x1 x2 x9 x10 x11 x12 x13 x14 (wrap64 (x16 + (rd x14 x18))) (decide ((rd x14 x18) ≤ x2)) (wrap64 (x18 + 1))) else (taskmasterref16_Choose.l1 k x0 x1 x2 x9 x10 x11 x12 x13 x14 (wrap64 (x16 + (rd x14 x18))) false (wrap64 (x18 + 1)))) else (none)) else (if x17 = true then (if x11 = true then (if x16 < x10 then (taskmasterref16_Choose.l0 k x0 x1 x2 x13 x16 true (wrap64 (x12 + 1))) else (if x16 = x10 then (if (x13.length : Int) < (x9.length : Int) then (taskmasterref16_Choose.l0 k x0 x1 x2 x13 x16 true (wrap64 (x12 + 1))) else (if (x13.length : Int) = (x9.length : Int) then ((taskmasterref16_ahead.f k x13 x9).bind fun t177 => (if t177 = true then (taskmasterref16_Choose.l0 k x0 x1 x2 x13 x16 true (wrap64 (x12 + 1))) else (taskmasterref16_Choose.l0 k x0 x1 x2 x9 x10 x11 (wrap64 (x12 + 1))))) else (taskmasterref16_Choose.l0 k x0 x1 x2 x9 x10 x11 (wrap64 (x12 + 1))))) else (taskmasterref16_Choose.l0 k x0 x1 x2 x9 x10 x11 (wrap64 (x12 + 1))))) else (taskmasterref16_Choose.l0 k x0 x1 x2 x13 x16 true (wrap64 (x12 + 1)))) else (taskmasterref16_Choose.l0 k x0 x1 x2 x9 x10 x11 (wrap64 (x12 + 1))))
end
def taskmasterref16_Choose.f (k : Nat) (l0 : List Int) (l1 : List Int) (a2 : Int) : Option (List Int × Int × Bool) := (taskmasterref16_may.f k l0 l1).bind fun t167 => (if t167 = true then (taskmasterref16_Choose.l0 k l0 l1 a2 ([] : List Int) 0 false 0) else (some (([] : List Int), 0, false)))
theorem taskmasterref16_Choose.mono_l : ∀ k, (∀ y0 y1 y2 y3 y4 y5 y6, LeO (taskmasterref16_Choose.l0 k y0 y1 y2 y3 y4 y5 y6) (taskmasterref16_Choose.l0 (k + 1) y0 y1 y2 y3 y4 y5 y6)) ∧ (∀ y0 y1 y2 y3 y4 y5 y6 y7 y8 y9 y10 y11, LeO (taskmasterref16_Choose.l1 k y0 y1 y2 y3 y4 y5 y6 y7 y8 y9 y10 y11) (taskmasterref16_Choose.l1 (k + 1) y0 y1 y2 y3 y4 y5 y6 y7 y8 y9 y10 y11))
  | 0 => ⟨fun _ _ _ _ _ _ _ r h => by simp [taskmasterref16_Choose.l0] at h, fun _ _ _ _ _ _ _ _ _ _ _ _ r h => by simp [taskmasterref16_Choose.l1] at h⟩
  | k + 1 => by
    obtain ⟨ih0, ih1⟩ := taskmasterref16_Choose.mono_l k
    refine ⟨?_, ?_⟩
    · intro y0 y1 y2 y3 y4 y5 y6
      unfold taskmasterref16_Choose.l0
      repeat' first
      | (with_reducible exact ih0 _ _ _ _ _ _ _)
      | (with_reducible exact ih1 _ _ _ _ _ _ _ _ _ _ _ _)
      | (with_reducible exact taskmasterref16_Cut.mono _ _ _ _)
      | (with_reducible exact taskmasterref16_ahead.mono _ _ _)
      | (with_reducible exact taskmasterref16_may.mono _ _ _)
      | (with_reducible exact taskmasterref16_points.mono _ _ _)
      | (with_reducible exact LeO.refl _)
      | (with_reducible exact LeO.none _)
      | (with_reducible refine LeO.ite ?_ ?_)
      | (with_reducible refine LeO.bind ?_ (fun _ => ?_))
      | exact ih0 _ _ _ _ _ _ _
      | exact ih1 _ _ _ _ _ _ _ _ _ _ _ _
      | exact taskmasterref16_Cut.mono _ _ _ _
      | exact taskmasterref16_ahead.mono _ _ _
      | exact taskmasterref16_may.mono _ _ _
      | exact taskmasterref16_points.mono _ _ _
      | exact LeO.none _
      | refine LeO.ite ?_ ?_
      | refine LeO.bind ?_ (fun _ => ?_)
    · intro y0 y1 y2 y3 y4 y5 y6 y7 y8 y9 y10 y11
      unfold taskmasterref16_Choose.l1
      repeat' first
      | (with_reducible exact ih0 _ _ _ _ _ _ _)
      | (with_reducible exact ih1 _ _ _ _ _ _ _ _ _ _ _ _)
      | (with_reducible exact taskmasterref16_Cut.mono _ _ _ _)
      | (with_reducible exact taskmasterref16_ahead.mono _ _ _)
      | (with_reducible exact taskmasterref16_may.mono _ _ _)
      | (with_reducible exact taskmasterref16_points.mono _ _ _)
      | (with_reducible exact LeO.refl _)
      | (with_reducible exact LeO.none _)
      | (with_reducible refine LeO.ite ?_ ?_)
      | (with_reducible refine LeO.bind ?_ (fun _ => ?_))
      | exact ih0 _ _ _ _ _ _ _
      | exact ih1 _ _ _ _ _ _ _ _ _ _ _ _
      | exact taskmasterref16_Cut.mono _ _ _ _
      | exact taskmasterref16_ahead.mono _ _ _
      | exact taskmasterref16_may.mono _ _ _
      | exact taskmasterref16_points.mono _ _ _
      | exact LeO.none _
      | refine LeO.ite ?_ ?_
      | refine LeO.bind ?_ (fun _ => ?_)
theorem taskmasterref16_Choose.mono : ∀ a0 a1 a2 k, LeO (taskmasterref16_Choose.f k a0 a1 a2) (taskmasterref16_Choose.f (k + 1) a0 a1 a2) := by
  intro a0 a1 a2 k
  obtain ⟨ih0, ih1⟩ := taskmasterref16_Choose.mono_l k
  unfold taskmasterref16_Choose.f
  repeat' first
      | (with_reducible exact ih0 _ _ _ _ _ _ _)
      | (with_reducible exact ih1 _ _ _ _ _ _ _ _ _ _ _ _)
      | (with_reducible exact taskmasterref16_Cut.mono _ _ _ _)
      | (with_reducible exact taskmasterref16_ahead.mono _ _ _)
      | (with_reducible exact taskmasterref16_may.mono _ _ _)
      | (with_reducible exact taskmasterref16_points.mono _ _ _)
      | (with_reducible exact LeO.refl _)
      | (with_reducible exact LeO.none _)
      | (with_reducible refine LeO.ite ?_ ?_)
      | (with_reducible refine LeO.bind ?_ (fun _ => ?_))
      | exact ih0 _ _ _ _ _ _ _
      | exact ih1 _ _ _ _ _ _ _ _ _ _ _ _
      | exact taskmasterref16_Cut.mono _ _ _ _
      | exact taskmasterref16_ahead.mono _ _ _
      | exact taskmasterref16_may.mono _ _ _
      | exact taskmasterref16_points.mono _ _ _
      | exact LeO.none _
      | refine LeO.ite ?_ ?_
      | refine LeO.bind ?_ (fun _ => ?_)
set_option maxHeartbeats 8000000 in
set_option maxRecDepth 100000 in
theorem taskmasterref16_Choose.calls (k : Nat) (A0 : Option Addr) (c0 : Nat) (l0 : List Int) (A1 : Option Addr) (c1 : Nat) (l1 : List Int) (a2 : Int) (r1 : List Int) (r2 : Int) (r3 : Bool) (w : World) (hr0 : Kd.C (Kd.int .i64) w A0 l0.length l0) (hc0 : l0.length ≤ c0) (hr1 : Kd.C (Kd.int .i64) w A1 l1.length l1) (hc1 : l1.length ≤ c1) (h : taskmasterref16_Choose.f k l0 l1 a2 = some (r1, r2, r3)) :
    Calls Try.prog 10 #[.slice A0 l0.length c0, .slice A1 l1.length c1, .int .i64 a2] w fun e w' => ∃ v0_ : Value, e = .returned (.tuple #[v0_, .int .i64 r2, .bool r3]) ∧ Kd.R (Kd.int .i64) 3 w' w.heap.size (fun _ => True) v0_ r1 ∧ Below w.heap.size w w' := by
  have HR0 := Aside0.mk hr0
  have HC0 := Aside0.mk hc0
  clear hr0 hc0
  have HR1 := Aside0.mk hr1
  have HC1 := Aside0.mk hc1
  clear hr1 hc1
  have HB := Aside0.mk (Below.refl w.heap.size w)
  have H : ((taskmasterref16_may.f k l0 l1).bind fun t167 => (if t167 = true then (taskmasterref16_Choose.l0 k l0 l1 a2 ([] : List Int) 0 false 0) else (some (([] : List Int), 0, false)))) = some (r1, r2, r3) := h
  clear h
  replace H := Option.bind_eq_some_iff.mp H
  obtain ⟨t167, A40, H⟩ := H
  replace H : (if t167 = true then (taskmasterref16_Choose.l0 k l0 l1 a2 ([] : List Int) 0 false 0) else (some (([] : List Int), 0, false))) = some (r1, r2, r3) := H
  have A4 := Aside0.mk A40
  clear A40
  by_cases c5 : t167 = true
  · subst c5
    have H1 : (taskmasterref16_Choose.l0 k l0 l1 a2 ([] : List Int) 0 false 0) = some (r1, r2, r3) := by rw [if_pos rfl] at H; exact H
    clear H
    have H := H1
    clear H1
    have H' := Aside0.mk H
    clear H
    go_enter Try.func10, Try.ntmps10
    go_wp2_with (first | ((with_reducible refine gate_callee (f := 24) rfl ?_); refine goesL_ (some 21) rfl rfl Try.func24 (by kernel_rfl) rfl #[.slice A0 l0.length c0, .slice A1 l1.length c1] rfl (by (try simp only [List.map_toArray, List.map_cons, List.map_nil]); first | done | rfl | (simp only [List.length_drop, List.length_take]; rfl)) ?_; (with_reducible refine (taskmasterref16_may.calls k _ _ l0 _ _ l1 true _ ?side1 ?side2 ?side3 ?side4 A4.out).mono ?_); (case side1 => repeat (first | exact HR0.out | (with_reducible refine Kd.C_alloc ?_ _) | (with_reducible refine Kd.C_drewN ?_ _) | (with_reducible refine Kd.C_drew ?_))); (case side2 => exact HC0.out); (case side3 => repeat (first | exact HR1.out | (with_reducible refine Kd.C_alloc ?_ _) | (with_reducible refine Kd.C_drewN ?_ _) | (with_reducible refine Kd.C_drew ?_))); (case side4 => exact HC1.out); rintro e w' ⟨rfl, ⟨nd, rfl⟩⟩; refine ⟨_, rfl, ?_⟩))
    go_loopg [9, 10, 11, 12] k (fun kq v9 v10 v11 v12 w' => ∃ (x9_1 : List Int) (x10_1 : Int) (x11_1 : Bool) (x12_1 : Int), v10 = .int .i64 x10_1 ∧ v11 = .bool x11_1 ∧ v12 = .int .i64 x12_1 ∧ Aside0 (taskmasterref16_Choose.l0 kq l0 l1 a2 x9_1 x10_1 x11_1 x12_1 = some (r1, r2, r3)) ∧ Aside0 (kq ≤ k) ∧ Aside0 (Kd.R (Kd.int .i64) 3 w' w.heap.size (fun _ => True) v9 x9_1) ∧ Aside0 (Below w.heap.size w w'))
    case atStart => exact ⟨(([] : List Int)), (0), (false), (0), (by first | rfl | (simp; done) | (simp [*]; done)), (by first | rfl | (simp; done) | (simp [*]; done)), (by first | rfl | (simp; done) | (simp [*]; done)), H', ⟨Nat.le_refl _⟩, ⟨by first | exact Kd.R_nil _ _ _ _ _ | exact Kd.N_nil _ _ _ _ _ | exact Kd.V_nil _ _ _ _ _ | exact Kd.Q_nil _ _ _ _ _ | exact Kd.S_nil _ _ _ _ _⟩, ⟨by repeat (first | (with_reducible first | exact HB.out | apply below_alloc | apply pw_below_drewN | apply below_drew1) | exact HB.out)⟩⟩
    case round =>
      clear H'
      try clear c1
      try clear c2
      try clear p2
      try clear c5
      obtain ⟨x9_1, x10_1, x11_1, x12_1, rfl, rfl, rfl, HA, HK1, HO_9, HB⟩ := hrel
      cases gk with
      | zero => exact absurd HA.out (by simp [taskmasterref16_Choose.l0])
      | succ k1 =>
        have H := HA.out
        clear HA
        simp only [taskmasterref16_Choose.l0] at H
        obtain ⟨ji6, hji6⟩ : ∃ j_ : Int, (IntKind.u64.wrap ((l1.length : Int))) = j_ := ⟨_, rfl⟩
        replace H : (if 0 ≤ (ji6) then (if x12_1 < (shl .i64 1 (ji6)) then ((taskmasterref16_points.f k1 x12_1 (l1.length : Int)).bind fun t168 => ((taskmasterref16_Cut.f k1 l0 l1 t168).bind fun bt171 => (taskmasterref16_Choose.l1 k1 l0 l1 a2 x9_1 x10_1 x11_1 x12_1 t168 bt171.1 0 true 0))) else (some (x9_1, x10_1, x11_1))) else (none)) = some (r1, r2, r3) := by first | (rw [hji6] at H; exact H) | (simp only [hji6] at H ⊢; exact H)
        by_cases c7 : 0 ≤ (ji6)
        · rw [if_pos c7] at H
          have c7b0 := eq_true c7
          have c7b1 : decide (0 ≤ (ji6)) = true := decide_eq_true c7
          clear c7
          obtain ⟨ji8, hji8⟩ : ∃ j_ : Int, (shl .i64 1 (ji6)) = j_ := ⟨_, rfl⟩
          replace H : (if x12_1 < (ji8) then ((taskmasterref16_points.f k1 x12_1 (l1.length : Int)).bind fun t168 => ((taskmasterref16_Cut.f k1 l0 l1 t168).bind fun bt171 => (taskmasterref16_Choose.l1 k1 l0 l1 a2 x9_1 x10_1 x11_1 x12_1 t168 bt171.1 0 true 0))) else (some (x9_1, x10_1, x11_1))) = some (r1, r2, r3) := by first | (rw [hji8] at H; exact H) | (simp only [hji8] at H ⊢; exact H)
          have hji8_ : (IntKind.i64.wrap (1 * 2 ^ min (ji6).toNat 64)) = ji8 := hji8
          have hji8z : (ji6) ≤ 64 → (IntKind.i64.wrap (1 * 2 ^ (ji6).toNat)) = ji8 := shl_small hji8
          have hji8u : (IntKind.i64.wrap (2 ^ min (ji6).toNat 64)) = ji8 := by have h_ := hji8_; rw [Int.one_mul] at h_; exact h_
          have hji8v : (ji6) ≤ 64 → (IntKind.i64.wrap (2 ^ (ji6).toNat)) = ji8 := fun hle_ => by have h_ := hji8z hle_; rw [Int.one_mul] at h_; exact h_
          have hji8y : (wrap64 (1 * 2 ^ min (ji6).toNat 64)) = ji8 := (i64_w _).symm.trans hji8_
          have hji8x : (ji6) ≤ 64 → (wrap64 (1 * 2 ^ (ji6).toNat)) = ji8 := fun h_ => (i64_w _).symm.trans (hji8z h_)
          by_cases c9 : x12_1 < (ji8)
          · rw [if_pos c9] at H
            have c9b0 : decide (x12_1 < (ji8)) = true := decide_eq_true c9
            clear c9
            replace H := Option.bind_eq_some_iff.mp H
            obtain ⟨t168, A100, H⟩ := H
            replace H : ((taskmasterref16_Cut.f k1 l0 l1 t168).bind fun bt171 => (taskmasterref16_Choose.l1 k1 l0 l1 a2 x9_1 x10_1 x11_1 x12_1 t168 bt171.1 0 true 0)) = some (r1, r2, r3) := H
            have A10 := Aside0.mk A100
            clear A100
            replace H := Option.bind_eq_some_iff.mp H
            obtain ⟨⟨t171, t172⟩, A110, H⟩ := H
            replace H : (taskmasterref16_Choose.l1 k1 l0 l1 a2 x9_1 x10_1 x11_1 x12_1 t168 t171 0 true 0) = some (r1, r2, r3) := H
            have A11 := Aside0.mk A110
            clear A110
            have H' := Aside0.mk H
            clear H
            go_wp2_with (first | ((with_reducible refine gate_callee (f := 25) rfl ?_); refine goesL_ (some 34) rfl rfl Try.func25 (by kernel_rfl) rfl #[.int .i64 x12_1, .int .i64 (l1.length : Int)] rfl (by (try simp only [List.map_toArray, List.map_cons, List.map_nil]); first | done | rfl | (simp only [List.length_drop, List.length_take]; rfl)) ?_; (with_reducible refine (taskmasterref16_points.calls k1 x12_1 (l1.length : Int) t168 _ A10.out).mono ?_); rintro e w12 ⟨v169, rfl, ho0, hb⟩; refine ⟨_, rfl, ?_⟩; have n0_ := Aside0.mk (Kd.R_elder' (by (with_reducible repeat (first | apply Kd.R_alloc | apply Kd.R_drewN | apply Kd.R_drew)); exact HO_9.out) (Kd.R_base ho0) hb); have n1_ := Aside0.mk (Kd.R_lower (Kd.R_new' ho0 (Kd.R_lt (by (with_reducible repeat (first | apply Kd.R_alloc | apply Kd.R_drewN | apply Kd.R_drew)); exact HO_9.out))) (below_size (by repeat (first | (with_reducible first | exact HB.out | apply below_alloc | apply pw_below_drewN | apply below_drew1) | exact HB.out)))); have n2_ := Aside0.mk (below_step (by repeat (first | (with_reducible first | exact HB.out | apply below_alloc | apply pw_below_drewN | apply below_drew1) | exact HB.out)) hb); clear HO_9; clear HB; have HO_9 := n0_; have HO170 := n1_; have HB := n2_; clear n0_ n1_ n2_; (try clear hb); (try clear hb2); (try clear hk); (try clear hi); (try clear ho0); obtain ⟨Ao13, co13, eo13⟩ := Kd.R_slice HO170.out; subst eo13) | ((with_reducible refine gate_callee (f := 14) rfl ?_); refine goesL_ (some 39) rfl rfl Try.func14 (by kernel_rfl) rfl #[.slice A0 l0.length c0, .slice A1 l1.length c1, .slice Ao13 t168.length co13] rfl (by (try simp only [List.map_toArray, List.map_cons, List.map_nil]); first | done | rfl | (simp only [List.length_drop, List.length_take]; rfl)) ?_; (with_reducible refine (taskmasterref16_Cut.calls k1 _ _ l0 _ _ l1 _ _ t168 t171 t172 _ ?side1 ?side2 ?side3 ?side4 ?side5 ?side6 A11.out).mono ?_); (case side1 => repeat (first | exact (Kd.C_below HR0.out HB.out) | (with_reducible refine Kd.C_alloc ?_ _) | (with_reducible refine Kd.C_drewN ?_ _) | (with_reducible refine Kd.C_drew ?_))); (case side2 => exact HC0.out); (case side3 => repeat (first | exact (Kd.C_below HR1.out HB.out) | (with_reducible refine Kd.C_alloc ?_ _) | (with_reducible refine Kd.C_drewN ?_ _) | (with_reducible refine Kd.C_drew ?_))); (case side4 => exact HC1.out); (case side5 => repeat (first | exact (Kd.R_reads' HO170.out).2.2 | (with_reducible refine Kd.C_alloc ?_ _) | (with_reducible refine Kd.C_drewN ?_ _) | (with_reducible refine Kd.C_drew ?_))); (case side6 => exact (Kd.R_reads' HO170.out).2.1); rintro e w14 ⟨v173, rfl, ho0, hb⟩; refine ⟨_, rfl, ?_⟩; have n0_ := Aside0.mk (Kd.R_below (by (with_reducible repeat (first | apply Kd.R_alloc | apply Kd.R_drewN | apply Kd.R_drew)); exact HO_9.out) hb); have n1_ := Aside0.mk (Kd.R_below (by (with_reducible repeat (first | apply Kd.R_alloc | apply Kd.R_drewN | apply Kd.R_drew)); exact HO170.out) hb); have n2_ := Aside0.mk (Kd.R_lower ho0 (below_size (by repeat (first | (with_reducible first | exact HB.out | apply below_alloc | apply pw_below_drewN | apply below_drew1) | exact HB.out)))); have n3_ := Aside0.mk (below_step (by repeat (first | (with_reducible first | exact HB.out | apply below_alloc | apply pw_below_drewN | apply below_drew1) | exact HB.out)) hb); clear HO_9; clear HO170; clear HB; have HO_9 := n0_; have HO170 := n1_; have HO174 := n2_; have HB := n3_; clear n0_ n1_ n2_ n3_; (try clear hb); (try clear hb2); (try clear hk); (try clear hi); (try clear ho0)))
            go_loopg [16, 17, 18] k1 (fun kq v16 v17 v18 w' => ∃ (x16_2 : Int) (x17_2 : Bool) (x18_2 : Int), v16 = .int .i64 x16_2 ∧ v17 = .bool x17_2 ∧ v18 = .int .i64 x18_2 ∧ Aside0 (taskmasterref16_Choose.l1 kq l0 l1 a2 x9_1 x10_1 x11_1 x12_1 t168 t171 x16_2 x17_2 x18_2 = some (r1, r2, r3)) ∧ Aside0 (kq ≤ k1) ∧ Aside0 (Kd.R (Kd.int .i64) 3 w' w.heap.size (fun k_ => some k_ ≠ ((.slice Ao13 t168.length co13) : Value).ownBlock) u9 x9_1) ∧ Aside0 (Kd.R (Kd.int .i64) 3 w' w.heap.size (fun k_ => some k_ ≠ (u9 : Value).ownBlock) (.slice Ao13 t168.length co13) t168) ∧ Aside0 (Kd.R (Kd.int .i64) 2 w' w.heap.size (fun _ => True) v173 t171) ∧ Aside0 (Below w.heap.size w w'))
            case atStart => exact ⟨(0), (true), (0), (by first | rfl | (simp; done) | (simp [*]; done)), (by first | rfl | (simp; done) | (simp [*]; done)), (by first | rfl | (simp; done) | (simp [*]; done)), H', ⟨Nat.le_refl _⟩, ⟨by (with_reducible repeat (first | apply Kd.R_alloc | apply Kd.R_drewN | apply Kd.R_drew)); exact Kd.R_mono HO_9.out (fun _ hk => hk.2)⟩, ⟨by (with_reducible repeat (first | apply Kd.R_alloc | apply Kd.R_drewN | apply Kd.R_drew)); exact Kd.R_mono HO170.out (fun _ hk => hk.2)⟩, ⟨by (with_reducible repeat (first | apply Kd.R_alloc | apply Kd.R_drewN | apply Kd.R_drew)); exact HO174.out⟩, ⟨by repeat (first | (with_reducible first | exact HB.out | apply below_alloc | apply pw_below_drewN | apply below_drew1) | exact HB.out)⟩⟩
            case round =>
              clear H'
              try clear c1
              try clear c2
              try clear p2
              try clear c5
              try clear p6
              try clear c7
              try clear c7b0
              try clear c7b1
              try clear c9
              try clear c9b0
              try clear c10
              try clear c14
              try clear p2
              obtain ⟨x16_2, x17_2, x18_2, rfl, rfl, rfl, HA, HK2, HO_9, HO_13, HO_14, HB⟩ := hrel
              cases gk with
              | zero => exact absurd HA.out (by simp [taskmasterref16_Choose.l1])
              | succ k2 =>
                have H := HA.out
                clear HA
                simp only [taskmasterref16_Choose.l1] at H
                by_cases c15 : x18_2 < (t171.length : Int)
                · rw [if_pos c15] at H
                  have c15b0 : decide (x18_2 < (t171.length : Int)) = true := decide_eq_true c15
                  clear c15
                  by_cases c16 : 0 ≤ x18_2
                  · rw [if_pos c16] at H
                    have c16b0 : decide (0 ≤ x18_2) = true := decide_eq_true c16
                    clear c16
                    by_cases c17 : x17_2 = true
                    · subst c17
                      have H1 : (taskmasterref16_Choose.l1 k2 l0 l1 a2 x9_1 x10_1 x11_1 x12_1 t168 t171 (wrap64 (x16_2 + (rd t171 x18_2))) (decide ((rd t171 x18_2) ≤ a2)) (wrap64 (x18_2 + 1))) = some (r1, r2, r3) := by rw [if_pos rfl] at H; exact H
                      clear H
                      have H := H1
                      clear H1
                      have H' := Aside0.mk H
                      clear H
                      obtain ⟨Ao18, co18, eo18⟩ := Kd.R_slice HO_14.out
                      subst eo18
                      have p175 : 0 ≤ (x18_2 : Int) := of_decide_eq_true (by first | (with_reducible assumption) | assumption)
                      have q175 : x18_2 < (t171.length : Int) := of_decide_eq_true (by first | (with_reducible assumption) | assumption)
                      obtain ⟨ad175, e175, hx175_0⟩ := Kd.at_int (Kd.R_reads' HO_14.out).2.2 x18_2 p175 q175
                      cases e175
                      replace p175 := eq_true p175
                      replace q175 := eq_true q175
                      have p176 : 0 ≤ (x18_2 : Int) := of_decide_eq_true (by first | (with_reducible assumption) | assumption)
                      have q176 : x18_2 < (t171.length : Int) := of_decide_eq_true (by first | (with_reducible assumption) | assumption)
                      obtain ⟨ad176, e176, hx176_0⟩ := Kd.at_int (Kd.R_reads' HO_14.out).2.2 x18_2 p176 q176
                      obtain rfl : ad175 = ad176 := (by injection e176)
                      replace p176 := eq_true p176
                      replace q176 := eq_true q176
                      go_wp2
                      go_roundg k2
                      case measure => have := HK1.out; have := HK2.out; omega
                      case rel => exact ⟨(wrap64 (x16_2 + (rd t171 x18_2))), (decide ((rd t171 x18_2) ≤ a2)), (wrap64 (x18_2 + 1)), (by first | rfl | (simp; done) | (simp [*]; done)), (by first | rfl | (simp; done) | (simp [*]; done)), (by first | rfl | (simp; done) | (simp [*]; done)), H', ⟨by have := HK1.out; have := HK2.out; omega⟩, ⟨by (with_reducible repeat (first | apply Kd.R_alloc | apply Kd.R_drewN | apply Kd.R_drew)); exact HO_9.out⟩, ⟨by (with_reducible repeat (first | apply Kd.R_alloc | apply Kd.R_drewN | apply Kd.R_drew)); exact HO_13.out⟩, ⟨by (with_reducible repeat (first | apply Kd.R_alloc | apply Kd.R_drewN | apply Kd.R_drew)); exact HO_14.out⟩, ⟨by repeat (first | (with_reducible first | exact HB.out | apply below_alloc | apply pw_below_drewN | apply below_drew1) | exact HB.out)⟩⟩
                    · replace c17 := Bool.eq_false_iff.mpr c17
                      subst c17
                      have H1 : (taskmasterref16_Choose.l1 k2 l0 l1 a2 x9_1 x10_1 x11_1 x12_1 t168 t171 (wrap64 (x16_2 + (rd t171 x18_2))) false (wrap64 (x18_2 + 1))) = some (r1, r2, r3) := by rw [if_neg (show ¬ (false = true) by decide)] at H; exact H
                      clear H
                      have H := H1
                      clear H1
                      have H' := Aside0.mk H
                      clear H
                      obtain ⟨Ao19, co19, eo19⟩ := Kd.R_slice HO_14.out
                      subst eo19
                      have p175 : 0 ≤ (x18_2 : Int) := of_decide_eq_true (by first | (with_reducible assumption) | assumption)
                      have q175 : x18_2 < (t171.length : Int) := of_decide_eq_true (by first | (with_reducible assumption) | assumption)
                      obtain ⟨ad175, e175, hx175_0⟩ := Kd.at_int (Kd.R_reads' HO_14.out).2.2 x18_2 p175 q175
                      cases e175
                      replace p175 := eq_true p175
                      replace q175 := eq_true q175
                      go_wp2
                      go_roundg k2
                      case measure => have := HK1.out; have := HK2.out; omega
                      case rel => exact ⟨(wrap64 (x16_2 + (rd t171 x18_2))), (false), (wrap64 (x18_2 + 1)), (by first | rfl | (simp; done) | (simp [*]; done)), (by first | rfl | (simp; done) | (simp [*]; done)), (by first | rfl | (simp; done) | (simp [*]; done)), H', ⟨by have := HK1.out; have := HK2.out; omega⟩, ⟨by (with_reducible repeat (first | apply Kd.R_alloc | apply Kd.R_drewN | apply Kd.R_drew)); exact HO_9.out⟩, ⟨by (with_reducible repeat (first | apply Kd.R_alloc | apply Kd.R_drewN | apply Kd.R_drew)); exact HO_13.out⟩, ⟨by (with_reducible repeat (first | apply Kd.R_alloc | apply Kd.R_drewN | apply Kd.R_drew)); exact HO_14.out⟩, ⟨by repeat (first | (with_reducible first | exact HB.out | apply below_alloc | apply pw_below_drewN | apply below_drew1) | exact HB.out)⟩⟩
                  · rw [if_neg c16] at H
                    exact absurd H (by simp)
                · rw [if_neg c15] at H
                  have c15b0 : decide (x18_2 < (t171.length : Int)) = false := decide_eq_false c15
                  clear c15
                  by_cases c20 : x17_2 = true
                  · subst c20
                    have H1 : (if x11_1 = true then (if x16_2 < x10_1 then (taskmasterref16_Choose.l0 k2 l0 l1 a2 t168 x16_2 true (wrap64 (x12_1 + 1))) else (if x16_2 = x10_1 then (if (t168.length : Int) < (x9_1.length : Int) then (taskmasterref16_Choose.l0 k2 l0 l1 a2 t168 x16_2 true (wrap64 (x12_1 + 1))) else (if (t168.length : Int) = (x9_1.length : Int) then ((taskmasterref16_ahead.f k2 t168 x9_1).bind fun t177 => (if t177 = true then (taskmasterref16_Choose.l0 k2 l0 l1 a2 t168 x16_2 true (wrap64 (x12_1 + 1))) else (taskmasterref16_Choose.l0 k2 l0 l1 a2 x9_1 x10_1 x11_1 (wrap64 (x12_1 + 1))))) else (taskmasterref16_Choose.l0 k2 l0 l1 a2 x9_1 x10_1 x11_1 (wrap64 (x12_1 + 1))))) else (taskmasterref16_Choose.l0 k2 l0 l1 a2 x9_1 x10_1 x11_1 (wrap64 (x12_1 + 1))))) else (taskmasterref16_Choose.l0 k2 l0 l1 a2 t168 x16_2 true (wrap64 (x12_1 + 1)))) = some (r1, r2, r3) := by rw [if_pos rfl] at H; exact H
                    clear H
                    have H := H1
                    clear H1
                    by_cases c21 : x11_1 = true
                    · subst c21
                      have H1 : (if x16_2 < x10_1 then (taskmasterref16_Choose.l0 k2 l0 l1 a2 t168 x16_2 true (wrap64 (x12_1 + 1))) else (if x16_2 = x10_1 then (if (t168.length : Int) < (x9_1.length : Int) then (taskmasterref16_Choose.l0 k2 l0 l1 a2 t168 x16_2 true (wrap64 (x12_1 + 1))) else (if (t168.length : Int) = (x9_1.length : Int) then ((taskmasterref16_ahead.f k2 t168 x9_1).bind fun t177 => (if t177 = true then (taskmasterref16_Choose.l0 k2 l0 l1 a2 t168 x16_2 true (wrap64 (x12_1 + 1))) else (taskmasterref16_Choose.l0 k2 l0 l1 a2 x9_1 x10_1 true (wrap64 (x12_1 + 1))))) else (taskmasterref16_Choose.l0 k2 l0 l1 a2 x9_1 x10_1 true (wrap64 (x12_1 + 1))))) else (taskmasterref16_Choose.l0 k2 l0 l1 a2 x9_1 x10_1 true (wrap64 (x12_1 + 1))))) = some (r1, r2, r3) := by rw [if_pos rfl] at H; exact H
                      clear H
                      have H := H1
                      clear H1
                      by_cases c22 : x16_2 < x10_1
                      · rw [if_pos c22] at H
                        have c22b0 : decide (x16_2 < x10_1) = true := decide_eq_true c22
                        clear c22
                        have H' := Aside0.mk H
                        clear H
                        obtain ⟨Ao23, co23, eo23⟩ := Kd.R_slice HO_14.out
                        subst eo23
                        go_wp2
                        go_roundg k2
                        case measure => have := HK1.out; have := HK2.out; omega
                        case rel => exact ⟨(t168), (x16_2), (true), (wrap64 (x12_1 + 1)), (by first | rfl | (simp; done) | (simp [*]; done)), (by first | rfl | (simp; done) | (simp [*]; done)), (by first | rfl | (simp; done) | (simp [*]; done)), H', ⟨by have := HK1.out; have := HK2.out; omega⟩, ⟨by (with_reducible repeat (first | apply Kd.R_alloc | apply Kd.R_drewN | apply Kd.R_drew)); exact Kd.R_mono HO_13.out (fun _ hk => trivial)⟩, ⟨by repeat (first | (with_reducible first | exact HB.out | apply below_alloc | apply pw_below_drewN | apply below_drew1) | exact HB.out)⟩⟩
                      · rw [if_neg c22] at H
                        have c22b0 : decide (x16_2 < x10_1) = false := decide_eq_false c22
                        clear c22
                        by_cases c24 : x16_2 = x10_1
                        · rw [if_pos c24] at H
                          have c24b0 : (x16_2 == x10_1) = true := beq_iff_eq.mpr c24
                          have c24b1 : (x16_2 != x10_1) = false := bne_eq_false_iff_eq.mpr c24
                          clear c24
                          by_cases c25 : (t168.length : Int) < (x9_1.length : Int)
                          · rw [if_pos c25] at H
                            have c25b0 : decide ((t168.length : Int) < (x9_1.length : Int)) = true := decide_eq_true c25
                            have c25b1 : decide (t168.length < x9_1.length) = true := decide_eq_true (Int.ofNat_lt.mp c25)
                            clear c25
                            have H' := Aside0.mk H
                            clear H
                            obtain ⟨Ao26, co26, eo26⟩ := Kd.R_slice HO_14.out
                            subst eo26
                            obtain ⟨Ao27, co27, eo27⟩ := Kd.R_slice HO_9.out
                            subst eo27
                            go_wp2
                            go_roundg k2
                            case measure => have := HK1.out; have := HK2.out; omega
                            case rel => exact ⟨(t168), (x16_2), (true), (wrap64 (x12_1 + 1)), (by first | rfl | (simp; done) | (simp [*]; done)), (by first | rfl | (simp; done) | (simp [*]; done)), (by first | rfl | (simp; done) | (simp [*]; done)), H', ⟨by have := HK1.out; have := HK2.out; omega⟩, ⟨by (with_reducible repeat (first | apply Kd.R_alloc | apply Kd.R_drewN | apply Kd.R_drew)); exact Kd.R_mono HO_13.out (fun _ hk => trivial)⟩, ⟨by repeat (first | (with_reducible first | exact HB.out | apply below_alloc | apply pw_below_drewN | apply below_drew1) | exact HB.out)⟩⟩
                          · rw [if_neg c25] at H
                            have c25b0 : decide ((t168.length : Int) < (x9_1.length : Int)) = false := decide_eq_false c25
                            have c25b1 : decide (t168.length < x9_1.length) = false := decide_eq_false (fun h => c25 (Int.ofNat_lt.mpr h))
                            clear c25
                            by_cases c28 : (t168.length : Int) = (x9_1.length : Int)
                            · rw [if_pos c28] at H
                              have c28b0 : ((t168.length : Int) == (x9_1.length : Int)) = true := beq_iff_eq.mpr c28
                              have c28b1 : ((t168.length : Int) != (x9_1.length : Int)) = false := bne_eq_false_iff_eq.mpr c28
                              have c28b2 : (t168.length == x9_1.length) = true := by first | simpa using c28 | (simp at c28 ⊢; omega)
                              clear c28
                              replace H := Option.bind_eq_some_iff.mp H
                              obtain ⟨t177, A290, H⟩ := H
                              replace H : (if t177 = true then (taskmasterref16_Choose.l0 k2 l0 l1 a2 t168 x16_2 true (wrap64 (x12_1 + 1))) else (taskmasterref16_Choose.l0 k2 l0 l1 a2 x9_1 x10_1 true (wrap64 (x12_1 + 1)))) = some (r1, r2, r3) := H
                              have A29 := Aside0.mk A290
                              clear A290
                              by_cases c30 : t177 = true
                              · subst c30
                                have H1 : (taskmasterref16_Choose.l0 k2 l0 l1 a2 t168 x16_2 true (wrap64 (x12_1 + 1))) = some (r1, r2, r3) := by rw [if_pos rfl] at H; exact H
                                clear H
                                have H := H1
                                clear H1
                                have H' := Aside0.mk H
                                clear H
                                obtain ⟨Ao31, co31, eo31⟩ := Kd.R_slice HO_14.out
                                subst eo31
                                obtain ⟨Ao32, co32, eo32⟩ := Kd.R_slice HO_9.out
                                subst eo32
                                go_wp2_with (first | (go_at_call 26; (with_reducible refine (taskmasterref16_ahead.calls k2 _ _ t168 _ _ x9_1 true _ ?side1 ?side2 ?side3 ?side4 A29.out).mono ?_); (case side1 => repeat (first | exact (Kd.R_reads' HO_13.out).2.2 | (with_reducible refine Kd.C_alloc ?_ _) | (with_reducible refine Kd.C_drewN ?_ _) | (with_reducible refine Kd.C_drew ?_))); (case side2 => exact (Kd.R_reads' HO_13.out).2.1); (case side3 => repeat (first | exact (Kd.R_reads' HO_9.out).2.2 | (with_reducible refine Kd.C_alloc ?_ _) | (with_reducible refine Kd.C_drewN ?_ _) | (with_reducible refine Kd.C_drew ?_))); (case side4 => exact (Kd.R_reads' HO_9.out).2.1); rintro e w' ⟨rfl, ⟨nd, rfl⟩⟩))
                                go_roundg k2
                                case measure => have := HK1.out; have := HK2.out; omega
                                case rel => exact ⟨(t168), (x16_2), (true), (wrap64 (x12_1 + 1)), (by first | rfl | (simp; done) | (simp [*]; done)), (by first | rfl | (simp; done) | (simp [*]; done)), (by first | rfl | (simp; done) | (simp [*]; done)), H', ⟨by have := HK1.out; have := HK2.out; omega⟩, ⟨by (with_reducible repeat (first | apply Kd.R_alloc | apply Kd.R_drewN | apply Kd.R_drew)); exact Kd.R_mono HO_13.out (fun _ hk => trivial)⟩, ⟨by repeat (first | (with_reducible first | exact HB.out | apply below_alloc | apply pw_below_drewN | apply below_drew1) | exact HB.out)⟩⟩
                              · replace c30 := Bool.eq_false_iff.mpr c30
                                subst c30
                                have H1 : (taskmasterref16_Choose.l0 k2 l0 l1 a2 x9_1 x10_1 true (wrap64 (x12_1 + 1))) = some (r1, r2, r3) := by rw [if_neg (show ¬ (false = true) by decide)] at H; exact H
                                clear H
                                have H := H1
                                clear H1
                                have H' := Aside0.mk H
                                clear H
                                obtain ⟨Ao33, co33, eo33⟩ := Kd.R_slice HO_14.out
                                subst eo33
                                obtain ⟨Ao34, co34, eo34⟩ := Kd.R_slice HO_9.out
                                subst eo34
                                go_wp2_with (first | (go_at_call 26; (with_reducible refine (taskmasterref16_ahead.calls k2 _ _ t168 _ _ x9_1 false _ ?side1 ?side2 ?side3 ?side4 A29.out).mono ?_); (case side1 => repeat (first | exact (Kd.R_reads' HO_13.out).2.2 | (with_reducible refine Kd.C_alloc ?_ _) | (with_reducible refine Kd.C_drewN ?_ _) | (with_reducible refine Kd.C_drew ?_))); (case side2 => exact (Kd.R_reads' HO_13.out).2.1); (case side3 => repeat (first | exact (Kd.R_reads' HO_9.out).2.2 | (with_reducible refine Kd.C_alloc ?_ _) | (with_reducible refine Kd.C_drewN ?_ _) | (with_reducible refine Kd.C_drew ?_))); (case side4 => exact (Kd.R_reads' HO_9.out).2.1); rintro e w' ⟨rfl, ⟨nd, rfl⟩⟩))
                                go_roundg k2
                                case measure => have := HK1.out; have := HK2.out; omega
                                case rel => exact ⟨(x9_1), (x10_1), (true), (wrap64 (x12_1 + 1)), (by first | rfl | (simp; done) | (simp [*]; done)), (by first | rfl | (simp; done) | (simp [*]; done)), (by first | rfl | (simp; done) | (simp [*]; done)), H', ⟨by have := HK1.out; have := HK2.out; omega⟩, ⟨by (with_reducible repeat (first | apply Kd.R_alloc | apply Kd.R_drewN | apply Kd.R_drew)); exact Kd.R_mono HO_9.out (fun _ hk => trivial)⟩, ⟨by repeat (first | (with_reducible first | exact HB.out | apply below_alloc | apply pw_below_drewN | apply below_drew1) | exact HB.out)⟩⟩
                            · rw [if_neg c28] at H
                              have c28b0 : ((t168.length : Int) == (x9_1.length : Int)) = false := beq_eq_false_iff_ne.mpr c28
                              have c28b1 : ((t168.length : Int) != (x9_1.length : Int)) = true := bne_iff_ne.mpr c28
                              have c28b2 : (t168.length == x9_1.length) = false := by first | simpa using c28 | (simp at c28 ⊢; omega)
                              have H' := Aside0.mk H
                              clear H
                              obtain ⟨Ao35, co35, eo35⟩ := Kd.R_slice HO_14.out
                              subst eo35
                              obtain ⟨Ao36, co36, eo36⟩ := Kd.R_slice HO_9.out
                              subst eo36
                              go_wp2
                              go_roundg k2
                              case measure => have := HK1.out; have := HK2.out; omega
                              case rel => exact ⟨(x9_1), (x10_1), (true), (wrap64 (x12_1 + 1)), (by first | rfl | (simp; done) | (simp [*]; done)), (by first | rfl | (simp; done) | (simp [*]; done)), (by first | rfl | (simp; done) | (simp [*]; done)), H', ⟨by have := HK1.out; have := HK2.out; omega⟩, ⟨by (with_reducible repeat (first | apply Kd.R_alloc | apply Kd.R_drewN | apply Kd.R_drew)); exact Kd.R_mono HO_9.out (fun _ hk => trivial)⟩, ⟨by repeat (first | (with_reducible first | exact HB.out | apply below_alloc | apply pw_below_drewN | apply below_drew1) | exact HB.out)⟩⟩
                        · rw [if_neg c24] at H
                          have c24b0 : (x16_2 == x10_1) = false := beq_eq_false_iff_ne.mpr c24
                          have c24b1 : (x16_2 != x10_1) = true := bne_iff_ne.mpr c24
                          have H' := Aside0.mk H
                          clear H
                          obtain ⟨Ao37, co37, eo37⟩ := Kd.R_slice HO_14.out
                          subst eo37
                          go_wp2
                          go_roundg k2
                          case measure => have := HK1.out; have := HK2.out; omega
                          case rel => exact ⟨(x9_1), (x10_1), (true), (wrap64 (x12_1 + 1)), (by first | rfl | (simp; done) | (simp [*]; done)), (by first | rfl | (simp; done) | (simp [*]; done)), (by first | rfl | (simp; done) | (simp [*]; done)), H', ⟨by have := HK1.out; have := HK2.out; omega⟩, ⟨by (with_reducible repeat (first | apply Kd.R_alloc | apply Kd.R_drewN | apply Kd.R_drew)); exact Kd.R_mono HO_9.out (fun _ hk => trivial)⟩, ⟨by repeat (first | (with_reducible first | exact HB.out | apply below_alloc | apply pw_below_drewN | apply below_drew1) | exact HB.out)⟩⟩
                    · replace c21 := Bool.eq_false_iff.mpr c21
                      subst c21
                      have H1 : (taskmasterref16_Choose.l0 k2 l0 l1 a2 t168 x16_2 true (wrap64 (x12_1 + 1))) = some (r1, r2, r3) := by rw [if_neg (show ¬ (false = true) by decide)] at H; exact H
                      clear H
                      have H := H1
                      clear H1
                      have H' := Aside0.mk H
                      clear H
                      obtain ⟨Ao38, co38, eo38⟩ := Kd.R_slice HO_14.out
                      subst eo38
                      go_wp2
                      go_roundg k2
                      case measure => have := HK1.out; have := HK2.out; omega
                      case rel => exact ⟨(t168), (x16_2), (true), (wrap64 (x12_1 + 1)), (by first | rfl | (simp; done) | (simp [*]; done)), (by first | rfl | (simp; done) | (simp [*]; done)), (by first | rfl | (simp; done) | (simp [*]; done)), H', ⟨by have := HK1.out; have := HK2.out; omega⟩, ⟨by (with_reducible repeat (first | apply Kd.R_alloc | apply Kd.R_drewN | apply Kd.R_drew)); exact Kd.R_mono HO_13.out (fun _ hk => trivial)⟩, ⟨by repeat (first | (with_reducible first | exact HB.out | apply below_alloc | apply pw_below_drewN | apply below_drew1) | exact HB.out)⟩⟩
                  · replace c20 := Bool.eq_false_iff.mpr c20
                    subst c20
                    have H1 : (taskmasterref16_Choose.l0 k2 l0 l1 a2 x9_1 x10_1 x11_1 (wrap64 (x12_1 + 1))) = some (r1, r2, r3) := by rw [if_neg (show ¬ (false = true) by decide)] at H; exact H
                    clear H
                    have H := H1
                    clear H1
                    have H' := Aside0.mk H
                    clear H
                    obtain ⟨Ao39, co39, eo39⟩ := Kd.R_slice HO_14.out
                    subst eo39
                    go_wp2
                    go_roundg k2
                    case measure => have := HK1.out; have := HK2.out; omega
                    case rel => exact ⟨(x9_1), (x10_1), (x11_1), (wrap64 (x12_1 + 1)), (by first | rfl | (simp; done) | (simp [*]; done)), (by first | rfl | (simp; done) | (simp [*]; done)), (by first | rfl | (simp; done) | (simp [*]; done)), H', ⟨by have := HK1.out; have := HK2.out; omega⟩, ⟨by (with_reducible repeat (first | apply Kd.R_alloc | apply Kd.R_drewN | apply Kd.R_drew)); exact Kd.R_mono HO_9.out (fun _ hk => trivial)⟩, ⟨by repeat (first | (with_reducible first | exact HB.out | apply below_alloc | apply pw_below_drewN | apply below_drew1) | exact HB.out)⟩⟩
          · rw [if_neg c9] at H
            have c9b0 : decide (x12_1 < (ji8)) = false := decide_eq_false c9
            clear c9
            simp only [Option.some.injEq, Prod.mk.injEq] at H
            obtain ⟨rfl, rfl, rfl⟩ := H
            go_wp2
            go_ret3
            exact ⟨_, by first | rfl | (simp [errW_none, errW_some] <;> rfl) | (simp only [← hji6, ← hji8]; first | rfl | (simp [errW_none, errW_some] <;> rfl)) | (simp [*, errW_none, errW_some] <;> rfl), by (with_reducible repeat (first | apply Kd.R_alloc | apply Kd.R_drewN | apply Kd.R_drew)); exact HO_9.out, by repeat (first | (with_reducible first | exact HB.out | apply below_alloc | apply pw_below_drewN | apply below_drew1) | exact HB.out)⟩
        · rw [if_neg c7] at H
          exact absurd H (by simp)
  · replace c5 := Bool.eq_false_iff.mpr c5
    subst c5
    have H1 : (some (([] : List Int), 0, false)) = some (r1, r2, r3) := by rw [if_neg (show ¬ (false = true) by decide)] at H; exact H
    clear H
    have H := H1
    clear H1
    simp only [Option.some.injEq, Prod.mk.injEq] at H
    obtain ⟨rfl, rfl, rfl⟩ := H
    go_enter Try.func10, Try.ntmps10
    go_wp2_with (first | ((with_reducible refine gate_callee (f := 24) rfl ?_); refine goesL_ (some 21) rfl rfl Try.func24 (by kernel_rfl) rfl #[.slice A0 l0.length c0, .slice A1 l1.length c1] rfl (by (try simp only [List.map_toArray, List.map_cons, List.map_nil]); first | done | rfl | (simp only [List.length_drop, List.length_take]; rfl)) ?_; (with_reducible refine (taskmasterref16_may.calls k _ _ l0 _ _ l1 false _ ?side1 ?side2 ?side3 ?side4 A4.out).mono ?_); (case side1 => repeat (first | exact HR0.out | (with_reducible refine Kd.C_alloc ?_ _) | (with_reducible refine Kd.C_drewN ?_ _) | (with_reducible refine Kd.C_drew ?_))); (case side2 => exact HC0.out); (case side3 => repeat (first | exact HR1.out | (with_reducible refine Kd.C_alloc ?_ _) | (with_reducible refine Kd.C_drewN ?_ _) | (with_reducible refine Kd.C_drew ?_))); (case side4 => exact HC1.out); rintro e w' ⟨rfl, ⟨nd, rfl⟩⟩; refine ⟨_, rfl, ?_⟩))
    go_ret3
    exact ⟨_, by first | rfl | (simp [errW_none, errW_some] <;> rfl) | (simp [*, errW_none, errW_some] <;> rfl), by first | exact Kd.R_nil _ _ _ _ _ | exact Kd.N_nil _ _ _ _ _ | exact Kd.V_nil _ _ _ _ _ | exact Kd.Q_nil _ _ _ _ _ | exact Kd.S_nil _ _ _ _ _, by repeat (first | (with_reducible first | exact HB.out | apply below_alloc | apply pw_below_drewN | apply below_drew1) | exact HB.out)⟩

end Go.Proofs.Ytbkkmlhoobkimaa.QPt

/- What is proved: contracts and plain facts on the way to the row RowTraceReads, and, in the last text, the row itself; conditions as each theorem names them. -/
import Derived.Test.YtkdndgclldlddaaDoorSkTrReads1
import Derived.Test.YtkdndgclldlddaaDoorSkTrReads2
namespace Go.Proofs.YtkdndgclldlddaaDoor.QTr
open Go.RowKit Go.Proofs.YtkdndgclldlddaaDoorW.PrintWords Go.Proofs.YtkdndgclldlddaaDoorW.PrintLast Go.Proofs.YtkdndgclldlddaaDoorW.PrintMore
attribute [local go_sem] max2_int min2_int max_two min_two max_three min_three max_four min_four
set_option linter.unusedVariables false
set_option linter.unusedSimpArgs false
def trace_Read.l0 : Nat → ByteArray → List (S44) → Option ((List (S44)) × Bool)
 | 0, _, _ => none
 | k + 1, x0, x4 => if x0.toList = ([] : List UInt8) then (some (x4, true)) else ((strings_Cut.f x0 (⟨#[10]⟩ : ByteArray)).bind fun bt182 => (if bt182.2.2 = true then ((trace_event.f k bt182.1).bind fun bt185 => (if bt185.2.2.2.2 = true then (if x4.length < 4398046511104 then (trace_Read.l0 k bt182.2.1 (x4 ++ [(⟨bt185.1, bt185.2.1, bt185.2.2.1, bt185.2.2.2.1⟩ : S44)])) else (none)) else (some (([] : List (S44)), false)))) else (some (([] : List (S44)), false))))
def trace_Read.f (k : Nat) (a0 : ByteArray) : Option ((List (S44)) × Bool) := trace_Read.l0 k a0 ([] : List (S44))
set_option maxHeartbeats 8000000 in
set_option maxRecDepth 100000 in
theorem trace_Read.calls (k : Nat) (a0 : ByteArray) (r1 : List (S44)) (r2 : Bool) (w : World) (hT : TabW w) (h : trace_Read.f k a0 = some (r1, r2)) :
  Calls Tryd.prog 19 #[.string a0] w fun e w' => ∃ v0_ : Value, e = .returned (.tuple #[v0_, .bool r2]) ∧ Kd.R k44 44 w' w.heap.size (fun _ => True) v0_ r1 ∧ Below w.heap.size w w' := by
 have HT := Aside0.mk hT
 clear hT
 have hu44 := Tryd.underlying44
 have HB := Aside0.mk (Below.refl w.heap.size w)
 have H : (trace_Read.l0 k a0 ([] : List (S44))) = some (r1, r2) := h
 clear h
 have H' := Aside0.mk H
 clear H
 go_enter Tryd.func19, Tryd.ntmps19
 go_wp2
 go_loopg [0, 4] k (fun kq v0 v4 w' => ∃ (x0_1 : ByteArray) (x4_1 : List (S44)), v0 = .string x0_1 ∧ Aside0 (trace_Read.l0 kq x0_1 x4_1 = some (r1, r2)) ∧ Aside0 (kq ≤ k) ∧ Aside0 (Kd.R k44 44 w' w.heap.size (fun _ => True) v4 x4_1) ∧ Aside0 (Below w.heap.size w w'))
 case atStart => exact ⟨(a0), (([] : List (S44))), (by first | rfl | (simp; done) | (simp [*]; done)), H', ⟨Nat.le_refl _⟩, ⟨by first | exact Kd.R_nil _ _ _ _ _ | exact Kd.N_nil _ _ _ _ _ | exact Kd.V_nil _ _ _ _ _ | exact Kd.Q_nil _ _ _ _ _ | exact Kd.S_nil _ _ _ _ _⟩, ⟨by repeat (first | (with_reducible first | exact HB.out | apply below_alloc | apply pw_below_drewN | apply below_drew1) | exact HB.out)⟩⟩
 case round =>
  clear H'
  try clear c1
  obtain ⟨x0_1, x4_1, rfl, HA, HK1, HO_4, HB⟩ := hrel
  cases gk with
  | zero => exact absurd HA.out (by simp [trace_Read.l0])
  | succ k1 =>
   have H := HA.out
   clear HA
   simp only [trace_Read.l0] at H
   by_cases c2 : x0_1.toList = ([] : List UInt8)
   ·rw [if_pos c2] at H
    have c2b0 : (x0_1.toList == ([] : List UInt8)) = true := beq_iff_eq.mpr c2
    have c2b1 : (x0_1.toList != ([] : List UInt8)) = false := bne_eq_false_iff_eq.mpr c2
    clear c2
    simp only [Option.some.injEq, Prod.mk.injEq] at H
    obtain ⟨rfl, rfl⟩ := H
    go_wp2
    go_ret2
    exact ⟨_, by first | rfl | (simp [errW_none, errW_some] <;> rfl) | (simp [*, errW_none, errW_some] <;> rfl), by (with_reducible repeat (first | apply Kd.R_alloc | apply Kd.R_drewN | apply Kd.R_drew)); exact HO_4.out, by repeat (first | (with_reducible first | exact HB.out | apply below_alloc | apply pw_below_drewN | apply below_drew1) | exact HB.out)⟩
   ·rw [if_neg c2] at H
    have c2b0 : (x0_1.toList == ([] : List UInt8)) = false := beq_eq_false_iff_ne.mpr c2
    have c2b1 : (x0_1.toList != ([] : List UInt8)) = true := bne_iff_ne.mpr c2
    replace H := Option.bind_eq_some_iff.mp H
    obtain ⟨⟨t182, t183, t184⟩, A30, H⟩ := H
    replace H : (if t184 = true then ((trace_event.f k1 t182).bind fun bt185 => (if bt185.2.2.2.2 = true then (if x4_1.length < 4398046511104 then (trace_Read.l0 k1 t183 (x4_1 ++ [(⟨bt185.1, bt185.2.1, bt185.2.2.1, bt185.2.2.2.1⟩ : S44)])) else (none)) else (some (([] : List (S44)), false)))) else (some (([] : List (S44)), false))) = some (r1, r2) := H
    have A3 := Aside0.mk A30
    clear A30
    by_cases c4 : t184 = true
    ·subst c4
     have H1 : ((trace_event.f k1 t182).bind fun bt185 => (if bt185.2.2.2.2 = true then (if x4_1.length < 4398046511104 then (trace_Read.l0 k1 t183 (x4_1 ++ [(⟨bt185.1, bt185.2.1, bt185.2.2.1, bt185.2.2.2.1⟩ : S44)])) else (none)) else (some (([] : List (S44)), false)))) = some (r1, r2) := by rw [if_pos rfl] at H; exact H
     clear H
     have H := H1
     clear H1
     replace H := Option.bind_eq_some_iff.mp H
     obtain ⟨⟨t185, t186, t187, t188, t189⟩, A50, H⟩ := H
     replace H : (if t189 = true then (if x4_1.length < 4398046511104 then (trace_Read.l0 k1 t183 (x4_1 ++ [(⟨t185, t186, t187, t188⟩ : S44)])) else (none)) else (some (([] : List (S44)), false))) = some (r1, r2) := H
     have A5 := Aside0.mk A50
     clear A50
     by_cases c6 : t189 = true
     ·subst c6
      have H1 : (if x4_1.length < 4398046511104 then (trace_Read.l0 k1 t183 (x4_1 ++ [(⟨t185, t186, t187, t188⟩ : S44)])) else (none)) = some (r1, r2) := by rw [if_pos rfl] at H; exact H
      clear H
      have H := H1
      clear H1
      by_cases c7 : x4_1.length < 4398046511104
      ·rw [if_pos c7] at H
       have LMc7 := Aside0.mk c7
       clear c7
       obtain ⟨y191, hy191⟩ : ∃ y_ : List (S44), y_ = (x4_1 ++ [(⟨t185, t186, t187, t188⟩ : S44)]) := ⟨_, rfl⟩
       replace H : (trace_Read.l0 k1 t183 y191) = some (r1, r2) := by first | (rw [hy191]; with_reducible exact H) | (have H2_ := (Option.bind_some _ _).symm.trans H; rw [hy191]; with_reducible exact H2_) | (have H2_ := (Option.bind_some _ _).symm.trans H; with_reducible exact H2_) | with_reducible exact H | (rw [hy191]; exact H) | exact H
       have Ny191 := Aside0.mk hy191
       clear hy191
       have H' := Aside0.mk H
       clear H
       go_wp2_with (first | ((with_reducible refine gate_callee (f := 39) rfl ?_); refine goesL_ (some 13) rfl rfl Tryd.func39 (by kernel_rfl) rfl #[.string x0_1, .string (⟨#[10]⟩ : ByteArray)] rfl (by (try simp only [List.map_toArray, List.map_cons, List.map_nil]); first | done | rfl | (simp only [List.length_drop, List.length_take]; rfl)) ?_; (with_reducible refine (strings_Cut.calls (hT := ?sideT) x0_1 (⟨#[10]⟩ : ByteArray) t182 t183 true _ A3.out).mono ?_); (case sideT => first | with_reducible exact HT.out | refine TabW.below HT.out ?_; repeat (first | (with_reducible first | exact HB.out | apply below_alloc | apply pw_below_drewN | apply below_drew1 | refine below_set ?_ GE190.out) | exact HB.out | exact Below.refl _ _)); rintro e w8 ⟨rfl, hb⟩; refine ⟨_, rfl, ?_⟩; have n0_ := Aside0.mk (Kd.R_below (by (with_reducible repeat (first | apply Kd.R_alloc | apply Kd.R_drewN | apply Kd.R_drew)); exact HO_4.out) hb); have n1_ := Aside0.mk (below_step (by repeat (first | (with_reducible first | exact HB.out | apply below_alloc | apply pw_below_drewN | apply below_drew1) | exact HB.out)) hb); clear HO_4; clear HB; have HO_4 := n0_; have HB := n1_; clear n0_ n1_; (try clear hb); (try clear hb2); (try clear hk); (try clear hi)) | ((with_reducible refine gate_callee (f := 40) rfl ?_); refine goesL_ (some 21) rfl rfl Tryd.func40 (by kernel_rfl) rfl #[.string t182] rfl (by (try simp only [List.map_toArray, List.map_cons, List.map_nil]); first | done | rfl | (simp only [List.length_drop, List.length_take]; rfl)) ?_; (with_reducible refine (trace_event.calls (hT := ?sideT) k1 t182 t185 t186 t187 t188 true _ A5.out).mono ?_); (case sideT => first | with_reducible exact HT.out | refine TabW.below HT.out ?_; repeat (first | (with_reducible first | exact HB.out | apply below_alloc | apply pw_below_drewN | apply below_drew1 | refine below_set ?_ GE190.out) | exact HB.out | exact Below.refl _ _)); rintro e w9 ⟨rfl, hb⟩; refine ⟨_, rfl, ?_⟩; have n0_ := Aside0.mk (Kd.R_below (by (with_reducible repeat (first | apply Kd.R_alloc | apply Kd.R_drewN | apply Kd.R_drew)); exact HO_4.out) hb); have n1_ := Aside0.mk (below_step (by repeat (first | (with_reducible first | exact HB.out | apply below_alloc | apply pw_below_drewN | apply below_drew1) | exact HB.out)) hb); clear HO_4; clear HB; have HO_4 := n0_; have HB := n1_; clear n0_ n1_; (try clear hb); (try clear hb2); (try clear hk); (try clear hi)) | ((with_reducible refine gate_dst (N := 8) rfl ?_); refine box_event ?hg (N := 8) ?hd (cs := #[.int .i64 0, .int .i64 0, .int .i64 0, .int .i64 0]) (t := 44) ?hr ?_; (case hd => rfl); (case hg => rfl); (case hr => first | (go_simp; done) | (go_simp; rfl)); intro gb190 hg w10 hbox hb; have n0_ := Aside0.mk (Kd.R_below (Kd.R_elderB (by (with_reducible repeat (first | apply Kd.R_alloc | apply Kd.R_drewN | apply Kd.R_drew)); exact HO_4.out) gb190 (Nat.le_of_eq hg.symm)) hb); have n1_ := Aside0.mk (below_step (by repeat (first | (with_reducible first | exact HB.out | apply below_alloc | apply pw_below_drewN | apply below_drew1) | exact HB.out)) hb); have n2_ := Aside0.mk (hbox); have n3_ := Aside0.mk ((by rw [hg]; exact (below_size (by repeat (first | (with_reducible first | exact HB.out | apply below_alloc | apply pw_below_drewN | apply below_drew1) | exact HB.out))) : w.heap.size ≤ gb190)); have n4_ := Aside0.mk ((by rw [hg]; exact (below_size (by repeat (first | (with_reducible first | exact HB.out | apply below_alloc | apply pw_below_drewN | apply below_drew1) | exact HB.out))) : w.heap.size ≤ gb190)); clear HO_4; clear HB; have HO_4 := n0_; have HB := n1_; have BK190 := n2_; have GW190 := n3_; have GE190 := n4_; clear n0_ n1_ n2_ n3_ n4_; clear hb hbox hg; have hcz11_0 : w10.cell? ⟨gb190, 0, none⟩ = some (.int .i64 0) := (blk_cell BK190.out 0).trans rfl; have hcz11_1 : w10.cell? ⟨gb190, 1, none⟩ = some (.int .i64 0) := (blk_cell BK190.out 1).trans rfl; have hcz11_2 : w10.cell? ⟨gb190, 2, none⟩ = some (.int .i64 0) := (blk_cell BK190.out 2).trans rfl; have hcz11_3 : w10.cell? ⟨gb190, 3, none⟩ = some (.int .i64 0) := (blk_cell BK190.out 3).trans rfl; have hfz11_0 := blk_frozen BK190.out 0; have hfz11_1 := blk_frozen BK190.out 1; have hfz11_2 := blk_frozen BK190.out 2; have hfz11_3 := blk_frozen BK190.out 3) | ((with_reducible refine gate_builtin (b := .append) (xs := #[.tmp 26, .tmp 28]) rfl ?_); at_builtin; refine Kd.R_append k44 (w0 := w) w.heap.size rfl (.tmp 26) (.tmp 28) 37 44 (.agg #[(.int .i64 0), (.int .i64 0), (.int .i64 0), (.int .i64 0)]) 32 rfl Tryd.underlying37 info44 rfl (by decide) (by omega) u4 x4_1 (⟨t185, t186, t187, t188⟩ : S44) [.int .i64 t185, .int .i64 t186, .int .i64 t187, .int .i64 t188] (fun k_ => k_ ≠ gb190) (fun _ => False) rfl (by first | (go_simp; done) | (go_simp; rfl)) ?aP (fun _ hk => hk.elim) ?aF ?aO ?aB ?aS ?aL ?_; (case aP => exact k44_mkM _ _ _ (⟨t185, t186, t187, t188⟩ : S44)); (case aB => exact (by repeat (first | (with_reducible first | exact HB.out | apply below_alloc | apply pw_below_drewN | apply below_drew1 | refine below_set ?_ GE190.out) | exact HB.out))); (case aF => exact (fun k_ hk => Kd.freshB (g := gb190) (o := .cells #[.int .i64 t185, .int .i64 t186, .int .i64 t187, .int .i64 t188] 44 (0, 0)) (by (with_reducible repeat (first | refine blk_drewN ?_ _ | refine blk_drew ?_ | refine blk_alloc ?_ _)); refine blk_put (cs := #[.int .i64 t185, .int .i64 t186, .int .i64 t187, .int .i64 0]) ?_ 3 _ rfl; (with_reducible repeat (first | refine blk_drewN ?_ _ | refine blk_drew ?_ | refine blk_alloc ?_ _)); refine blk_put (cs := #[.int .i64 t185, .int .i64 t186, .int .i64 0, .int .i64 0]) ?_ 2 _ rfl; (with_reducible repeat (first | refine blk_drewN ?_ _ | refine blk_drew ?_ | refine blk_alloc ?_ _)); refine blk_put (cs := #[.int .i64 t185, .int .i64 0, .int .i64 0, .int .i64 0]) ?_ 1 _ rfl; (with_reducible repeat (first | refine blk_drewN ?_ _ | refine blk_drew ?_ | refine blk_alloc ?_ _)); refine blk_put (cs := #[.int .i64 0, .int .i64 0, .int .i64 0, .int .i64 0]) ?_ 0 _ rfl; (with_reducible repeat (first | refine blk_drewN ?_ _ | refine blk_drew ?_ | refine blk_alloc ?_ _)); exact BK190.out) k_ hk)); (case aO => exact (by (with_reducible repeat (first | apply Kd.R_alloc | apply Kd.R_drewN | apply Kd.R_drew)); exact Kd.R_mono (Kd.R_far (p := ⟨gb190, 3, none⟩) (Kd.R_far (p := ⟨gb190, 2, none⟩) (Kd.R_far (p := ⟨gb190, 1, none⟩) (Kd.R_far (p := ⟨gb190, 0, none⟩) (Kd.R_mono HO_4.out (fun k_ hk => (⟨hk, hk.2⟩ : _ ∧ k_ ≠ gb190))) (fun _ hk => hk.2) (.int .i64 t185)) (fun _ hk => hk.2) (.int .i64 t186)) (fun _ hk => hk.2) (.int .i64 t187)) (fun _ hk => hk.2) (.int .i64 t188)) (fun _ hk => hk.1.2))); (case aS => exact (below_size (by repeat (first | (with_reducible first | exact HB.out | apply below_alloc | apply pw_below_drewN | apply below_drew1 | refine below_set ?_ GE190.out) | exact HB.out)))); (case aL => have := LMc7.out; omega); intro v192 w12 ho hb hg hat; rw [← Ny191.out] at ho; have n0_ := Aside0.mk (blk_grown (g := gb190) (o := .cells #[.int .i64 t185, .int .i64 t186, .int .i64 t187, .int .i64 t188] 44 (0, 0)) (by (with_reducible repeat (first | refine blk_drewN ?_ _ | refine blk_drew ?_ | refine blk_alloc ?_ _)); refine blk_put (cs := #[.int .i64 t185, .int .i64 t186, .int .i64 t187, .int .i64 0]) ?_ 3 _ rfl; (with_reducible repeat (first | refine blk_drewN ?_ _ | refine blk_drew ?_ | refine blk_alloc ?_ _)); refine blk_put (cs := #[.int .i64 t185, .int .i64 t186, .int .i64 0, .int .i64 0]) ?_ 2 _ rfl; (with_reducible repeat (first | refine blk_drewN ?_ _ | refine blk_drew ?_ | refine blk_alloc ?_ _)); refine blk_put (cs := #[.int .i64 t185, .int .i64 0, .int .i64 0, .int .i64 0]) ?_ 1 _ rfl; (with_reducible repeat (first | refine blk_drewN ?_ _ | refine blk_drew ?_ | refine blk_alloc ?_ _)); refine blk_put (cs := #[.int .i64 0, .int .i64 0, .int .i64 0, .int .i64 0]) ?_ 0 _ rfl; (with_reducible repeat (first | refine blk_drewN ?_ _ | refine blk_drew ?_ | refine blk_alloc ?_ _)); exact BK190.out) hg (Kd.R_away HO_4.out (fun _ hk => hk.2))); have n1_ := Aside0.mk (hb); have n2_ := Aside0.mk (ho); clear BK190; clear HB; clear HO_4; have BK190 := n0_; have HB := n1_; have HO193 := n2_; clear n0_ n1_ n2_; clear ho hb hg hat))
       go_roundg k1
       case measure => have := HK1.out; omega
       case rel => exact ⟨(t183), (y191), (by first | rfl | (simp; done) | (simp [*]; done)), H', ⟨by have := HK1.out; omega⟩, ⟨by (with_reducible repeat (first | apply Kd.R_alloc | apply Kd.R_drewN | apply Kd.R_drew)); exact Kd.R_mono HO193.out (fun _ hk => trivial)⟩, ⟨by repeat (first | (with_reducible first | exact HB.out | apply below_alloc | apply pw_below_drewN | apply below_drew1 | refine below_set ?_ GE190.out) | exact HB.out)⟩⟩
      ·rw [if_neg c7] at H
       exact absurd H (by simp)
     ·replace c6 := Bool.eq_false_iff.mpr c6
      subst c6
      have H1 : (some (([] : List (S44)), false)) = some (r1, r2) := by rw [if_neg (show ¬ (false = true) by decide)] at H; exact H
      clear H
      have H := H1
      clear H1
      simp only [Option.some.injEq, Prod.mk.injEq] at H
      obtain ⟨rfl, rfl⟩ := H
      go_wp2_with (first | ((with_reducible refine gate_callee (f := 39) rfl ?_); refine goesL_ (some 13) rfl rfl Tryd.func39 (by kernel_rfl) rfl #[.string x0_1, .string (⟨#[10]⟩ : ByteArray)] rfl (by (try simp only [List.map_toArray, List.map_cons, List.map_nil]); first | done | rfl | (simp only [List.length_drop, List.length_take]; rfl)) ?_; (with_reducible refine (strings_Cut.calls (hT := ?sideT) x0_1 (⟨#[10]⟩ : ByteArray) t182 t183 true _ A3.out).mono ?_); (case sideT => first | with_reducible exact HT.out | refine TabW.below HT.out ?_; repeat (first | (with_reducible first | exact HB.out | apply below_alloc | apply pw_below_drewN | apply below_drew1 | refine below_set ?_ GE190.out) | exact HB.out | exact Below.refl _ _)); rintro e w13 ⟨rfl, hb⟩; refine ⟨_, rfl, ?_⟩; have n0_ := Aside0.mk (Kd.R_below (by (with_reducible repeat (first | apply Kd.R_alloc | apply Kd.R_drewN | apply Kd.R_drew)); exact HO_4.out) hb); have n1_ := Aside0.mk (below_step (by repeat (first | (with_reducible first | exact HB.out | apply below_alloc | apply pw_below_drewN | apply below_drew1) | exact HB.out)) hb); clear HO_4; clear HB; have HO_4 := n0_; have HB := n1_; clear n0_ n1_; (try clear hb); (try clear hb2); (try clear hk); (try clear hi)) | ((with_reducible refine gate_callee (f := 40) rfl ?_); refine goesL_ (some 21) rfl rfl Tryd.func40 (by kernel_rfl) rfl #[.string t182] rfl (by (try simp only [List.map_toArray, List.map_cons, List.map_nil]); first | done | rfl | (simp only [List.length_drop, List.length_take]; rfl)) ?_; (with_reducible refine (trace_event.calls (hT := ?sideT) k1 t182 t185 t186 t187 t188 false _ A5.out).mono ?_); (case sideT => first | with_reducible exact HT.out | refine TabW.below HT.out ?_; repeat (first | (with_reducible first | exact HB.out | apply below_alloc | apply pw_below_drewN | apply below_drew1 | refine below_set ?_ GE190.out) | exact HB.out | exact Below.refl _ _)); rintro e w14 ⟨rfl, hb⟩; refine ⟨_, rfl, ?_⟩; have n0_ := Aside0.mk (Kd.R_below (by (with_reducible repeat (first | apply Kd.R_alloc | apply Kd.R_drewN | apply Kd.R_drew)); exact HO_4.out) hb); have n1_ := Aside0.mk (below_step (by repeat (first | (with_reducible first | exact HB.out | apply below_alloc | apply pw_below_drewN | apply below_drew1) | exact HB.out)) hb); clear HO_4; clear HB; have HO_4 := n0_; have HB := n1_; clear n0_ n1_; (try clear hb); (try clear hb2); (try clear hk); (try clear hi)) | ((with_reducible refine gate_dst (N := 8) rfl ?_); refine box_event ?hg (N := 8) ?hd (cs := #[.int .i64 0, .int .i64 0, .int .i64 0, .int .i64 0]) (t := 44) ?hr ?_; (case hd => rfl); (case hg => rfl); (case hr => first | (go_simp; done) | (go_simp; rfl)); intro gb190 hg w15 hbox hb; have n0_ := Aside0.mk (Kd.R_below (Kd.R_elderB (by (with_reducible repeat (first | apply Kd.R_alloc | apply Kd.R_drewN | apply Kd.R_drew)); exact HO_4.out) gb190 (Nat.le_of_eq hg.symm)) hb); have n1_ := Aside0.mk (below_step (by repeat (first | (with_reducible first | exact HB.out | apply below_alloc | apply pw_below_drewN | apply below_drew1) | exact HB.out)) hb); have n2_ := Aside0.mk (hbox); have n3_ := Aside0.mk ((by rw [hg]; exact (below_size (by repeat (first | (with_reducible first | exact HB.out | apply below_alloc | apply pw_below_drewN | apply below_drew1) | exact HB.out))) : w.heap.size ≤ gb190)); have n4_ := Aside0.mk ((by rw [hg]; exact (below_size (by repeat (first | (with_reducible first | exact HB.out | apply below_alloc | apply pw_below_drewN | apply below_drew1) | exact HB.out))) : w.heap.size ≤ gb190)); clear HO_4; clear HB; have HO_4 := n0_; have HB := n1_; have BK190 := n2_; have GW190 := n3_; have GE190 := n4_; clear n0_ n1_ n2_ n3_ n4_; clear hb hbox hg; have hcz16_0 : w15.cell? ⟨gb190, 0, none⟩ = some (.int .i64 0) := (blk_cell BK190.out 0).trans rfl; have hcz16_1 : w15.cell? ⟨gb190, 1, none⟩ = some (.int .i64 0) := (blk_cell BK190.out 1).trans rfl; have hcz16_2 : w15.cell? ⟨gb190, 2, none⟩ = some (.int .i64 0) := (blk_cell BK190.out 2).trans rfl; have hcz16_3 : w15.cell? ⟨gb190, 3, none⟩ = some (.int .i64 0) := (blk_cell BK190.out 3).trans rfl; have hfz16_0 := blk_frozen BK190.out 0; have hfz16_1 := blk_frozen BK190.out 1; have hfz16_2 := blk_frozen BK190.out 2; have hfz16_3 := blk_frozen BK190.out 3))
      go_ret2
      exact ⟨_, by first | rfl | (simp [errW_none, errW_some] <;> rfl) | (simp [*, errW_none, errW_some] <;> rfl), by first | exact Kd.R_nil _ _ _ _ _ | exact Kd.N_nil _ _ _ _ _ | exact Kd.V_nil _ _ _ _ _ | exact Kd.Q_nil _ _ _ _ _ | exact Kd.S_nil _ _ _ _ _, by repeat (first | (with_reducible first | exact HB.out | apply below_alloc | apply pw_below_drewN | apply below_drew1 | refine below_set ?_ GE190.out) | exact HB.out)⟩
    ·replace c4 := Bool.eq_false_iff.mpr c4
     subst c4
     have H1 : (some (([] : List (S44)), false)) = some (r1, r2) := by rw [if_neg (show ¬ (false = true) by decide)] at H; exact H
     clear H
     have H := H1
     clear H1
     simp only [Option.some.injEq, Prod.mk.injEq] at H
     obtain ⟨rfl, rfl⟩ := H
     go_wp2_with (first | ((with_reducible refine gate_callee (f := 39) rfl ?_); refine goesL_ (some 13) rfl rfl Tryd.func39 (by kernel_rfl) rfl #[.string x0_1, .string (⟨#[10]⟩ : ByteArray)] rfl (by (try simp only [List.map_toArray, List.map_cons, List.map_nil]); first | done | rfl | (simp only [List.length_drop, List.length_take]; rfl)) ?_; (with_reducible refine (strings_Cut.calls (hT := ?sideT) x0_1 (⟨#[10]⟩ : ByteArray) t182 t183 false _ A3.out).mono ?_); (case sideT => first | with_reducible exact HT.out | refine TabW.below HT.out ?_; repeat (first | (with_reducible first | exact HB.out | apply below_alloc | apply pw_below_drewN | apply below_drew1 | refine below_set ?_ GE190.out) | exact HB.out | exact Below.refl _ _)); rintro e w17 ⟨rfl, hb⟩; refine ⟨_, rfl, ?_⟩; have n0_ := Aside0.mk (Kd.R_below (by (with_reducible repeat (first | apply Kd.R_alloc | apply Kd.R_drewN | apply Kd.R_drew)); exact HO_4.out) hb); have n1_ := Aside0.mk (below_step (by repeat (first | (with_reducible first | exact HB.out | apply below_alloc | apply pw_below_drewN | apply below_drew1) | exact HB.out)) hb); clear HO_4; clear HB; have HO_4 := n0_; have HB := n1_; clear n0_ n1_; (try clear hb); (try clear hb2); (try clear hk); (try clear hi)))
     go_ret2
     exact ⟨_, by first | rfl | (simp [errW_none, errW_some] <;> rfl) | (simp [*, errW_none, errW_some] <;> rfl), by first | exact Kd.R_nil _ _ _ _ _ | exact Kd.N_nil _ _ _ _ _ | exact Kd.V_nil _ _ _ _ _ | exact Kd.Q_nil _ _ _ _ _ | exact Kd.S_nil _ _ _ _ _, by repeat (first | (with_reducible first | exact HB.out | apply below_alloc | apply pw_below_drewN | apply below_drew1) | exact HB.out)⟩
def taskmasterref7_Digits.f : Nat → Int → Option (ByteArray)
 | 0, _ => none
 | k + 1, a0 => (some (([(wrap64 (48 + (Int.tmod a0 10))) % 256] : List Int) : List Int)).bind fun y194 => (if a0 ≥ 10 then ((taskmasterref7_Digits.f k (wrap64 (Int.tdiv a0 10))).bind fun t197 => (if t197.size + (strOfNums y194).size ≤ 9223372036854775807 then (some (t197 ++ (strOfNums y194))) else (none))) else (some (strOfNums y194)))
set_option maxHeartbeats 8000000 in
set_option maxRecDepth 100000 in
theorem taskmasterref7_Digits.calls (k : Nat) : ∀ (a0 : Int) (r : ByteArray) (w : World) (h : taskmasterref7_Digits.f k a0 = some r),
  Calls Tryd.prog 18 #[.int .i64 a0] w fun e w' => e = .returned (.string r) ∧ Below w.heap.size w w' := by
 induction k using Nat.strongRecOn with
 | _ k ih =>
 intro a0 r w h
 cases k with
 | zero => exact absurd h (by simp [taskmasterref7_Digits.f])
 | succ k =>
 simp only [taskmasterref7_Digits.f] at h
 have HB := Aside0.mk (Below.refl w.heap.size w)
 have H : ((some (([(wrap64 (48 + (Int.tmod a0 10))) % 256] : List Int) : List Int)).bind fun y194 => (if a0 ≥ 10 then ((taskmasterref7_Digits.f k (wrap64 (Int.tdiv a0 10))).bind fun t197 => (if t197.size + (strOfNums y194).size ≤ 9223372036854775807 then (some (t197 ++ (strOfNums y194))) else (none))) else (some (strOfNums y194)))) = some r := h
 clear h
 obtain ⟨y194, hy194⟩ : ∃ y_ : List Int, y_ = (([(wrap64 (48 + (Int.tmod a0 10))) % 256] : List Int)) := ⟨_, rfl⟩
 replace H : (if a0 ≥ 10 then ((taskmasterref7_Digits.f k (wrap64 (Int.tdiv a0 10))).bind fun t197 => (if t197.size + (strOfNums y194).size ≤ 9223372036854775807 then (some (t197 ++ (strOfNums y194))) else (none))) else (some (strOfNums y194))) = some r := by first | (rw [hy194]; with_reducible exact H) | (have H2_ := (Option.bind_some _ _).symm.trans H; rw [hy194]; with_reducible exact H2_) | (have H2_ := (Option.bind_some _ _).symm.trans H; with_reducible exact H2_) | with_reducible exact H | (rw [hy194]; exact H) | exact H
 have Ny194 := Aside0.mk hy194
 clear hy194
 by_cases c2 : a0 ≥ 10
 ·rw [if_pos c2] at H
  have c2b0 : decide (10 ≤ a0) = true := decide_eq_true c2
  clear c2
  replace H := Option.bind_eq_some_iff.mp H
  obtain ⟨t197, A30, H⟩ := H
  replace H : (if t197.size + (strOfNums y194).size ≤ 9223372036854775807 then (some (t197 ++ (strOfNums y194))) else (none)) = some r := H
  have A3 := Aside0.mk A30
  clear A30
  by_cases c4 : t197.size + (strOfNums y194).size ≤ 9223372036854775807
  ·rw [if_pos c4] at H
   have c4b0 := eq_true c4
   have c4b1 : decide (t197.size + (strOfNums y194).size ≤ 9223372036854775807) = true := decide_eq_true c4
   try have c4b2 : (9223372036854775807 < t197.size + (strOfNums y194).size) = False := eq_false (Nat.not_lt.2 c4)
   obtain rfl := Option.some.inj H
   go_enter Tryd.func18, Tryd.ntmps18
   go_wp2_with (first | ((with_reducible refine gate_dst (N := 8) rfl ?_); refine Kd.R_lit (Kd.int .u8) _ 5 ?hg (N := 8) ?hd (xs := ([(wrap64 (48 + (Int.tmod a0 10))) % 256] : List Int)) (inner := [.int .u8 ((wrap64 (48 + (Int.tmod a0 10))) % 256)]) (ok := fun _ => True) (okp := fun _ => True) ?hr ?hp (fun _ hk => hk) trivial (Below.refl _ _) (Nat.le_refl _) (by simp) ?_; (case hd => rfl); (case hg => rfl); (case hr => first | (go_simp; done) | (go_simp; rfl)); (case hp => exact (Reps.one (show Kd.M (Kd.int .u8) _ _ _ ((wrap64 (48 + (Int.tmod a0 10))) % 256) [.int .u8 ((wrap64 (48 + (Int.tmod a0 10))) % 256)] from rfl) (Reps.none _ _))); intro v195 w5 ho6 hb hg_ hnew_; clear hg_ hnew_; (first | rw [← Ny194.out] at ho6 | (simp only [Int.reduceToNat] at ho6; rw [← Ny194.out] at ho6)); have n0_ := Aside0.mk (Kd.R_lower ho6 (below_size (by repeat (first | (with_reducible first | exact HB.out | apply below_alloc | apply pw_below_drewN | apply below_drew1) | exact HB.out)))); have n1_ := Aside0.mk (below_step (by repeat (first | (with_reducible first | exact HB.out | apply below_alloc | apply pw_below_drewN | apply below_drew1) | exact HB.out)) hb); clear HB; have HO196 := n0_; have HB := n1_; clear n0_ n1_; clear hb ho6; have hcv7 := own_string (P := Tryd.prog) Tryd.underlying68 Tryd.underlying5 Tryd.underlying9 (Kd.own_of_R HO196.out)) | ((with_reducible refine gate_callee (f := 18) rfl ?_); refine goesL_ (some 14) rfl rfl Tryd.func18 (by kernel_rfl) rfl #[.int .i64 (wrap64 (Int.tdiv a0 10))] rfl (by (try simp only [List.map_toArray, List.map_cons, List.map_nil]); first | done | rfl | (simp only [List.length_drop, List.length_take]; rfl)) ?_; (with_reducible refine (ih k (by omega) (wrap64 (Int.tdiv a0 10)) t197 _ A3.out).mono ?_); rintro e w8 ⟨rfl, hb⟩; refine ⟨_, rfl, ?_⟩; have n0_ := Aside0.mk (Kd.R_below (by (with_reducible repeat (first | apply Kd.R_alloc | apply Kd.R_drewN | apply Kd.R_drew)); exact HO196.out) hb); have n1_ := Aside0.mk (below_step (by repeat (first | (with_reducible first | exact HB.out | apply below_alloc | apply pw_below_drewN | apply below_drew1) | exact HB.out)) hb); clear HO196; clear HB; have HO196 := n0_; have HB := n1_; clear n0_ n1_; (try clear hb); (try clear hb2); (try clear hk); (try clear hi)))
   go_ret
   exact ⟨by first | rfl | (simp [errW_none, errW_some] <;> rfl) | (simp [*, errW_none, errW_some] <;> rfl), by repeat (first | (with_reducible first | exact HB.out | apply below_alloc | apply pw_below_drewN | apply below_drew1) | exact HB.out)⟩
  ·rw [if_neg c4] at H
   exact absurd H (by simp)
 ·rw [if_neg c2] at H
  have c2b0 : decide (10 ≤ a0) = false := decide_eq_false c2
  clear c2
  obtain rfl := Option.some.inj H
  go_enter Tryd.func18, Tryd.ntmps18
  go_wp2_with (first | ((with_reducible refine gate_dst (N := 8) rfl ?_); refine Kd.R_lit (Kd.int .u8) _ 5 ?hg (N := 8) ?hd (xs := ([(wrap64 (48 + (Int.tmod a0 10))) % 256] : List Int)) (inner := [.int .u8 ((wrap64 (48 + (Int.tmod a0 10))) % 256)]) (ok := fun _ => True) (okp := fun _ => True) ?hr ?hp (fun _ hk => hk) trivial (Below.refl _ _) (Nat.le_refl _) (by simp) ?_; (case hd => rfl); (case hg => rfl); (case hr => first | (go_simp; done) | (go_simp; rfl)); (case hp => exact (Reps.one (show Kd.M (Kd.int .u8) _ _ _ ((wrap64 (48 + (Int.tmod a0 10))) % 256) [.int .u8 ((wrap64 (48 + (Int.tmod a0 10))) % 256)] from rfl) (Reps.none _ _))); intro v195 w9 ho10 hb hg_ hnew_; clear hg_ hnew_; (first | rw [← Ny194.out] at ho10 | (simp only [Int.reduceToNat] at ho10; rw [← Ny194.out] at ho10)); have n0_ := Aside0.mk (Kd.R_lower ho10 (below_size (by repeat (first | (with_reducible first | exact HB.out | apply below_alloc | apply pw_below_drewN | apply below_drew1) | exact HB.out)))); have n1_ := Aside0.mk (below_step (by repeat (first | (with_reducible first | exact HB.out | apply below_alloc | apply pw_below_drewN | apply below_drew1) | exact HB.out)) hb); clear HB; have HO196 := n0_; have HB := n1_; clear n0_ n1_; clear hb ho10; have hcv11 := own_string (P := Tryd.prog) Tryd.underlying68 Tryd.underlying5 Tryd.underlying9 (Kd.own_of_R HO196.out)))
  go_ret
  exact ⟨by first | rfl | (simp [errW_none, errW_some] <;> rfl) | (simp [*, errW_none, errW_some] <;> rfl), by repeat (first | (with_reducible first | exact HB.out | apply below_alloc | apply pw_below_drewN | apply below_drew1) | exact HB.out)⟩
def taskmasterref26_Words.f  : Option (List ByteArray) := some (([(⟨#[]⟩ : ByteArray), (⟨#[97, 100, 109, 105, 116]⟩ : ByteArray), (⟨#[114, 101, 102, 117, 115, 101]⟩ : ByteArray), (⟨#[108, 97, 116, 101]⟩ : ByteArray), (⟨#[115, 116, 97, 114, 116]⟩ : ByteArray), (⟨#[112, 114, 101, 101, 109, 112, 116]⟩ : ByteArray), (⟨#[114, 101, 115, 117, 109, 101]⟩ : ByteArray), (⟨#[114, 101, 103, 105, 111, 110]⟩ : ByteArray), (⟨#[102, 105, 110, 105, 115, 104]⟩ : ByteArray), (⟨#[97, 98, 111, 114, 116]⟩ : ByteArray), (⟨#[105, 100, 108, 101]⟩ : ByteArray)] : List ByteArray))
set_option maxHeartbeats 8000000 in
set_option maxRecDepth 100000 in
theorem taskmasterref26_Words.calls  (r : List ByteArray) (w : World) (h : taskmasterref26_Words.f  = some r) :
  Calls Tryd.prog 45 #[] w fun e w' => ∃ v0_ : Value, e = .returned (v0_) ∧ Kd.R Kd.string 9 w' w.heap.size (fun _ => True) v0_ r ∧ Below w.heap.size w w' := by
 have HB := Aside0.mk (Below.refl w.heap.size w)
 have H : (some (([(⟨#[]⟩ : ByteArray), (⟨#[97, 100, 109, 105, 116]⟩ : ByteArray), (⟨#[114, 101, 102, 117, 115, 101]⟩ : ByteArray), (⟨#[108, 97, 116, 101]⟩ : ByteArray), (⟨#[115, 116, 97, 114, 116]⟩ : ByteArray), (⟨#[112, 114, 101, 101, 109, 112, 116]⟩ : ByteArray), (⟨#[114, 101, 115, 117, 109, 101]⟩ : ByteArray), (⟨#[114, 101, 103, 105, 111, 110]⟩ : ByteArray), (⟨#[102, 105, 110, 105, 115, 104]⟩ : ByteArray), (⟨#[97, 98, 111, 114, 116]⟩ : ByteArray), (⟨#[105, 100, 108, 101]⟩ : ByteArray)] : List ByteArray))) = some r := h
 clear h
 obtain ⟨y198, hy198⟩ : ∃ y_ : List ByteArray, y_ = (([(⟨#[]⟩ : ByteArray), (⟨#[97, 100, 109, 105, 116]⟩ : ByteArray), (⟨#[114, 101, 102, 117, 115, 101]⟩ : ByteArray), (⟨#[108, 97, 116, 101]⟩ : ByteArray), (⟨#[115, 116, 97, 114, 116]⟩ : ByteArray), (⟨#[112, 114, 101, 101, 109, 112, 116]⟩ : ByteArray), (⟨#[114, 101, 115, 117, 109, 101]⟩ : ByteArray), (⟨#[114, 101, 103, 105, 111, 110]⟩ : ByteArray), (⟨#[102, 105, 110, 105, 115, 104]⟩ : ByteArray), (⟨#[97, 98, 111, 114, 116]⟩ : ByteArray), (⟨#[105, 100, 108, 101]⟩ : ByteArray)] : List ByteArray)) := ⟨_, rfl⟩
 replace H : (some y198) = some r := by first | (rw [hy198]; with_reducible exact H) | (have H2_ := (Option.bind_some _ _).symm.trans H; rw [hy198]; with_reducible exact H2_) | (have H2_ := (Option.bind_some _ _).symm.trans H; with_reducible exact H2_) | with_reducible exact H | (rw [hy198]; exact H) | exact H
 have Ny198 := Aside0.mk hy198
 clear hy198
 obtain rfl := Option.some.inj H
 go_enter Tryd.func45, Tryd.ntmps45
 go_wp2_with (first | ((with_reducible refine gate_dst (N := 1) rfl ?_); refine Kd.R_lit Kd.string _ 9 ?hg (N := 1) ?hd (xs := ([(⟨#[]⟩ : ByteArray), (⟨#[97, 100, 109, 105, 116]⟩ : ByteArray), (⟨#[114, 101, 102, 117, 115, 101]⟩ : ByteArray), (⟨#[108, 97, 116, 101]⟩ : ByteArray), (⟨#[115, 116, 97, 114, 116]⟩ : ByteArray), (⟨#[112, 114, 101, 101, 109, 112, 116]⟩ : ByteArray), (⟨#[114, 101, 115, 117, 109, 101]⟩ : ByteArray), (⟨#[114, 101, 103, 105, 111, 110]⟩ : ByteArray), (⟨#[102, 105, 110, 105, 115, 104]⟩ : ByteArray), (⟨#[97, 98, 111, 114, 116]⟩ : ByteArray), (⟨#[105, 100, 108, 101]⟩ : ByteArray)] : List ByteArray)) (inner := [.string (⟨#[]⟩ : ByteArray), .string (⟨#[97, 100, 109, 105, 116]⟩ : ByteArray), .string (⟨#[114, 101, 102, 117, 115, 101]⟩ : ByteArray), .string (⟨#[108, 97, 116, 101]⟩ : ByteArray), .string (⟨#[115, 116, 97, 114, 116]⟩ : ByteArray), .string (⟨#[112, 114, 101, 101, 109, 112, 116]⟩ : ByteArray), .string (⟨#[114, 101, 115, 117, 109, 101]⟩ : ByteArray), .string (⟨#[114, 101, 103, 105, 111, 110]⟩ : ByteArray), .string (⟨#[102, 105, 110, 105, 115, 104]⟩ : ByteArray), .string (⟨#[97, 98, 111, 114, 116]⟩ : ByteArray), .string (⟨#[105, 100, 108, 101]⟩ : ByteArray)]) (ok := fun _ => True) (okp := fun _ => True) ?hr ?hp (fun _ hk => hk) trivial (Below.refl _ _) (Nat.le_refl _) (by simp) ?_; (case hd => rfl); (case hg => rfl); (case hr => first | (go_simp; done) | (go_simp; rfl)); (case hp => exact (Reps.one (show Kd.M Kd.string _ _ _ (⟨#[]⟩ : ByteArray) [.string (⟨#[]⟩ : ByteArray)] from rfl) (Reps.one (show Kd.M Kd.string _ _ _ (⟨#[97, 100, 109, 105, 116]⟩ : ByteArray) [.string (⟨#[97, 100, 109, 105, 116]⟩ : ByteArray)] from rfl) (Reps.one (show Kd.M Kd.string _ _ _ (⟨#[114, 101, 102, 117, 115, 101]⟩ : ByteArray) [.string (⟨#[114, 101, 102, 117, 115, 101]⟩ : ByteArray)] from rfl) (Reps.one (show Kd.M Kd.string _ _ _ (⟨#[108, 97, 116, 101]⟩ : ByteArray) [.string (⟨#[108, 97, 116, 101]⟩ : ByteArray)] from rfl) (Reps.one (show Kd.M Kd.string _ _ _ (⟨#[115, 116, 97, 114, 116]⟩ : ByteArray) [.string (⟨#[115, 116, 97, 114, 116]⟩ : ByteArray)] from rfl) (Reps.one (show Kd.M Kd.string _ _ _ (⟨#[112, 114, 101, 101, 109, 112, 116]⟩ : ByteArray) [.string (⟨#[112, 114, 101, 101, 109, 112, 116]⟩ : ByteArray)] from rfl) (Reps.one (show Kd.M Kd.string _ _ _ (⟨#[114, 101, 115, 117, 109, 101]⟩ : ByteArray) [.string (⟨#[114, 101, 115, 117, 109, 101]⟩ : ByteArray)] from rfl) (Reps.one (show Kd.M Kd.string _ _ _ (⟨#[114, 101, 103, 105, 111, 110]⟩ : ByteArray) [.string (⟨#[114, 101, 103, 105, 111, 110]⟩ : ByteArray)] from rfl) (Reps.one (show Kd.M Kd.string _ _ _ (⟨#[102, 105, 110, 105, 115, 104]⟩ : ByteArray) [.string (⟨#[102, 105, 110, 105, 115, 104]⟩ : ByteArray)] from rfl) (Reps.one (show Kd.M Kd.string _ _ _ (⟨#[97, 98, 111, 114, 116]⟩ : ByteArray) [.string (⟨#[97, 98, 111, 114, 116]⟩ : ByteArray)] from rfl) (Reps.one (show Kd.M Kd.string _ _ _ (⟨#[105, 100, 108, 101]⟩ : ByteArray) [.string (⟨#[105, 100, 108, 101]⟩ : ByteArray)] from rfl) (Reps.none _ _))))))))))))); intro v199 w1 ho2 hb hg_ hnew_; clear hg_ hnew_; (first | rw [← Ny198.out] at ho2 | (simp only [Int.reduceToNat] at ho2; rw [← Ny198.out] at ho2)); have n0_ := Aside0.mk (Kd.R_lower ho2 (below_size (by repeat (first | (with_reducible first | exact HB.out | apply below_alloc | apply pw_below_drewN | apply below_drew1) | exact HB.out)))); have n1_ := Aside0.mk (below_step (by repeat (first | (with_reducible first | exact HB.out | apply below_alloc | apply pw_below_drewN | apply below_drew1) | exact HB.out)) hb); clear HB; have HO200 := n0_; have HB := n1_; clear n0_ n1_; clear hb ho2))
 go_ret
 exact ⟨_, by first | rfl | (simp [errW_none, errW_some] <;> rfl) | (simp [*, errW_none, errW_some] <;> rfl), by (with_reducible repeat (first | apply Kd.R_alloc | apply Kd.R_drewN | apply Kd.R_drew)); exact HO200.out, by repeat (first | (with_reducible first | exact HB.out | apply below_alloc | apply pw_below_drewN | apply below_drew1) | exact HB.out)⟩
def taskmasterref26_Is.j0 : Nat → Bool → Int → Int → Int → Int → Option (Bool)
 | 0, _, _, _, _, _ => none
 | k + 1, x30, x202000, x202001, x202002, x202003 => if x30 = true then (some false) else (if x202001 = 10 then (some (x202002 == (-1))) else (if x202002 ≥ 0 then (some (decide (x202002 < 8))) else (some false)))
def taskmasterref26_Is.f (k : Nat) (a0_0 : Int) (a0_1 : Int) (a0_2 : Int) (a0_3 : Int) : Option (Bool) := if a0_0 < 0 then (taskmasterref26_Is.j0 k true a0_0 a0_1 a0_2 a0_3) else (if a0_0 > 1099511627776 then (taskmasterref26_Is.j0 k true a0_0 a0_1 a0_2 a0_3) else (if a0_3 < 0 then (taskmasterref26_Is.j0 k true a0_0 a0_1 a0_2 a0_3) else (if a0_3 > 1099511627776 then (taskmasterref26_Is.j0 k true a0_0 a0_1 a0_2 a0_3) else (if a0_1 < 1 then (taskmasterref26_Is.j0 k true a0_0 a0_1 a0_2 a0_3) else (taskmasterref26_Is.j0 k (decide (a0_1 > 10)) a0_0 a0_1 a0_2 a0_3)))))
set_option maxHeartbeats 8000000 in
set_option maxRecDepth 100000 in
theorem taskmasterref26_Is.calls (k : Nat) (a0_0 : Int) (a0_1 : Int) (a0_2 : Int) (a0_3 : Int) (r : Bool) (w : World) (h : taskmasterref26_Is.f k a0_0 a0_1 a0_2 a0_3 = some r) :
  Calls Tryd.prog 46 #[.agg #[.int .i64 a0_0, .int .i64 a0_1, .int .i64 a0_2, .int .i64 a0_3]] w fun e w' => e = .returned (.bool r) ∧ Below w.heap.size w w' := by
 have hu44 := Tryd.underlying44
 have HB := Aside0.mk (Below.refl w.heap.size w)
 have H : (if a0_0 < 0 then (taskmasterref26_Is.j0 k true a0_0 a0_1 a0_2 a0_3) else (if a0_0 > 1099511627776 then (taskmasterref26_Is.j0 k true a0_0 a0_1 a0_2 a0_3) else (if a0_3 < 0 then (taskmasterref26_Is.j0 k true a0_0 a0_1 a0_2 a0_3) else (if a0_3 > 1099511627776 then (taskmasterref26_Is.j0 k true a0_0 a0_1 a0_2 a0_3) else (if a0_1 < 1 then (taskmasterref26_Is.j0 k true a0_0 a0_1 a0_2 a0_3) else (taskmasterref26_Is.j0 k (decide (a0_1 > 10)) a0_0 a0_1 a0_2 a0_3)))))) = some r := h
 clear h
 have HC2 := Aside0.mk H
 clear H
 go_enter Tryd.func46, Tryd.ntmps46
 go_upto_region 1 with (first | ((with_reducible refine gate_dst (N := 1) rfl ?_); refine box_event ?hg (N := 1) ?hd (cs := #[.int .i64 a0_0, .int .i64 a0_1, .int .i64 a0_2, .int .i64 a0_3]) (t := 44) ?hr ?_; (case hd => rfl); (case hg => rfl); (case hr => first | (go_simp; done) | (go_simp; rfl)); intro gb201 hg w3 hbox hb; have n0_ := Aside0.mk (below_step (by repeat (first | (with_reducible first | exact HB.out | apply below_alloc | apply pw_below_drewN | apply below_drew1) | exact HB.out)) hb); have n1_ := Aside0.mk (hbox); have n2_ := Aside0.mk ((by rw [hg]; exact (below_size (by repeat (first | (with_reducible first | exact HB.out | apply below_alloc | apply pw_below_drewN | apply below_drew1) | exact HB.out))) : w.heap.size ≤ gb201)); have n3_ := Aside0.mk ((by rw [hg]; exact (below_size (by repeat (first | (with_reducible first | exact HB.out | apply below_alloc | apply pw_below_drewN | apply below_drew1) | exact HB.out))) : w.heap.size ≤ gb201)); clear HB; have HB := n0_; have BK201 := n1_; have GW201 := n2_; have GE201 := n3_; clear n0_ n1_ n2_ n3_; clear hb hbox hg))
 (try simp only [Act.put, List.setIfInBounds_toArray, List.set_cons_zero, List.set_cons_succ])
 go_cut [30] (fun v30 wc => ∃ (kq : Nat) (x30_1 : Bool), v30 = .bool x30_1 ∧ Aside0 (taskmasterref26_Is.j0 kq x30_1 a0_0 a0_1 a0_2 a0_3 = some r) ∧ Aside0 (kq ≤ k) ∧ Aside0 (wc.heap[gb201]? = some (.cells #[.int .i64 a0_0, .int .i64 a0_1, .int .i64 a0_2, .int .i64 a0_3] 44 (0, 0))) ∧ Aside0 (Below w.heap.size w wc))
 case first =>
  have H := HC2.out
  clear HC2
  by_cases c4 : a0_0 < 0
  ·rw [if_pos c4] at H
   have c4b0 : decide (a0_0 < 0) = true := decide_eq_true c4
   clear c4
   (first | rw [c4b0] | (simp only [i64_w, i32_w]; rw [c4b0]) | skip)
   have H' := Aside0.mk H
   clear H
   have hcz5_0 : w3.cell? ⟨gb201, 0, none⟩ = some (.int .i64 a0_0) := (blk_cell BK201.out 0).trans rfl
   have hcz5_1 : w3.cell? ⟨gb201, 1, none⟩ = some (.int .i64 a0_1) := (blk_cell BK201.out 1).trans rfl
   have hcz5_2 : w3.cell? ⟨gb201, 2, none⟩ = some (.int .i64 a0_2) := (blk_cell BK201.out 2).trans rfl
   have hcz5_3 : w3.cell? ⟨gb201, 3, none⟩ = some (.int .i64 a0_3) := (blk_cell BK201.out 3).trans rfl
   have hfz5_0 := blk_frozen BK201.out 0
   have hfz5_1 := blk_frozen BK201.out 1
   have hfz5_2 := blk_frozen BK201.out 2
   have hfz5_3 := blk_frozen BK201.out 3
   go_wp2
   go_meet
   case rel => exact ⟨_, (true), (by first | rfl | (simp; done) | (simp [*]; done)), H', ⟨by first | omega | exact Nat.le_refl _⟩, ⟨by (with_reducible repeat (first | refine blk_drewN ?_ _ | refine blk_drew ?_ | refine blk_alloc ?_ _)); exact BK201.out⟩, ⟨by repeat (first | (with_reducible first | exact HB.out | apply below_alloc | apply pw_below_drewN | apply below_drew1 | refine below_set ?_ GE201.out) | exact HB.out)⟩⟩
  ·rw [if_neg c4] at H
   have c4b0 : decide (a0_0 < 0) = false := decide_eq_false c4
   clear c4
   (first | rw [c4b0] | (simp only [i64_w, i32_w]; rw [c4b0]) | skip)
   by_cases c6 : a0_0 > 1099511627776
   ·rw [if_pos c6] at H
    have c6b0 : decide (1099511627776 < a0_0) = true := decide_eq_true c6
    clear c6
    have H' := Aside0.mk H
    clear H
    have hcz7_0 : w3.cell? ⟨gb201, 0, none⟩ = some (.int .i64 a0_0) := (blk_cell BK201.out 0).trans rfl
    have hcz7_1 : w3.cell? ⟨gb201, 1, none⟩ = some (.int .i64 a0_1) := (blk_cell BK201.out 1).trans rfl
    have hcz7_2 : w3.cell? ⟨gb201, 2, none⟩ = some (.int .i64 a0_2) := (blk_cell BK201.out 2).trans rfl
    have hcz7_3 : w3.cell? ⟨gb201, 3, none⟩ = some (.int .i64 a0_3) := (blk_cell BK201.out 3).trans rfl
    have hfz7_0 := blk_frozen BK201.out 0
    have hfz7_1 := blk_frozen BK201.out 1
    have hfz7_2 := blk_frozen BK201.out 2
    have hfz7_3 := blk_frozen BK201.out 3
    go_wp2
    go_meet
    case rel => exact ⟨_, (true), (by first | rfl | (simp; done) | (simp [*]; done)), H', ⟨by first | omega | exact Nat.le_refl _⟩, ⟨by (with_reducible repeat (first | refine blk_drewN ?_ _ | refine blk_drew ?_ | refine blk_alloc ?_ _)); exact BK201.out⟩, ⟨by repeat (first | (with_reducible first | exact HB.out | apply below_alloc | apply pw_below_drewN | apply below_drew1 | refine below_set ?_ GE201.out) | exact HB.out)⟩⟩
   ·rw [if_neg c6] at H
    have c6b0 : decide (1099511627776 < a0_0) = false := decide_eq_false c6
    clear c6
    by_cases c8 : a0_3 < 0
    ·rw [if_pos c8] at H
     have c8b0 : decide (a0_3 < 0) = true := decide_eq_true c8
     clear c8
     have H' := Aside0.mk H
     clear H
     have hcz9_0 : w3.cell? ⟨gb201, 0, none⟩ = some (.int .i64 a0_0) := (blk_cell BK201.out 0).trans rfl
     have hcz9_1 : w3.cell? ⟨gb201, 1, none⟩ = some (.int .i64 a0_1) := (blk_cell BK201.out 1).trans rfl
     have hcz9_2 : w3.cell? ⟨gb201, 2, none⟩ = some (.int .i64 a0_2) := (blk_cell BK201.out 2).trans rfl
     have hcz9_3 : w3.cell? ⟨gb201, 3, none⟩ = some (.int .i64 a0_3) := (blk_cell BK201.out 3).trans rfl
     have hfz9_0 := blk_frozen BK201.out 0
     have hfz9_1 := blk_frozen BK201.out 1
     have hfz9_2 := blk_frozen BK201.out 2
     have hfz9_3 := blk_frozen BK201.out 3
     go_wp2
     go_meet
     case rel => exact ⟨_, (true), (by first | rfl | (simp; done) | (simp [*]; done)), H', ⟨by first | omega | exact Nat.le_refl _⟩, ⟨by (with_reducible repeat (first | refine blk_drewN ?_ _ | refine blk_drew ?_ | refine blk_alloc ?_ _)); exact BK201.out⟩, ⟨by repeat (first | (with_reducible first | exact HB.out | apply below_alloc | apply pw_below_drewN | apply below_drew1 | refine below_set ?_ GE201.out) | exact HB.out)⟩⟩
    ·rw [if_neg c8] at H
     have c8b0 : decide (a0_3 < 0) = false := decide_eq_false c8
     clear c8
     by_cases c10 : a0_3 > 1099511627776
     ·rw [if_pos c10] at H
      have c10b0 : decide (1099511627776 < a0_3) = true := decide_eq_true c10
      clear c10
      have H' := Aside0.mk H
      clear H
      have hcz11_0 : w3.cell? ⟨gb201, 0, none⟩ = some (.int .i64 a0_0) := (blk_cell BK201.out 0).trans rfl
      have hcz11_1 : w3.cell? ⟨gb201, 1, none⟩ = some (.int .i64 a0_1) := (blk_cell BK201.out 1).trans rfl
      have hcz11_2 : w3.cell? ⟨gb201, 2, none⟩ = some (.int .i64 a0_2) := (blk_cell BK201.out 2).trans rfl
      have hcz11_3 : w3.cell? ⟨gb201, 3, none⟩ = some (.int .i64 a0_3) := (blk_cell BK201.out 3).trans rfl
      have hfz11_0 := blk_frozen BK201.out 0
      have hfz11_1 := blk_frozen BK201.out 1
      have hfz11_2 := blk_frozen BK201.out 2
      have hfz11_3 := blk_frozen BK201.out 3
      go_wp2
      go_meet
      case rel => exact ⟨_, (true), (by first | rfl | (simp; done) | (simp [*]; done)), H', ⟨by first | omega | exact Nat.le_refl _⟩, ⟨by (with_reducible repeat (first | refine blk_drewN ?_ _ | refine blk_drew ?_ | refine blk_alloc ?_ _)); exact BK201.out⟩, ⟨by repeat (first | (with_reducible first | exact HB.out | apply below_alloc | apply pw_below_drewN | apply below_drew1 | refine below_set ?_ GE201.out) | exact HB.out)⟩⟩
     ·rw [if_neg c10] at H
      have c10b0 : decide (1099511627776 < a0_3) = false := decide_eq_false c10
      clear c10
      by_cases c12 : a0_1 < 1
      ·rw [if_pos c12] at H
       have c12b0 : decide (a0_1 < 1) = true := decide_eq_true c12
       clear c12
       have H' := Aside0.mk H
       clear H
       have hcz13_0 : w3.cell? ⟨gb201, 0, none⟩ = some (.int .i64 a0_0) := (blk_cell BK201.out 0).trans rfl
       have hcz13_1 : w3.cell? ⟨gb201, 1, none⟩ = some (.int .i64 a0_1) := (blk_cell BK201.out 1).trans rfl
       have hcz13_2 : w3.cell? ⟨gb201, 2, none⟩ = some (.int .i64 a0_2) := (blk_cell BK201.out 2).trans rfl
       have hcz13_3 : w3.cell? ⟨gb201, 3, none⟩ = some (.int .i64 a0_3) := (blk_cell BK201.out 3).trans rfl
       have hfz13_0 := blk_frozen BK201.out 0
       have hfz13_1 := blk_frozen BK201.out 1
       have hfz13_2 := blk_frozen BK201.out 2
       have hfz13_3 := blk_frozen BK201.out 3
       go_wp2
       go_meet
       case rel => exact ⟨_, (true), (by first | rfl | (simp; done) | (simp [*]; done)), H', ⟨by first | omega | exact Nat.le_refl _⟩, ⟨by (with_reducible repeat (first | refine blk_drewN ?_ _ | refine blk_drew ?_ | refine blk_alloc ?_ _)); exact BK201.out⟩, ⟨by repeat (first | (with_reducible first | exact HB.out | apply below_alloc | apply pw_below_drewN | apply below_drew1 | refine below_set ?_ GE201.out) | exact HB.out)⟩⟩
      ·rw [if_neg c12] at H
       have c12b0 : decide (a0_1 < 1) = false := decide_eq_false c12
       clear c12
       have H' := Aside0.mk H
       clear H
       have hcz14_0 : w3.cell? ⟨gb201, 0, none⟩ = some (.int .i64 a0_0) := (blk_cell BK201.out 0).trans rfl
       have hcz14_1 : w3.cell? ⟨gb201, 1, none⟩ = some (.int .i64 a0_1) := (blk_cell BK201.out 1).trans rfl
       have hcz14_2 : w3.cell? ⟨gb201, 2, none⟩ = some (.int .i64 a0_2) := (blk_cell BK201.out 2).trans rfl
       have hcz14_3 : w3.cell? ⟨gb201, 3, none⟩ = some (.int .i64 a0_3) := (blk_cell BK201.out 3).trans rfl
       have hfz14_0 := blk_frozen BK201.out 0
       have hfz14_1 := blk_frozen BK201.out 1
       have hfz14_2 := blk_frozen BK201.out 2
       have hfz14_3 := blk_frozen BK201.out 3
       go_wp2
       go_meet
       case rel => exact ⟨_, (decide (a0_1 > 10)), (by first | rfl | (simp; done) | (simp [*]; done)), H', ⟨by first | omega | exact Nat.le_refl _⟩, ⟨by (with_reducible repeat (first | refine blk_drewN ?_ _ | refine blk_drew ?_ | refine blk_alloc ?_ _)); exact BK201.out⟩, ⟨by repeat (first | (with_reducible first | exact HB.out | apply below_alloc | apply pw_below_drewN | apply below_drew1 | refine below_set ?_ GE201.out) | exact HB.out)⟩⟩
 case rest =>
  clear HC2
  try clear c1
  try clear p2
  try clear c4
  try clear c4b0
  try clear c6
  try clear c6b0
  try clear c8
  try clear c8b0
  try clear c10
  try clear c10b0
  try clear c12
  try clear c12b0
  try clear hcz11_0
  try clear hcz11_1
  try clear hcz11_2
  try clear hcz11_3
  try clear hcz13_0
  try clear hcz13_1
  try clear hcz13_2
  try clear hcz13_3
  try clear hcz14_0
  try clear hcz14_1
  try clear hcz14_2
  try clear hcz14_3
  try clear hcz5_0
  try clear hcz5_1
  try clear hcz5_2
  try clear hcz5_3
  try clear hcz7_0
  try clear hcz7_1
  try clear hcz7_2
  try clear hcz7_3
  try clear hcz9_0
  try clear hcz9_1
  try clear hcz9_2
  try clear hcz9_3
  try clear hfz11_0
  try clear hfz11_1
  try clear hfz11_2
  try clear hfz11_3
  try clear hfz13_0
  try clear hfz13_1
  try clear hfz13_2
  try clear hfz13_3
  try clear hfz14_0
  try clear hfz14_1
  try clear hfz14_2
  try clear hfz14_3
  try clear hfz5_0
  try clear hfz5_1
  try clear hfz5_2
  try clear hfz5_3
  try clear hfz7_0
  try clear hfz7_1
  try clear hfz7_2
  try clear hfz7_3
  try clear hfz9_0
  try clear hfz9_1
  try clear hfz9_2
  try clear hfz9_3
  obtain ⟨kq, x30_1, rfl, HA, HJ1, BK201, HB⟩ := hcut
  cases kq with
  | zero => exact absurd HA.out (by simp [taskmasterref26_Is.j0])
  | succ kj1 =>
   have H := HA.out
   clear HA
   simp only [taskmasterref26_Is.j0] at H
   by_cases c15 : x30_1 = true
   ·subst c15
    have H1 : (some false) = some r := by rw [if_pos rfl] at H; exact H
    clear H
    have H := H1
    clear H1
    obtain rfl := Option.some.inj H
    go_wp2
    go_ret
    exact ⟨by first | rfl | (simp [errW_none, errW_some] <;> rfl) | (simp [*, errW_none, errW_some] <;> rfl), by repeat (first | (with_reducible first | exact HB.out | apply below_alloc | apply pw_below_drewN | apply below_drew1 | refine below_set ?_ GE201.out) | exact HB.out)⟩
   ·replace c15 := Bool.eq_false_iff.mpr c15
    subst c15
    have H1 : (if a0_1 = 10 then (some (a0_2 == (-1))) else (if a0_2 ≥ 0 then (some (decide (a0_2 < 8))) else (some false))) = some r := by rw [if_neg (show ¬ (false = true) by decide)] at H; exact H
    clear H
    have H := H1
    clear H1
    by_cases c16 : a0_1 = 10
    ·rw [if_pos c16] at H
     have c16b0 : (a0_1 == 10) = true := beq_iff_eq.mpr c16
     have c16b1 : (a0_1 != 10) = false := bne_eq_false_iff_eq.mpr c16
     clear c16
     obtain rfl := Option.some.inj H
     have hcz17_0 : wc.cell? ⟨gb201, 0, none⟩ = some (.int .i64 a0_0) := (blk_cell BK201.out 0).trans rfl
     have hcz17_1 : wc.cell? ⟨gb201, 1, none⟩ = some (.int .i64 a0_1) := (blk_cell BK201.out 1).trans rfl
     have hcz17_2 : wc.cell? ⟨gb201, 2, none⟩ = some (.int .i64 a0_2) := (blk_cell BK201.out 2).trans rfl
     have hcz17_3 : wc.cell? ⟨gb201, 3, none⟩ = some (.int .i64 a0_3) := (blk_cell BK201.out 3).trans rfl
     have hfz17_0 := blk_frozen BK201.out 0
     have hfz17_1 := blk_frozen BK201.out 1
     have hfz17_2 := blk_frozen BK201.out 2
     have hfz17_3 := blk_frozen BK201.out 3
     go_wp2
     go_ret
     exact ⟨by first | rfl | (simp [errW_none, errW_some] <;> rfl) | (simp [*, errW_none, errW_some] <;> rfl), by repeat (first | (with_reducible first | exact HB.out | apply below_alloc | apply pw_below_drewN | apply below_drew1 | refine below_set ?_ GE201.out) | exact HB.out)⟩
    ·rw [if_neg c16] at H
     have c16b0 : (a0_1 == 10) = false := beq_eq_false_iff_ne.mpr c16
     have c16b1 : (a0_1 != 10) = true := bne_iff_ne.mpr c16
     by_cases c18 : a0_2 ≥ 0
     ·rw [if_pos c18] at H
      have c18b0 : decide (0 ≤ a0_2) = true := decide_eq_true c18
      clear c18
      obtain rfl := Option.some.inj H
      have hcz19_0 : wc.cell? ⟨gb201, 0, none⟩ = some (.int .i64 a0_0) := (blk_cell BK201.out 0).trans rfl
      have hcz19_1 : wc.cell? ⟨gb201, 1, none⟩ = some (.int .i64 a0_1) := (blk_cell BK201.out 1).trans rfl
      have hcz19_2 : wc.cell? ⟨gb201, 2, none⟩ = some (.int .i64 a0_2) := (blk_cell BK201.out 2).trans rfl
      have hcz19_3 : wc.cell? ⟨gb201, 3, none⟩ = some (.int .i64 a0_3) := (blk_cell BK201.out 3).trans rfl
      have hfz19_0 := blk_frozen BK201.out 0
      have hfz19_1 := blk_frozen BK201.out 1
      have hfz19_2 := blk_frozen BK201.out 2
      have hfz19_3 := blk_frozen BK201.out 3
      go_wp2
      go_ret
      exact ⟨by first | rfl | (simp [errW_none, errW_some] <;> rfl) | (simp [*, errW_none, errW_some] <;> rfl), by repeat (first | (with_reducible first | exact HB.out | apply below_alloc | apply pw_below_drewN | apply below_drew1 | refine below_set ?_ GE201.out) | exact HB.out)⟩
     ·rw [if_neg c18] at H
      have c18b0 : decide (0 ≤ a0_2) = false := decide_eq_false c18
      clear c18
      obtain rfl := Option.some.inj H
      have hcz20_0 : wc.cell? ⟨gb201, 0, none⟩ = some (.int .i64 a0_0) := (blk_cell BK201.out 0).trans rfl
      have hcz20_1 : wc.cell? ⟨gb201, 1, none⟩ = some (.int .i64 a0_1) := (blk_cell BK201.out 1).trans rfl
      have hcz20_2 : wc.cell? ⟨gb201, 2, none⟩ = some (.int .i64 a0_2) := (blk_cell BK201.out 2).trans rfl
      have hcz20_3 : wc.cell? ⟨gb201, 3, none⟩ = some (.int .i64 a0_3) := (blk_cell BK201.out 3).trans rfl
      have hfz20_0 := blk_frozen BK201.out 0
      have hfz20_1 := blk_frozen BK201.out 1
      have hfz20_2 := blk_frozen BK201.out 2
      have hfz20_3 := blk_frozen BK201.out 3
      go_wp2
      go_ret
      exact ⟨by first | rfl | (simp [errW_none, errW_some] <;> rfl) | (simp [*, errW_none, errW_some] <;> rfl), by repeat (first | (with_reducible first | exact HB.out | apply below_alloc | apply pw_below_drewN | apply below_drew1 | refine below_set ?_ GE201.out) | exact HB.out)⟩
def taskmasterref26_Text.l0 : Nat → List (S44) → ByteArray → List ByteArray → Int → Option (ByteArray × Bool)
 | 0, _, _, _, _ => none
 | k + 1, x0, x4, x5, x6 => if x6 < (x0.length : Int) then (if 0 ≤ x6 then ((taskmasterref26_Is.f k ((rd_T44 x0 x6).f0) ((rd_T44 x0 x6).f1) ((rd_T44 x0 x6).f2) ((rd_T44 x0 x6).f3)).bind fun t206 => (if t206 = true then (if ((rd_T44 x0 x6).f1) = 10 then ((taskmasterref7_Digits.f k ((rd_T44 x0 x6).f0)).bind fun t209 => (if x4.size + t209.size ≤ 9223372036854775807 then (if (x4 ++ t209).size + 1 ≤ 9223372036854775807 then (if 0 ≤ ((rd_T44 x0 x6).f1) then (if ((rd_T44 x0 x6).f1) < (x5.length : Int) then (if ((x4 ++ t209) ++ (⟨#[32]⟩ : ByteArray)).size + (rdOf ByteArray.empty x5 ((rd_T44 x0 x6).f1)).size ≤ 9223372036854775807 then (if (((x4 ++ t209) ++ (⟨#[32]⟩ : ByteArray)) ++ (rdOf ByteArray.empty x5 ((rd_T44 x0 x6).f1))).size + 1 ≤ 9223372036854775807 then (if ((((x4 ++ t209) ++ (⟨#[32]⟩ : ByteArray)) ++ (rdOf ByteArray.empty x5 ((rd_T44 x0 x6).f1))) ++ (⟨#[32]⟩ : ByteArray)).size + 1 ≤ 9223372036854775807 then (if (((((x4 ++ t209) ++ (⟨#[32]⟩ : ByteArray)) ++ (rdOf ByteArray.empty x5 ((rd_T44 x0 x6).f1))) ++ (⟨#[32]⟩ : ByteArray)) ++ (⟨#[45]⟩ : ByteArray)).size + 1 ≤ 9223372036854775807 then ((taskmasterref7_Digits.f k ((rd_T44 x0 x6).f3)).bind fun t213 => (if ((((((x4 ++ t209) ++ (⟨#[32]⟩ : ByteArray)) ++ (rdOf ByteArray.empty x5 ((rd_T44 x0 x6).f1))) ++ (⟨#[32]⟩ : ByteArray)) ++ (⟨#[45]⟩ : ByteArray)) ++ (⟨#[32]⟩ : ByteArray)).size + t213.size ≤ 9223372036854775807 then (if (((((((x4 ++ t209) ++ (⟨#[32]⟩ : ByteArray)) ++ (rdOf ByteArray.empty x5 ((rd_T44 x0 x6).f1))) ++ (⟨#[32]⟩ : ByteArray)) ++ (⟨#[45]⟩ : ByteArray)) ++ (⟨#[32]⟩ : ByteArray)) ++ t213).size + 1 ≤ 9223372036854775807 then (taskmasterref26_Text.l0 k x0 ((((((((x4 ++ t209) ++ (⟨#[32]⟩ : ByteArray)) ++ (rdOf ByteArray.empty x5 ((rd_T44 x0 x6).f1))) ++ (⟨#[32]⟩ : ByteArray)) ++ (⟨#[45]⟩ : ByteArray)) ++ (⟨#[32]⟩ : ByteArray)) ++ t213) ++ (⟨#[10]⟩ : ByteArray)) x5 (wrap64 (x6 + 1))) else (none)) else (none))) else (none)) else (none)) else (none)) else (none)) else (none)) else (none)) else (none)) else (none))) else ((taskmasterref7_Digits.f k ((rd_T44 x0 x6).f2)).bind fun t215 => ((taskmasterref7_Digits.f k ((rd_T44 x0 x6).f0)).bind fun t217 => (if x4.size + t217.size ≤ 9223372036854775807 then (if (x4 ++ t217).size + 1 ≤ 9223372036854775807 then (if 0 ≤ ((rd_T44 x0 x6).f1) then (if ((rd_T44 x0 x6).f1) < (x5.length : Int) then (if ((x4 ++ t217) ++ (⟨#[32]⟩ : ByteArray)).size + (rdOf ByteArray.empty x5 ((rd_T44 x0 x6).f1)).size ≤ 9223372036854775807 then (if (((x4 ++ t217) ++ (⟨#[32]⟩ : ByteArray)) ++ (rdOf ByteArray.empty x5 ((rd_T44 x0 x6).f1))).size + 1 ≤ 9223372036854775807 then (if ((((x4 ++ t217) ++ (⟨#[32]⟩ : ByteArray)) ++ (rdOf ByteArray.empty x5 ((rd_T44 x0 x6).f1))) ++ (⟨#[32]⟩ : ByteArray)).size + t215.size ≤ 9223372036854775807 then (if (((((x4 ++ t217) ++ (⟨#[32]⟩ : ByteArray)) ++ (rdOf ByteArray.empty x5 ((rd_T44 x0 x6).f1))) ++ (⟨#[32]⟩ : ByteArray)) ++ t215).size + 1 ≤ 9223372036854775807 then ((taskmasterref7_Digits.f k ((rd_T44 x0 x6).f3)).bind fun t221 => (if ((((((x4 ++ t217) ++ (⟨#[32]⟩ : ByteArray)) ++ (rdOf ByteArray.empty x5 ((rd_T44 x0 x6).f1))) ++ (⟨#[32]⟩ : ByteArray)) ++ t215) ++ (⟨#[32]⟩ : ByteArray)).size + t221.size ≤ 9223372036854775807 then (if (((((((x4 ++ t217) ++ (⟨#[32]⟩ : ByteArray)) ++ (rdOf ByteArray.empty x5 ((rd_T44 x0 x6).f1))) ++ (⟨#[32]⟩ : ByteArray)) ++ t215) ++ (⟨#[32]⟩ : ByteArray)) ++ t221).size + 1 ≤ 9223372036854775807 then (taskmasterref26_Text.l0 k x0 ((((((((x4 ++ t217) ++ (⟨#[32]⟩ : ByteArray)) ++ (rdOf ByteArray.empty x5 ((rd_T44 x0 x6).f1))) ++ (⟨#[32]⟩ : ByteArray)) ++ t215) ++ (⟨#[32]⟩ : ByteArray)) ++ t221) ++ (⟨#[10]⟩ : ByteArray)) x5 (wrap64 (x6 + 1))) else (none)) else (none))) else (none)) else (none)) else (none)) else (none)) else (none)) else (none)) else (none)) else (none))))) else (some ((⟨#[]⟩ : ByteArray), false)))) else (none)) else (some (x4, true))
def taskmasterref26_Text.f (k : Nat) (l0 : List (S44)) : Option (ByteArray × Bool) := (taskmasterref26_Words.f).bind fun t202 => (taskmasterref26_Text.l0 k l0 (⟨#[]⟩ : ByteArray) t202 0)
def taskmasterref26_Text.T11 : Bool × List (List Nat × List Nat) := (true, [([], []), ([], []), ([], []), ([1, 2], [1, 2]), ([3], [3]), ([4], [4]), ([5], [5]), ([0, 6], [0, 6]), ([7], [7]), ([], []), ([], []), ([], []), ([10, 11], [10, 11]), ([12], [12]), ([13], [13]), ([9, 14], [9, 14]), ([15], [15]), ([8, 16], [8, 16]), ([17], [17]), ([], []), ([18, 19], [18, 19]), ([20], [20]), ([], []), ([], []), ([22, 23], [22, 23]), ([24], [24]), ([25], [25]), ([26, 6], [26]), ([21, 27], [21, 27]), ([28], [28]), ([29, 27, 0, 1, 2, 3, 4, 5, 6, 7, 8, 9, 10, 11, 12, 13, 14, 15, 16, 17, 18, 19, 20, 21, 22, 23, 24, 25, 26, 27, 28, 29], [0, 29])])
def taskmasterref26_Text.B11 : List Nat := [0, 0, 0, 6, 14, 30, 62, 127, 255, 0, 0, 0, 3072, 7168, 15360, 32256, 65024, 131071, 262143, 0, 1048575, 2097151, 0, 0, 12582912, 29360128, 62914560, 130023550, 268435455, 536870911, 1073741823]
theorem taskmasterref26_Text.tab11 : rtab .any (opsOf Tryd.f24 11) = taskmasterref26_Text.T11 := by kernel_rfl
theorem taskmasterref26_Text.bits11 : waitsOk taskmasterref26_Text.T11.2 taskmasterref26_Text.B11 = true := by kernel_rfl
set_option maxHeartbeats 8000000 in
set_option maxRecDepth 100000 in
theorem taskmasterref26_Text.calls (k : Nat) (A0 : Option Addr) (c0 : Nat) (l0 : List (S44)) (r1 : ByteArray) (r2 : Bool) (w : World) (hr0 : Kd.C k44 w A0 l0.length l0) (hc0 : l0.length ≤ c0) (h : taskmasterref26_Text.f k l0 = some (r1, r2)) :
  Calls Tryd.prog 24 #[.slice A0 l0.length c0] w fun e w' => e = .returned (.tuple #[.string r1, .bool r2]) ∧ Below w.heap.size w w' := by
 have hu44 := Tryd.underlying44
 have HR0 := Aside0.mk hr0
 have HC0 := Aside0.mk hc0
 clear hr0 hc0
 have HB := Aside0.mk (Below.refl w.heap.size w)
 have H : ((taskmasterref26_Words.f).bind fun t202 => (taskmasterref26_Text.l0 k l0 (⟨#[]⟩ : ByteArray) t202 0)) = some (r1, r2) := h
 clear h
 replace H := Option.bind_eq_some_iff.mp H
 obtain ⟨t202, A20, H⟩ := H
 replace H : (taskmasterref26_Text.l0 k l0 (⟨#[]⟩ : ByteArray) t202 0) = some (r1, r2) := H
 have A2 := Aside0.mk A20
 clear A20
 have H' := Aside0.mk H
 clear H
 go_enter Tryd.func24, Tryd.ntmps24
 go_wp2_with (first | ((with_reducible refine gate_callee (f := 45) rfl ?_); refine goesL_ (some 8) rfl rfl Tryd.func45 (by kernel_rfl) rfl #[] rfl (by (try simp only [List.map_toArray, List.map_cons, List.map_nil]); first | done | rfl | (simp only [List.length_drop, List.length_take]; rfl)) ?_; (with_reducible refine (taskmasterref26_Words.calls  t202 _ A2.out).mono ?_); rintro e w3 ⟨v203, rfl, ho0, hb⟩; refine ⟨_, rfl, ?_⟩; have n0_ := Aside0.mk (Kd.R_lower ho0 (below_size (by repeat (first | (with_reducible first | exact HB.out | apply below_alloc | apply pw_below_drewN | apply below_drew1) | exact HB.out)))); have n1_ := Aside0.mk (below_step (by repeat (first | (with_reducible first | exact HB.out | apply below_alloc | apply pw_below_drewN | apply below_drew1) | exact HB.out)) hb); clear HB; have HO204 := n0_; have HB := n1_; clear n0_ n1_; (try clear hb); (try clear hb2); (try clear hk); (try clear hi); (try clear ho0)))
 go_loopg [4, 6] k (fun kq v4 v6 w' => ∃ (x4_1 : ByteArray) (x6_1 : Int), v4 = .string x4_1 ∧ v6 = .int .i64 x6_1 ∧ Aside0 (taskmasterref26_Text.l0 kq l0 x4_1 t202 x6_1 = some (r1, r2)) ∧ Aside0 (kq ≤ k) ∧ Aside0 (Kd.R Kd.string 9 w' w.heap.size (fun _ => True) v203 t202) ∧ Aside0 (Below w.heap.size w w'))
 case atStart => exact ⟨((⟨#[]⟩ : ByteArray)), (0), (by first | rfl | (simp; done) | (simp [*]; done)), (by first | rfl | (simp; done) | (simp [*]; done)), H', ⟨Nat.le_refl _⟩, ⟨by (with_reducible repeat (first | apply Kd.R_alloc | apply Kd.R_drewN | apply Kd.R_drew)); exact HO204.out⟩, ⟨by repeat (first | (with_reducible first | exact HB.out | apply below_alloc | apply pw_below_drewN | apply below_drew1) | exact HB.out)⟩⟩
 case round =>
  clear H'
  try clear c2
  try clear p2
  obtain ⟨x4_1, x6_1, rfl, rfl, HA, HK1, HO_5, HB⟩ := hrel
  cases gk with
  | zero => exact absurd HA.out (by simp [taskmasterref26_Text.l0])
  | succ k1 =>
   have H := HA.out
   clear HA
   simp only [taskmasterref26_Text.l0] at H
   by_cases c4 : x6_1 < (l0.length : Int)
   ·rw [if_pos c4] at H
    have c4b0 : decide (x6_1 < (l0.length : Int)) = true := decide_eq_true c4
    clear c4
    by_cases c5 : 0 ≤ x6_1
    ·rw [if_pos c5] at H
     have c5b0 : decide (0 ≤ x6_1) = true := decide_eq_true c5
     clear c5
     replace H := Option.bind_eq_some_iff.mp H
     obtain ⟨t206, A60, H⟩ := H
     replace H : (if t206 = true then (if ((rd_T44 l0 x6_1).f1) = 10 then ((taskmasterref7_Digits.f k1 ((rd_T44 l0 x6_1).f0)).bind fun t209 => (if x4_1.size + t209.size ≤ 9223372036854775807 then (if (x4_1 ++ t209).size + 1 ≤ 9223372036854775807 then (if 0 ≤ ((rd_T44 l0 x6_1).f1) then (if ((rd_T44 l0 x6_1).f1) < (t202.length : Int) then (if ((x4_1 ++ t209) ++ (⟨#[32]⟩ : ByteArray)).size + (rdOf ByteArray.empty t202 ((rd_T44 l0 x6_1).f1)).size ≤ 9223372036854775807 then (if (((x4_1 ++ t209) ++ (⟨#[32]⟩ : ByteArray)) ++ (rdOf ByteArray.empty t202 ((rd_T44 l0 x6_1).f1))).size + 1 ≤ 9223372036854775807 then (if ((((x4_1 ++ t209) ++ (⟨#[32]⟩ : ByteArray)) ++ (rdOf ByteArray.empty t202 ((rd_T44 l0 x6_1).f1))) ++ (⟨#[32]⟩ : ByteArray)).size + 1 ≤ 9223372036854775807 then (if (((((x4_1 ++ t209) ++ (⟨#[32]⟩ : ByteArray)) ++ (rdOf ByteArray.empty t202 ((rd_T44 l0 x6_1).f1))) ++ (⟨#[32]⟩ : ByteArray)) ++ (⟨#[45]⟩ : ByteArray)).size + 1 ≤ 9223372036854775807 then ((taskmasterref7_Digits.f k1 ((rd_T44 l0 x6_1).f3)).bind fun t213 => (if ((((((x4_1 ++ t209) ++ (⟨#[32]⟩ : ByteArray)) ++ (rdOf ByteArray.empty t202 ((rd_T44 l0 x6_1).f1))) ++ (⟨#[32]⟩ : ByteArray)) ++ (⟨#[45]⟩ : ByteArray)) ++ (⟨#[32]⟩ : ByteArray)).size + t213.size ≤ 9223372036854775807 then (if (((((((x4_1 ++ t209) ++ (⟨#[32]⟩ : ByteArray)) ++ (rdOf ByteArray.empty t202 ((rd_T44 l0 x6_1).f1))) ++ (⟨#[32]⟩ : ByteArray)) ++ (⟨#[45]⟩ : ByteArray)) ++ (⟨#[32]⟩ : ByteArray)) ++ t213).size + 1 ≤ 9223372036854775807 then (taskmasterref26_Text.l0 k1 l0 ((((((((x4_1 ++ t209) ++ (⟨#[32]⟩ : ByteArray)) ++ (rdOf ByteArray.empty t202 ((rd_T44 l0 x6_1).f1))) ++ (⟨#[32]⟩ : ByteArray)) ++ (⟨#[45]⟩ : ByteArray)) ++ (⟨#[32]⟩ : ByteArray)) ++ t213) ++ (⟨#[10]⟩ : ByteArray)) t202 (wrap64 (x6_1 + 1))) else (none)) else (none))) else (none)) else (none)) else (none)) else (none)) else (none)) else (none)) else (none)) else (none))) else ((taskmasterref7_Digits.f k1 ((rd_T44 l0 x6_1).f2)).bind fun t215 => ((taskmasterref7_Digits.f k1 ((rd_T44 l0 x6_1).f0)).bind fun t217 => (if x4_1.size + t217.size ≤ 9223372036854775807 then (if (x4_1 ++ t217).size + 1 ≤ 9223372036854775807 then (if 0 ≤ ((rd_T44 l0 x6_1).f1) then (if ((rd_T44 l0 x6_1).f1) < (t202.length : Int) then (if ((x4_1 ++ t217) ++ (⟨#[32]⟩ : ByteArray)).size + (rdOf ByteArray.empty t202 ((rd_T44 l0 x6_1).f1)).size ≤ 9223372036854775807 then (if (((x4_1 ++ t217) ++ (⟨#[32]⟩ : ByteArray)) ++ (rdOf ByteArray.empty t202 ((rd_T44 l0 x6_1).f1))).size + 1 ≤ 9223372036854775807 then (if ((((x4_1 ++ t217) ++ (⟨#[32]⟩ : ByteArray)) ++ (rdOf ByteArray.empty t202 ((rd_T44 l0 x6_1).f1))) ++ (⟨#[32]⟩ : ByteArray)).size + t215.size ≤ 9223372036854775807 then (if (((((x4_1 ++ t217) ++ (⟨#[32]⟩ : ByteArray)) ++ (rdOf ByteArray.empty t202 ((rd_T44 l0 x6_1).f1))) ++ (⟨#[32]⟩ : ByteArray)) ++ t215).size + 1 ≤ 9223372036854775807 then ((taskmasterref7_Digits.f k1 ((rd_T44 l0 x6_1).f3)).bind fun t221 => (if ((((((x4_1 ++ t217) ++ (⟨#[32]⟩ : ByteArray)) ++ (rdOf ByteArray.empty t202 ((rd_T44 l0 x6_1).f1))) ++ (⟨#[32]⟩ : ByteArray)) ++ t215) ++ (⟨#[32]⟩ : ByteArray)).size + t221.size ≤ 9223372036854775807 then (if (((((((x4_1 ++ t217) ++ (⟨#[32]⟩ : ByteArray)) ++ (rdOf ByteArray.empty t202 ((rd_T44 l0 x6_1).f1))) ++ (⟨#[32]⟩ : ByteArray)) ++ t215) ++ (⟨#[32]⟩ : ByteArray)) ++ t221).size + 1 ≤ 9223372036854775807 then (taskmasterref26_Text.l0 k1 l0 ((((((((x4_1 ++ t217) ++ (⟨#[32]⟩ : ByteArray)) ++ (rdOf ByteArray.empty t202 ((rd_T44 l0 x6_1).f1))) ++ (⟨#[32]⟩ : ByteArray)) ++ t215) ++ (⟨#[32]⟩ : ByteArray)) ++ t221) ++ (⟨#[10]⟩ : ByteArray)) t202 (wrap64 (x6_1 + 1))) else (none)) else (none))) else (none)) else (none)) else (none)) else (none)) else (none)) else (none)) else (none)) else (none))))) else (some ((⟨#[]⟩ : ByteArray), false))) = some (r1, r2) := H
     have A6 := Aside0.mk A60
     clear A60
     by_cases c7 : t206 = true
     ·subst c7
      have H1 : (if ((rd_T44 l0 x6_1).f1) = 10 then ((taskmasterref7_Digits.f k1 ((rd_T44 l0 x6_1).f0)).bind fun t209 => (if x4_1.size + t209.size ≤ 9223372036854775807 then (if (x4_1 ++ t209).size + 1 ≤ 9223372036854775807 then (if 0 ≤ ((rd_T44 l0 x6_1).f1) then (if ((rd_T44 l0 x6_1).f1) < (t202.length : Int) then (if ((x4_1 ++ t209) ++ (⟨#[32]⟩ : ByteArray)).size + (rdOf ByteArray.empty t202 ((rd_T44 l0 x6_1).f1)).size ≤ 9223372036854775807 then (if (((x4_1 ++ t209) ++ (⟨#[32]⟩ : ByteArray)) ++ (rdOf ByteArray.empty t202 ((rd_T44 l0 x6_1).f1))).size + 1 ≤ 9223372036854775807 then (if ((((x4_1 ++ t209) ++ (⟨#[32]⟩ : ByteArray)) ++ (rdOf ByteArray.empty t202 ((rd_T44 l0 x6_1).f1))) ++ (⟨#[32]⟩ : ByteArray)).size + 1 ≤ 9223372036854775807 then (if (((((x4_1 ++ t209) ++ (⟨#[32]⟩ : ByteArray)) ++ (rdOf ByteArray.empty t202 ((rd_T44 l0 x6_1).f1))) ++ (⟨#[32]⟩ : ByteArray)) ++ (⟨#[45]⟩ : ByteArray)).size + 1 ≤ 9223372036854775807 then ((taskmasterref7_Digits.f k1 ((rd_T44 l0 x6_1).f3)).bind fun t213 => (if ((((((x4_1 ++ t209) ++ (⟨#[32]⟩ : ByteArray)) ++ (rdOf ByteArray.empty t202 ((rd_T44 l0 x6_1).f1))) ++ (⟨#[32]⟩ : ByteArray)) ++ (⟨#[45]⟩ : ByteArray)) ++ (⟨#[32]⟩ : ByteArray)).size + t213.size ≤ 9223372036854775807 then (if (((((((x4_1 ++ t209) ++ (⟨#[32]⟩ : ByteArray)) ++ (rdOf ByteArray.empty t202 ((rd_T44 l0 x6_1).f1))) ++ (⟨#[32]⟩ : ByteArray)) ++ (⟨#[45]⟩ : ByteArray)) ++ (⟨#[32]⟩ : ByteArray)) ++ t213).size + 1 ≤ 9223372036854775807 then (taskmasterref26_Text.l0 k1 l0 ((((((((x4_1 ++ t209) ++ (⟨#[32]⟩ : ByteArray)) ++ (rdOf ByteArray.empty t202 ((rd_T44 l0 x6_1).f1))) ++ (⟨#[32]⟩ : ByteArray)) ++ (⟨#[45]⟩ : ByteArray)) ++ (⟨#[32]⟩ : ByteArray)) ++ t213) ++ (⟨#[10]⟩ : ByteArray)) t202 (wrap64 (x6_1 + 1))) else (none)) else (none))) else (none)) else (none)) else (none)) else (none)) else (none)) else (none)) else (none)) else (none))) else ((taskmasterref7_Digits.f k1 ((rd_T44 l0 x6_1).f2)).bind fun t215 => ((taskmasterref7_Digits.f k1 ((rd_T44 l0 x6_1).f0)).bind fun t217 => (if x4_1.size + t217.size ≤ 9223372036854775807 then (if (x4_1 ++ t217).size + 1 ≤ 9223372036854775807 then (if 0 ≤ ((rd_T44 l0 x6_1).f1) then (if ((rd_T44 l0 x6_1).f1) < (t202.length : Int) then (if ((x4_1 ++ t217) ++ (⟨#[32]⟩ : ByteArray)).size + (rdOf ByteArray.empty t202 ((rd_T44 l0 x6_1).f1)).size ≤ 9223372036854775807 then (if (((x4_1 ++ t217) ++ (⟨#[32]⟩ : ByteArray)) ++ (rdOf ByteArray.empty t202 ((rd_T44 l0 x6_1).f1))).size + 1 ≤ 9223372036854775807 then (if ((((x4_1 ++ t217) ++ (⟨#[32]⟩ : ByteArray)) ++ (rdOf ByteArray.empty t202 ((rd_T44 l0 x6_1).f1))) ++ (⟨#[32]⟩ : ByteArray)).size + t215.size ≤ 9223372036854775807 then (if (((((x4_1 ++ t217) ++ (⟨#[32]⟩ : ByteArray)) ++ (rdOf ByteArray.empty t202 ((rd_T44 l0 x6_1).f1))) ++ (⟨#[32]⟩ : ByteArray)) ++ t215).size + 1 ≤ 9223372036854775807 then ((taskmasterref7_Digits.f k1 ((rd_T44 l0 x6_1).f3)).bind fun t221 => (if ((((((x4_1 ++ t217) ++ (⟨#[32]⟩ : ByteArray)) ++ (rdOf ByteArray.empty t202 ((rd_T44 l0 x6_1).f1))) ++ (⟨#[32]⟩ : ByteArray)) ++ t215) ++ (⟨#[32]⟩ : ByteArray)).size + t221.size ≤ 9223372036854775807 then (if (((((((x4_1 ++ t217) ++ (⟨#[32]⟩ : ByteArray)) ++ (rdOf ByteArray.empty t202 ((rd_T44 l0 x6_1).f1))) ++ (⟨#[32]⟩ : ByteArray)) ++ t215) ++ (⟨#[32]⟩ : ByteArray)) ++ t221).size + 1 ≤ 9223372036854775807 then (taskmasterref26_Text.l0 k1 l0 ((((((((x4_1 ++ t217) ++ (⟨#[32]⟩ : ByteArray)) ++ (rdOf ByteArray.empty t202 ((rd_T44 l0 x6_1).f1))) ++ (⟨#[32]⟩ : ByteArray)) ++ t215) ++ (⟨#[32]⟩ : ByteArray)) ++ t221) ++ (⟨#[10]⟩ : ByteArray)) t202 (wrap64 (x6_1 + 1))) else (none)) else (none))) else (none)) else (none)) else (none)) else (none)) else (none)) else (none)) else (none)) else (none))))) = some (r1, r2) := by rw [if_pos rfl] at H; exact H
      clear H
      have H := H1
      clear H1
      by_cases c8 : ((rd_T44 l0 x6_1).f1) = 10
      ·rw [if_pos c8] at H
       have c8b0 : (((rd_T44 l0 x6_1).f1) == 10) = true := beq_iff_eq.mpr c8
       have c8b1 : (((rd_T44 l0 x6_1).f1) != 10) = false := bne_eq_false_iff_eq.mpr c8
       clear c8
       replace H := Option.bind_eq_some_iff.mp H
       obtain ⟨t209, A90, H⟩ := H
       replace H : (if x4_1.size + t209.size ≤ 9223372036854775807 then (if (x4_1 ++ t209).size + 1 ≤ 9223372036854775807 then (if 0 ≤ ((rd_T44 l0 x6_1).f1) then (if ((rd_T44 l0 x6_1).f1) < (t202.length : Int) then (if ((x4_1 ++ t209) ++ (⟨#[32]⟩ : ByteArray)).size + (rdOf ByteArray.empty t202 ((rd_T44 l0 x6_1).f1)).size ≤ 9223372036854775807 then (if (((x4_1 ++ t209) ++ (⟨#[32]⟩ : ByteArray)) ++ (rdOf ByteArray.empty t202 ((rd_T44 l0 x6_1).f1))).size + 1 ≤ 9223372036854775807 then (if ((((x4_1 ++ t209) ++ (⟨#[32]⟩ : ByteArray)) ++ (rdOf ByteArray.empty t202 ((rd_T44 l0 x6_1).f1))) ++ (⟨#[32]⟩ : ByteArray)).size + 1 ≤ 9223372036854775807 then (if (((((x4_1 ++ t209) ++ (⟨#[32]⟩ : ByteArray)) ++ (rdOf ByteArray.empty t202 ((rd_T44 l0 x6_1).f1))) ++ (⟨#[32]⟩ : ByteArray)) ++ (⟨#[45]⟩ : ByteArray)).size + 1 ≤ 9223372036854775807 then ((taskmasterref7_Digits.f k1 ((rd_T44 l0 x6_1).f3)).bind fun t213 => (if ((((((x4_1 ++ t209) ++ (⟨#[32]⟩ : ByteArray)) ++ (rdOf ByteArray.empty t202 ((rd_T44 l0 x6_1).f1))) ++ (⟨#[32]⟩ : ByteArray)) ++ (⟨#[45]⟩ : ByteArray)) ++ (⟨#[32]⟩ : ByteArray)).size + t213.size ≤ 9223372036854775807 then (if (((((((x4_1 ++ t209) ++ (⟨#[32]⟩ : ByteArray)) ++ (rdOf ByteArray.empty t202 ((rd_T44 l0 x6_1).f1))) ++ (⟨#[32]⟩ : ByteArray)) ++ (⟨#[45]⟩ : ByteArray)) ++ (⟨#[32]⟩ : ByteArray)) ++ t213).size + 1 ≤ 9223372036854775807 then (taskmasterref26_Text.l0 k1 l0 ((((((((x4_1 ++ t209) ++ (⟨#[32]⟩ : ByteArray)) ++ (rdOf ByteArray.empty t202 ((rd_T44 l0 x6_1).f1))) ++ (⟨#[32]⟩ : ByteArray)) ++ (⟨#[45]⟩ : ByteArray)) ++ (⟨#[32]⟩ : ByteArray)) ++ t213) ++ (⟨#[10]⟩ : ByteArray)) t202 (wrap64 (x6_1 + 1))) else (none)) else (none))) else (none)) else (none)) else (none)) else (none)) else (none)) else (none)) else (none)) else (none)) = some (r1, r2) := H
       have A9 := Aside0.mk A90
       clear A90
       by_cases c10 : x4_1.size + t209.size ≤ 9223372036854775807
       ·rw [if_pos c10] at H
        have c10b0 := eq_true c10
        have c10b1 : decide (x4_1.size + t209.size ≤ 9223372036854775807) = true := decide_eq_true c10
        try have c10b2 : (9223372036854775807 < x4_1.size + t209.size) = False := eq_false (Nat.not_lt.2 c10)
        by_cases c11 : (x4_1 ++ t209).size + 1 ≤ 9223372036854775807
        ·rw [if_pos c11] at H
         have c11b0 := eq_true c11
         have c11b1 : decide ((x4_1 ++ t209).size + 1 ≤ 9223372036854775807) = true := decide_eq_true c11
         try have c11b2 : (9223372036854775807 < (x4_1 ++ t209).size + 1) = False := eq_false (Nat.not_lt.2 c11)
         try have c11b3z : (9223372036854775807 < x4_1.size + t209.size + 1) = False := eq_false (Nat.not_lt.2 (by have h_ := c11; simp only [ByteArray.size_append] at h_; exact h_))
         by_cases c12 : 0 ≤ ((rd_T44 l0 x6_1).f1)
         ·rw [if_pos c12] at H
          have c12b0 : decide (0 ≤ ((rd_T44 l0 x6_1).f1)) = true := decide_eq_true c12
          clear c12
          by_cases c13 : ((rd_T44 l0 x6_1).f1) < (t202.length : Int)
          ·rw [if_pos c13] at H
           have c13b0 : decide (((rd_T44 l0 x6_1).f1) < (t202.length : Int)) = true := decide_eq_true c13
           clear c13
           by_cases c14 : ((x4_1 ++ t209) ++ (⟨#[32]⟩ : ByteArray)).size + (rdOf ByteArray.empty t202 ((rd_T44 l0 x6_1).f1)).size ≤ 9223372036854775807
           ·rw [if_pos c14] at H
            have c14b0 := eq_true c14
            have c14b1 : decide (((x4_1 ++ t209) ++ (⟨#[32]⟩ : ByteArray)).size + (rdOf ByteArray.empty t202 ((rd_T44 l0 x6_1).f1)).size ≤ 9223372036854775807) = true := decide_eq_true c14
            try have c14b2 : (9223372036854775807 < ((x4_1 ++ t209) ++ (⟨#[32]⟩ : ByteArray)).size + (rdOf ByteArray.empty t202 ((rd_T44 l0 x6_1).f1)).size) = False := eq_false (Nat.not_lt.2 c14)
            try have c14b3z : (9223372036854775807 < x4_1.size + t209.size + 1 + (rdOf ByteArray.empty t202 ((rd_T44 l0 x6_1).f1)).size) = False := eq_false (Nat.not_lt.2 (by have h_ := c14; simp only [ByteArray.size_append] at h_; exact h_))
            by_cases c15 : (((x4_1 ++ t209) ++ (⟨#[32]⟩ : ByteArray)) ++ (rdOf ByteArray.empty t202 ((rd_T44 l0 x6_1).f1))).size + 1 ≤ 9223372036854775807
            ·rw [if_pos c15] at H
             have c15b0 := eq_true c15
             have c15b1 : decide ((((x4_1 ++ t209) ++ (⟨#[32]⟩ : ByteArray)) ++ (rdOf ByteArray.empty t202 ((rd_T44 l0 x6_1).f1))).size + 1 ≤ 9223372036854775807) = true := decide_eq_true c15
             try have c15b2 : (9223372036854775807 < (((x4_1 ++ t209) ++ (⟨#[32]⟩ : ByteArray)) ++ (rdOf ByteArray.empty t202 ((rd_T44 l0 x6_1).f1))).size + 1) = False := eq_false (Nat.not_lt.2 c15)
             try have c15b3z : (9223372036854775807 < x4_1.size + t209.size + 1 + (rdOf ByteArray.empty t202 ((rd_T44 l0 x6_1).f1)).size + 1) = False := eq_false (Nat.not_lt.2 (by have h_ := c15; simp only [ByteArray.size_append] at h_; exact h_))
             by_cases c16 : ((((x4_1 ++ t209) ++ (⟨#[32]⟩ : ByteArray)) ++ (rdOf ByteArray.empty t202 ((rd_T44 l0 x6_1).f1))) ++ (⟨#[32]⟩ : ByteArray)).size + 1 ≤ 9223372036854775807
             ·rw [if_pos c16] at H
              have c16b0 := eq_true c16
              have c16b1 : decide (((((x4_1 ++ t209) ++ (⟨#[32]⟩ : ByteArray)) ++ (rdOf ByteArray.empty t202 ((rd_T44 l0 x6_1).f1))) ++ (⟨#[32]⟩ : ByteArray)).size + 1 ≤ 9223372036854775807) = true := decide_eq_true c16
              try have c16b2 : (9223372036854775807 < ((((x4_1 ++ t209) ++ (⟨#[32]⟩ : ByteArray)) ++ (rdOf ByteArray.empty t202 ((rd_T44 l0 x6_1).f1))) ++ (⟨#[32]⟩ : ByteArray)).size + 1) = False := eq_false (Nat.not_lt.2 c16)
              try have c16b3z : (9223372036854775807 < x4_1.size + t209.size + 1 + (rdOf ByteArray.empty t202 ((rd_T44 l0 x6_1).f1)).size + 1 + 1) = False := eq_false (Nat.not_lt.2 (by have h_ := c16; simp only [ByteArray.size_append] at h_; exact h_))
              by_cases c17 : (((((x4_1 ++ t209) ++ (⟨#[32]⟩ : ByteArray)) ++ (rdOf ByteArray.empty t202 ((rd_T44 l0 x6_1).f1))) ++ (⟨#[32]⟩ : ByteArray)) ++ (⟨#[45]⟩ : ByteArray)).size + 1 ≤ 9223372036854775807
              ·rw [if_pos c17] at H
               have c17b0 := eq_true c17
               have c17b1 : decide ((((((x4_1 ++ t209) ++ (⟨#[32]⟩ : ByteArray)) ++ (rdOf ByteArray.empty t202 ((rd_T44 l0 x6_1).f1))) ++ (⟨#[32]⟩ : ByteArray)) ++ (⟨#[45]⟩ : ByteArray)).size + 1 ≤ 9223372036854775807) = true := decide_eq_true c17
               try have c17b2 : (9223372036854775807 < (((((x4_1 ++ t209) ++ (⟨#[32]⟩ : ByteArray)) ++ (rdOf ByteArray.empty t202 ((rd_T44 l0 x6_1).f1))) ++ (⟨#[32]⟩ : ByteArray)) ++ (⟨#[45]⟩ : ByteArray)).size + 1) = False := eq_false (Nat.not_lt.2 c17)
               try have c17b3z : (9223372036854775807 < x4_1.size + t209.size + 1 + (rdOf ByteArray.empty t202 ((rd_T44 l0 x6_1).f1)).size + 1 + 1 + 1) = False := eq_false (Nat.not_lt.2 (by have h_ := c17; simp only [ByteArray.size_append] at h_; exact h_))
               replace H := Option.bind_eq_some_iff.mp H
               obtain ⟨t213, A180, H⟩ := H
               replace H : (if ((((((x4_1 ++ t209) ++ (⟨#[32]⟩ : ByteArray)) ++ (rdOf ByteArray.empty t202 ((rd_T44 l0 x6_1).f1))) ++ (⟨#[32]⟩ : ByteArray)) ++ (⟨#[45]⟩ : ByteArray)) ++ (⟨#[32]⟩ : ByteArray)).size + t213.size ≤ 9223372036854775807 then (if (((((((x4_1 ++ t209) ++ (⟨#[32]⟩ : ByteArray)) ++ (rdOf ByteArray.empty t202 ((rd_T44 l0 x6_1).f1))) ++ (⟨#[32]⟩ : ByteArray)) ++ (⟨#[45]⟩ : ByteArray)) ++ (⟨#[32]⟩ : ByteArray)) ++ t213).size + 1 ≤ 9223372036854775807 then (taskmasterref26_Text.l0 k1 l0 ((((((((x4_1 ++ t209) ++ (⟨#[32]⟩ : ByteArray)) ++ (rdOf ByteArray.empty t202 ((rd_T44 l0 x6_1).f1))) ++ (⟨#[32]⟩ : ByteArray)) ++ (⟨#[45]⟩ : ByteArray)) ++ (⟨#[32]⟩ : ByteArray)) ++ t213) ++ (⟨#[10]⟩ : ByteArray)) t202 (wrap64 (x6_1 + 1))) else (none)) else (none)) = some (r1, r2) := H
               have A18 := Aside0.mk A180
               clear A180
               by_cases c19 : ((((((x4_1 ++ t209) ++ (⟨#[32]⟩ : ByteArray)) ++ (rdOf ByteArray.empty t202 ((rd_T44 l0 x6_1).f1))) ++ (⟨#[32]⟩ : ByteArray)) ++ (⟨#[45]⟩ : ByteArray)) ++ (⟨#[32]⟩ : ByteArray)).size + t213.size ≤ 9223372036854775807
               ·rw [if_pos c19] at H
                have c19b0 := eq_true c19
                have c19b1 : decide (((((((x4_1 ++ t209) ++ (⟨#[32]⟩ : ByteArray)) ++ (rdOf ByteArray.empty t202 ((rd_T44 l0 x6_1).f1))) ++ (⟨#[32]⟩ : ByteArray)) ++ (⟨#[45]⟩ : ByteArray)) ++ (⟨#[32]⟩ : ByteArray)).size + t213.size ≤ 9223372036854775807) = true := decide_eq_true c19
                try have c19b2 : (9223372036854775807 < ((((((x4_1 ++ t209) ++ (⟨#[32]⟩ : ByteArray)) ++ (rdOf ByteArray.empty t202 ((rd_T44 l0 x6_1).f1))) ++ (⟨#[32]⟩ : ByteArray)) ++ (⟨#[45]⟩ : ByteArray)) ++ (⟨#[32]⟩ : ByteArray)).size + t213.size) = False := eq_false (Nat.not_lt.2 c19)
                try have c19b3z : (9223372036854775807 < x4_1.size + t209.size + 1 + (rdOf ByteArray.empty t202 ((rd_T44 l0 x6_1).f1)).size + 1 + 1 + 1 + t213.size) = False := eq_false (Nat.not_lt.2 (by have h_ := c19; simp only [ByteArray.size_append] at h_; exact h_))
                by_cases c20 : (((((((x4_1 ++ t209) ++ (⟨#[32]⟩ : ByteArray)) ++ (rdOf ByteArray.empty t202 ((rd_T44 l0 x6_1).f1))) ++ (⟨#[32]⟩ : ByteArray)) ++ (⟨#[45]⟩ : ByteArray)) ++ (⟨#[32]⟩ : ByteArray)) ++ t213).size + 1 ≤ 9223372036854775807
                ·rw [if_pos c20] at H
                 have c20b0 := eq_true c20
                 have c20b1 : decide ((((((((x4_1 ++ t209) ++ (⟨#[32]⟩ : ByteArray)) ++ (rdOf ByteArray.empty t202 ((rd_T44 l0 x6_1).f1))) ++ (⟨#[32]⟩ : ByteArray)) ++ (⟨#[45]⟩ : ByteArray)) ++ (⟨#[32]⟩ : ByteArray)) ++ t213).size + 1 ≤ 9223372036854775807) = true := decide_eq_true c20
                 try have c20b2 : (9223372036854775807 < (((((((x4_1 ++ t209) ++ (⟨#[32]⟩ : ByteArray)) ++ (rdOf ByteArray.empty t202 ((rd_T44 l0 x6_1).f1))) ++ (⟨#[32]⟩ : ByteArray)) ++ (⟨#[45]⟩ : ByteArray)) ++ (⟨#[32]⟩ : ByteArray)) ++ t213).size + 1) = False := eq_false (Nat.not_lt.2 c20)
                 try have c20b3z : (9223372036854775807 < x4_1.size + t209.size + 1 + (rdOf ByteArray.empty t202 ((rd_T44 l0 x6_1).f1)).size + 1 + 1 + 1 + t213.size + 1) = False := eq_false (Nat.not_lt.2 (by have h_ := c20; simp only [ByteArray.size_append] at h_; exact h_))
                 have H' := Aside0.mk H
                 clear H
                 have p205 : 0 ≤ (x6_1 : Int) := of_decide_eq_true (by first | (with_reducible assumption) | assumption)
                 have q205 : x6_1 < (l0.length : Int) := of_decide_eq_true (by first | (with_reducible assumption) | assumption)
                 obtain ⟨ad205, e205, hx205_0, hx205_1, hx205_2, hx205_3⟩ := at_T44 HR0.out x6_1 p205 q205
                 cases e205
                 replace hx205_0 := (HB.out.cell (World.block_lt_of_cell? w _ hx205_0)).trans hx205_0
                 replace hx205_1 := (HB.out.cell (World.block_lt_of_cell? w _ hx205_1)).trans hx205_1
                 replace hx205_2 := (HB.out.cell (World.block_lt_of_cell? w _ hx205_2)).trans hx205_2
                 replace hx205_3 := (HB.out.cell (World.block_lt_of_cell? w _ hx205_3)).trans hx205_3
                 replace p205 := eq_true p205
                 replace q205 := eq_true q205
                 try go_wp2_with (first | ((with_reducible refine gate_callee (f := 46) rfl ?_); refine goesL_ (some 19) rfl rfl Tryd.func46 (by kernel_rfl) rfl #[.agg #[.int .i64 ((rd_T44 l0 x6_1).f0), .int .i64 ((rd_T44 l0 x6_1).f1), .int .i64 ((rd_T44 l0 x6_1).f2), .int .i64 ((rd_T44 l0 x6_1).f3)]] rfl (by (try simp only [List.map_toArray, List.map_cons, List.map_nil]); first | done | rfl | (simp only [List.length_drop, List.length_take]; rfl)) ?_; (with_reducible refine (taskmasterref26_Is.calls k1 ((rd_T44 l0 x6_1).f0) ((rd_T44 l0 x6_1).f1) ((rd_T44 l0 x6_1).f2) ((rd_T44 l0 x6_1).f3) true _ A6.out).mono ?_); rintro e w21 ⟨rfl, hb⟩; refine ⟨_, rfl, ?_⟩; have n0_ := Aside0.mk (Kd.R_below (by (with_reducible repeat (first | apply Kd.R_alloc | apply Kd.R_drewN | apply Kd.R_drew)); exact HO_5.out) hb); have n1_ := Aside0.mk (below_step (by repeat (first | (with_reducible first | exact HB.out | apply below_alloc | apply pw_below_drewN | apply below_drew1) | exact HB.out)) hb); clear HO_5; clear HB; have HO_5 := n0_; have HB := n1_; clear n0_ n1_; (try clear hb); (try clear hb2); (try clear hk); (try clear hi); have p207 : 0 ≤ (x6_1 : Int) := of_decide_eq_true (by first | (with_reducible assumption) | assumption); have q207 : x6_1 < (l0.length : Int) := of_decide_eq_true (by first | (with_reducible assumption) | assumption); obtain ⟨ad207, e207, hx207_0, hx207_1, hx207_2, hx207_3⟩ := at_T44 HR0.out x6_1 p207 q207; obtain rfl : ad205 = ad207 := (by injection e207); replace hx207_0 := (HB.out.cell (World.block_lt_of_cell? w _ hx207_0)).trans hx207_0; replace hx207_1 := (HB.out.cell (World.block_lt_of_cell? w _ hx207_1)).trans hx207_1; replace hx207_2 := (HB.out.cell (World.block_lt_of_cell? w _ hx207_2)).trans hx207_2; replace hx207_3 := (HB.out.cell (World.block_lt_of_cell? w _ hx207_3)).trans hx207_3; replace p207 := eq_true p207; replace q207 := eq_true q207))
                 have n0_ := Aside0.mk (Kd.R_drew HO_5.out)
                 have n1_ := Aside0.mk (below_drew1 HB.out)
                 clear HO_5
                 clear HB
                 have HO_5 := n0_
                 have HB := n1_
                 clear n0_ n1_
                 have p208 : 0 ≤ (x6_1 : Int) := of_decide_eq_true (by first | (with_reducible assumption) | assumption)
                 have q208 : x6_1 < (l0.length : Int) := of_decide_eq_true (by first | (with_reducible assumption) | assumption)
                 obtain ⟨ad208, e208, hx208_0, hx208_1, hx208_2, hx208_3⟩ := at_T44 HR0.out x6_1 p208 q208
                 have hw208_3 := hx208_3
                 have hw208_2 := hx208_2
                 have hw208_1 := hx208_1
                 have hw208_0 := hx208_0
                 obtain rfl : ad205 = ad208 := (by injection e208)
                 replace hx208_0 := (HB.out.cell (World.block_lt_of_cell? w _ hx208_0)).trans hx208_0
                 replace hx208_1 := (HB.out.cell (World.block_lt_of_cell? w _ hx208_1)).trans hx208_1
                 replace hx208_2 := (HB.out.cell (World.block_lt_of_cell? w _ hx208_2)).trans hx208_2
                 replace hx208_3 := (HB.out.cell (World.block_lt_of_cell? w _ hx208_3)).trans hx208_3
                 replace p208 := eq_true p208
                 replace q208 := eq_true q208
                 have p210 : 0 ≤ (x6_1 : Int) := of_decide_eq_true (by first | (with_reducible assumption) | assumption)
                 have q210 : x6_1 < (l0.length : Int) := of_decide_eq_true (by first | (with_reducible assumption) | assumption)
                 obtain ⟨ad210, e210, hx210_0, hx210_1, hx210_2, hx210_3⟩ := at_T44 HR0.out x6_1 p210 q210
                 have hw210_3 := hx210_3
                 have hw210_2 := hx210_2
                 have hw210_1 := hx210_1
                 have hw210_0 := hx210_0
                 obtain rfl : ad205 = ad210 := (by injection e210)
                 replace hx210_0 := (HB.out.cell (World.block_lt_of_cell? w _ hx210_0)).trans hx210_0
                 replace hx210_1 := (HB.out.cell (World.block_lt_of_cell? w _ hx210_1)).trans hx210_1
                 replace hx210_2 := (HB.out.cell (World.block_lt_of_cell? w _ hx210_2)).trans hx210_2
                 replace hx210_3 := (HB.out.cell (World.block_lt_of_cell? w _ hx210_3)).trans hx210_3
                 replace p210 := eq_true p210
                 replace q210 := eq_true q210
                 obtain ⟨Ao23, co23, eo23⟩ := Kd.R_slice HO_5.out
                 (first | subst eo23 | (injection eo23 with f1_ f2_ f3_; have f4_ := f1_.symm; have f5_ := f3_.symm; clear f1_ f2_ f3_; subst f4_; subst f5_))
                 have p211 : 0 ≤ (((rd_T44 l0 x6_1).f1) : Int) := of_decide_eq_true (by first | (with_reducible assumption) | assumption)
                 have q211 : ((rd_T44 l0 x6_1).f1) < (t202.length : Int) := of_decide_eq_true (by first | (with_reducible assumption) | assumption)
                 obtain ⟨ad211, e211, hx211_0⟩ := Kd.at_string (Kd.R_reads' HO_5.out).2.2 ((rd_T44 l0 x6_1).f1) p211 q211
                 cases e211
                 replace p211 := eq_true p211
                 replace q211 := eq_true q211
                 have p212 : 0 ≤ (x6_1 : Int) := of_decide_eq_true (by first | (with_reducible assumption) | assumption)
                 have q212 : x6_1 < (l0.length : Int) := of_decide_eq_true (by first | (with_reducible assumption) | assumption)
                 obtain ⟨ad212, e212, hx212_0, hx212_1, hx212_2, hx212_3⟩ := at_T44 HR0.out x6_1 p212 q212
                 have hw212_3 := hx212_3
                 have hw212_2 := hx212_2
                 have hw212_1 := hx212_1
                 have hw212_0 := hx212_0
                 obtain rfl : ad205 = ad212 := (by injection e212)
                 replace hx212_0 := (HB.out.cell (World.block_lt_of_cell? w _ hx212_0)).trans hx212_0
                 replace hx212_1 := (HB.out.cell (World.block_lt_of_cell? w _ hx212_1)).trans hx212_1
                 replace hx212_2 := (HB.out.cell (World.block_lt_of_cell? w _ hx212_2)).trans hx212_2
                 replace hx212_3 := (HB.out.cell (World.block_lt_of_cell? w _ hx212_3)).trans hx212_3
                 replace p212 := eq_true p212
                 replace q212 := eq_true q212
                 refine start_ (n := 31) (S := fun w' => w'.cell? (ad205.add ((x6_1).toNat * 4)) = some (.int .i64 ((rd_T44 l0 x6_1).f0)) ∧ w'.cell? ⟨(ad205.add ((x6_1).toNat * 4)).block, (ad205.add ((x6_1).toNat * 4)).off + 1, none⟩ = some (.int .i64 ((rd_T44 l0 x6_1).f1)) ∧ w'.cell? ⟨(ad205.add ((x6_1).toNat * 4)).block, (ad205.add ((x6_1).toNat * 4)).off + 2, none⟩ = some (.int .i64 ((rd_T44 l0 x6_1).f2)) ∧ w'.cell? ⟨(ad205.add ((x6_1).toNat * 4)).block, (ad205.add ((x6_1).toNat * 4)).off + 3, none⟩ = some (.int .i64 ((rd_T44 l0 x6_1).f3)) ∧ w'.cell? (ad205.add ((x6_1).toNat * 4)) = some (.int .i64 ((rd_T44 l0 x6_1).f0)) ∧ w'.cell? ⟨(ad205.add ((x6_1).toNat * 4)).block, (ad205.add ((x6_1).toNat * 4)).off + 1, none⟩ = some (.int .i64 ((rd_T44 l0 x6_1).f1)) ∧ w'.cell? ⟨(ad205.add ((x6_1).toNat * 4)).block, (ad205.add ((x6_1).toNat * 4)).off + 2, none⟩ = some (.int .i64 ((rd_T44 l0 x6_1).f2)) ∧ w'.cell? ⟨(ad205.add ((x6_1).toNat * 4)).block, (ad205.add ((x6_1).toNat * 4)).off + 3, none⟩ = some (.int .i64 ((rd_T44 l0 x6_1).f3)) ∧ w'.cell? (ad211.add (((rd_T44 l0 x6_1).f1)).toNat) = some (.string (rdOf ByteArray.empty t202 ((rd_T44 l0 x6_1).f1))) ∧ w'.cell? (ad205.add ((x6_1).toNat * 4)) = some (.int .i64 ((rd_T44 l0 x6_1).f0)) ∧ w'.cell? ⟨(ad205.add ((x6_1).toNat * 4)).block, (ad205.add ((x6_1).toNat * 4)).off + 1, none⟩ = some (.int .i64 ((rd_T44 l0 x6_1).f1)) ∧ w'.cell? ⟨(ad205.add ((x6_1).toNat * 4)).block, (ad205.add ((x6_1).toNat * 4)).off + 2, none⟩ = some (.int .i64 ((rd_T44 l0 x6_1).f2)) ∧ w'.cell? ⟨(ad205.add ((x6_1).toNat * 4)).block, (ad205.add ((x6_1).toNat * 4)).off + 3, none⟩ = some (.int .i64 ((rd_T44 l0 x6_1).f3))) (ds := []) #[false, false, false, false, false, false, false, false, false, false, false, false, false, false, false, false, false, false, false, false, false, false, false, false, false, false, false, false, false, false, false] (by kernel_rfl) rfl rfl ⟨((HB.out.cell (World.block_lt_of_cell? w _ hw208_0)).trans hw208_0), ((HB.out.cell (World.block_lt_of_cell? w _ hw208_1)).trans hw208_1), ((HB.out.cell (World.block_lt_of_cell? w _ hw208_2)).trans hw208_2), ((HB.out.cell (World.block_lt_of_cell? w _ hw208_3)).trans hw208_3), ((HB.out.cell (World.block_lt_of_cell? w _ hw210_0)).trans hw210_0), ((HB.out.cell (World.block_lt_of_cell? w _ hw210_1)).trans hw210_1), ((HB.out.cell (World.block_lt_of_cell? w _ hw210_2)).trans hw210_2), ((HB.out.cell (World.block_lt_of_cell? w _ hw210_3)).trans hw210_3), hx211_0, ((HB.out.cell (World.block_lt_of_cell? w _ hw212_0)).trans hw212_0), ((HB.out.cell (World.block_lt_of_cell? w _ hw212_1)).trans hw212_1), ((HB.out.cell (World.block_lt_of_cell? w _ hw212_2)).trans hw212_2), ((HB.out.cell (World.block_lt_of_cell? w _ hw212_3)).trans hw212_3)⟩ (fun hHeld => ?_); refine with_tabW taskmasterref26_Text.tab11 taskmasterref26_Text.bits11 (fun HT_ HW_ => ?_)
                 generalize w21.drew = w22 at HO_5 HB hx208_0 hx208_1 hx208_2 hx208_3 hx210_0 hx210_1 hx210_2 hx210_3 hx211_0 hx212_0 hx212_1 hx212_2 hx212_3 hHeld ⊢
                 refine pure_ (i := 0) (N := some 33) (v := ?_) (a' := ?_) #[true, false, false, false, false, false, false, false, false, false, false, false, false, false, false, false, false, false, false, false, false, false, false, false, false, false, false, false, false, false, false] rfl rfl (any_of HT_.out (by kernel_rfl)) (fun _ _ _ h => h) (Or.inl ⟨by rfl, ?_⟩) ?_ ?_
                 rotate_left
                 ·intro w'
                  go_simp
                  with_reducible rfl
                 rotate_left
                 ·simp only [Act.put, List.setIfInBounds_toArray, List.set_cons_zero, List.set_cons_succ, i64_w, i32_w]
                  rfl
                 refine pure_ (i := 1) (N := some 34) (v := ?_) (a' := ?_) #[true, true, false, false, false, false, false, false, false, false, false, false, false, false, false, false, false, false, false, false, false, false, false, false, false, false, false, false, false, false, false] rfl rfl (any_of HT_.out (by kernel_rfl)) (fun _ _ _ h => h) (Or.inl ⟨by rfl, ?_⟩) ?_ ?_
                 rotate_left
                 ·intro w'
                  go_simp
                  with_reducible rfl
                 rotate_left
                 ·simp only [Act.put, List.setIfInBounds_toArray, List.set_cons_zero, List.set_cons_succ, i64_w, i32_w]
                  rfl
                 refine pure_ (i := 2) (N := some 35) (v := ?_) (a' := ?_) #[true, true, true, false, false, false, false, false, false, false, false, false, false, false, false, false, false, false, false, false, false, false, false, false, false, false, false, false, false, false, false] rfl rfl (any_of HT_.out (by kernel_rfl)) (fun _ _ _ h => h) (Or.inl ⟨by rfl, ?_⟩) ?_ ?_
                 rotate_left
                 ·intro w'
                  go_simp
                  with_reducible rfl
                 rotate_left
                 ·simp only [Act.put, List.setIfInBounds_toArray, List.set_cons_zero, List.set_cons_succ, i64_w, i32_w]
                  rfl
                 refine pure_ (i := 3) (N := some 36) (v := ?_) (a' := ?_) #[true, true, true, true, false, false, false, false, false, false, false, false, false, false, false, false, false, false, false, false, false, false, false, false, false, false, false, false, false, false, false] rfl rfl (any_of HT_.out (by kernel_rfl)) (fun _ _ _ h => h) (Or.inl ⟨by rfl, ?_⟩) ?_ ?_
                 rotate_left
                 ·intro w'
                  go_simp
                  with_reducible rfl
                 rotate_left
                 ·simp only [Act.put, List.setIfInBounds_toArray, List.set_cons_zero, List.set_cons_succ, i64_w, i32_w]
                  rfl
                 refine pure_ (i := 4) (N := some 37) (v := ?_) (a' := ?_) #[true, true, true, true, true, false, false, false, false, false, false, false, false, false, false, false, false, false, false, false, false, false, false, false, false, false, false, false, false, false, false] rfl rfl (any_of HT_.out (by kernel_rfl)) (fun _ _ _ h => h) (Or.inl ⟨by rfl, ?_⟩) ?_ ?_
                 rotate_left
                 ·intro w'
                  go_simp
                  with_reducible rfl
                 rotate_left
                 ·simp only [Act.put, List.setIfInBounds_toArray, List.set_cons_zero, List.set_cons_succ, i64_w, i32_w]
                  rfl
                 refine pure_ (i := 9) (N := some 42) (v := ?_) (a' := ?_) #[true, true, true, true, true, false, false, false, false, true, false, false, false, false, false, false, false, false, false, false, false, false, false, false, false, false, false, false, false, false, false] rfl rfl (any_of HT_.out (by kernel_rfl)) (fun _ _ _ h => h) (Or.inl ⟨by rfl, ?_⟩) ?_ ?_
                 rotate_left
                 ·intro w'
                  go_simp
                  with_reducible rfl
                 rotate_left
                 ·simp only [Act.put, List.setIfInBounds_toArray, List.set_cons_zero, List.set_cons_succ, i64_w, i32_w]
                  rfl
                 refine pure_ (i := 10) (N := some 43) (v := ?_) (a' := ?_) #[true, true, true, true, true, false, false, false, false, true, true, false, false, false, false, false, false, false, false, false, false, false, false, false, false, false, false, false, false, false, false] rfl rfl (any_of HT_.out (by kernel_rfl)) (fun _ _ _ h => h) (Or.inl ⟨by rfl, ?_⟩) ?_ ?_
                 rotate_left
                 ·intro w'
                  go_simp
                  with_reducible rfl
                 rotate_left
                 ·simp only [Act.put, List.setIfInBounds_toArray, List.set_cons_zero, List.set_cons_succ, i64_w, i32_w]
                  rfl
                 refine pure_ (i := 11) (N := some 44) (v := ?_) (a' := ?_) #[true, true, true, true, true, false, false, false, false, true, true, true, false, false, false, false, false, false, false, false, false, false, false, false, false, false, false, false, false, false, false] rfl rfl (any_of HT_.out (by kernel_rfl)) (fun _ _ _ h => h) (Or.inl ⟨by rfl, ?_⟩) ?_ ?_
                 rotate_left
                 ·intro w'
                  go_simp
                  with_reducible rfl
                 rotate_left
                 ·simp only [Act.put, List.setIfInBounds_toArray, List.set_cons_zero, List.set_cons_succ, i64_w, i32_w]
                  rfl
                 refine pure_ (i := 12) (N := some 45) (v := ?_) (a' := ?_) #[true, true, true, true, true, false, false, false, false, true, true, true, true, false, false, false, false, false, false, false, false, false, false, false, false, false, false, false, false, false, false] rfl rfl (any_of HT_.out (by kernel_rfl)) (fun _ _ _ h => h) (Or.inl ⟨by rfl, ?_⟩) ?_ ?_
                 rotate_left
                 ·intro w'
                  go_simp
                  with_reducible rfl
                 rotate_left
                 ·simp only [Act.put, List.setIfInBounds_toArray, List.set_cons_zero, List.set_cons_succ, i64_w, i32_w]
                  rfl
                 refine pure_ (i := 13) (N := some 46) (v := ?_) (a' := ?_) #[true, true, true, true, true, false, false, false, false, true, true, true, true, true, false, false, false, false, false, false, false, false, false, false, false, false, false, false, false, false, false] rfl rfl (any_of HT_.out (by kernel_rfl)) (fun _ _ _ h => h) (Or.inl ⟨by rfl, ?_⟩) ?_ ?_
                 rotate_left
                 ·intro w'
                  go_simp
                  with_reducible rfl
                 rotate_left
                 ·simp only [Act.put, List.setIfInBounds_toArray, List.set_cons_zero, List.set_cons_succ, i64_w, i32_w]
                  rfl
                 refine pure_ (i := 19) (N := some 52) (v := ?_) (a' := ?_) #[true, true, true, true, true, false, false, false, false, true, true, true, true, true, false, false, false, false, false, true, false, false, false, false, false, false, false, false, false, false, false] rfl rfl (any_of HT_.out (by kernel_rfl)) (fun _ _ _ h => h) (Or.inl ⟨by rfl, ?_⟩) ?_ ?_
                 rotate_left
                 ·intro w'
                  go_simp
                  with_reducible rfl
                 rotate_left
                 ·simp only [Act.put, List.setIfInBounds_toArray, List.set_cons_zero, List.set_cons_succ, i64_w, i32_w]
                  rfl
                 refine pure_ (i := 22) (N := some 55) (v := ?_) (a' := ?_) #[true, true, true, true, true, false, false, false, false, true, true, true, true, true, false, false, false, false, false, true, false, false, true, false, false, false, false, false, false, false, false] rfl rfl (any_of HT_.out (by kernel_rfl)) (fun _ _ _ h => h) (Or.inl ⟨by rfl, ?_⟩) ?_ ?_
                 rotate_left
                 ·intro w'
                  go_simp
                  with_reducible rfl
                 rotate_left
                 ·simp only [Act.put, List.setIfInBounds_toArray, List.set_cons_zero, List.set_cons_succ, i64_w, i32_w]
                  rfl
                 refine pure_ (i := 23) (N := some 56) (v := ?_) (a' := ?_) #[true, true, true, true, true, false, false, false, false, true, true, true, true, true, false, false, false, false, false, true, false, false, true, true, false, false, false, false, false, false, false] rfl rfl (any_of HT_.out (by kernel_rfl)) (fun _ _ _ h => h) (Or.inl ⟨by rfl, ?_⟩) ?_ ?_
                 rotate_left
                 ·intro w'
                  go_simp
                  with_reducible rfl
                 rotate_left
                 ·simp only [Act.put, List.setIfInBounds_toArray, List.set_cons_zero, List.set_cons_succ, i64_w, i32_w]
                  rfl
                 refine pure_ (i := 24) (N := some 57) (v := ?_) (a' := ?_) #[true, true, true, true, true, false, false, false, false, true, true, true, true, true, false, false, false, false, false, true, false, false, true, true, true, false, false, false, false, false, false] rfl rfl (any_of HT_.out (by kernel_rfl)) (fun _ _ _ h => h) (Or.inl ⟨by rfl, ?_⟩) ?_ ?_
                 rotate_left
                 ·intro w'
                  go_simp
                  with_reducible rfl
                 rotate_left
                 ·simp only [Act.put, List.setIfInBounds_toArray, List.set_cons_zero, List.set_cons_succ, i64_w, i32_w]
                  rfl
                 refine pure_ (i := 25) (N := some 58) (v := ?_) (a' := ?_) #[true, true, true, true, true, false, false, false, false, true, true, true, true, true, false, false, false, false, false, true, false, false, true, true, true, true, false, false, false, false, false] rfl rfl (any_of HT_.out (by kernel_rfl)) (fun _ _ _ h => h) (Or.inl ⟨by rfl, ?_⟩) ?_ ?_
                 rotate_left
                 ·intro w'
                  go_simp
                  with_reducible rfl
                 rotate_left
                 ·simp only [Act.put, List.setIfInBounds_toArray, List.set_cons_zero, List.set_cons_succ, i64_w, i32_w]
                  rfl
                 refine take_ (i := 5) (N := some 38) (v := ?_) (a' := ?_) #[true, true, true, true, true, true, false, false, false, true, true, true, true, true, false, false, false, false, false, true, false, false, true, true, true, true, false, false, false, false, false] rfl rfl (take_ofW HT_.out HW_.out (by kernel_rfl)) (fun _ _ _ h => h) (Or.inl ⟨by rfl, ?_⟩) hHeld ?_ ?_
                 rotate_left
                 ·rintro w' ⟨s0, s1, s2, s3, s4, s5, s6, s7, s8, s9, s10, s11, s12⟩
                  go_simp
                  with_reducible rfl
                 rotate_left
                 ·simp only [Act.put, List.setIfInBounds_toArray, List.set_cons_zero, List.set_cons_succ, i64_w, i32_w]
                  rfl
                 refine take_ (i := 14) (N := some 47) (v := ?_) (a' := ?_) #[true, true, true, true, true, true, false, false, false, true, true, true, true, true, true, false, false, false, false, true, false, false, true, true, true, true, false, false, false, false, false] rfl rfl (take_ofW HT_.out HW_.out (by kernel_rfl)) (fun _ _ _ h => h) (Or.inl ⟨by rfl, ?_⟩) hHeld ?_ ?_
                 rotate_left
                 ·rintro w' ⟨s0, s1, s2, s3, s4, s5, s6, s7, s8, s9, s10, s11, s12⟩
                  go_simp
                  with_reducible rfl
                 rotate_left
                 ·simp only [Act.put, List.setIfInBounds_toArray, List.set_cons_zero, List.set_cons_succ, i64_w, i32_w]
                  rfl
                 refine pure_ (i := 15) (N := some 48) (v := ?_) (a' := ?_) #[true, true, true, true, true, true, false, false, false, true, true, true, true, true, true, true, false, false, false, true, false, false, true, true, true, true, false, false, false, false, false] rfl rfl (any_of HT_.out (by kernel_rfl)) (fun _ _ _ h => h) (Or.inl ⟨by rfl, ?_⟩) ?_ ?_
                 rotate_left
                 ·intro w'
                  go_simp
                  with_reducible rfl
                 rotate_left
                 ·simp only [Act.put, List.setIfInBounds_toArray, List.set_cons_zero, List.set_cons_succ, i64_w, i32_w]
                  rfl
                 refine take_ (i := 16) (N := some 49) (v := ?_) (a' := ?_) #[true, true, true, true, true, true, false, false, false, true, true, true, true, true, true, true, true, false, false, true, false, false, true, true, true, true, false, false, false, false, false] rfl rfl (take_ofW HT_.out HW_.out (by kernel_rfl)) (fun _ _ _ h => h) (Or.inl ⟨by rfl, ?_⟩) hHeld ?_ ?_
                 rotate_left
                 ·rintro w' ⟨s0, s1, s2, s3, s4, s5, s6, s7, s8, s9, s10, s11, s12⟩
                  go_simp
                  with_reducible rfl
                 rotate_left
                 ·simp only [Act.put, List.setIfInBounds_toArray, List.set_cons_zero, List.set_cons_succ, i64_w, i32_w]
                  rfl
                 refine take_ (i := 26) (N := some 59) (v := ?_) (a' := ?_) #[true, true, true, true, true, true, false, false, false, true, true, true, true, true, true, true, true, false, false, true, false, false, true, true, true, true, true, false, false, false, false] rfl rfl (take_ofW HT_.out HW_.out (by kernel_rfl)) (fun _ _ _ h => h) (Or.inl ⟨by rfl, ?_⟩) hHeld ?_ ?_
                 rotate_left
                 ·rintro w' ⟨s0, s1, s2, s3, s4, s5, s6, s7, s8, s9, s10, s11, s12⟩
                  go_simp
                  with_reducible rfl
                 rotate_left
                 ·simp only [Act.put, List.setIfInBounds_toArray, List.set_cons_zero, List.set_cons_succ, i64_w, i32_w]
                  rfl
                 refine one_ (i := 6) (N := some 39) #[true, true, true, true, true, true, true, false, false, true, true, true, true, true, true, true, true, false, false, true, false, false, true, true, true, true, true, false, false, false, false] rfl rfl (one_of HT_.out (by kernel_rfl)) (by decide) (fun K hK => ?_)
                 refine goes_ Tryd.func18 (by kernel_rfl) rfl #[.int .i64 ((rd_T44 l0 x6_1).f0)] (by rfl) rfl rfl (by (try simp only [List.map_toArray, List.map_cons, List.map_nil]); first | done | rfl | (simp only [List.length_drop, List.length_take]; rfl)) ?_
                 with_reducible refine (taskmasterref7_Digits.calls k1 ((rd_T44 l0 x6_1).f0) t209 _ A9.out).mono ?_
                 rintro e w24 ⟨rfl, hb⟩
                 have HS8_ := (hb.cell (World.block_lt_of_cell? _ _ (hHeld.2.2.2.2.2.2.2.2.1))).trans (hHeld.2.2.2.2.2.2.2.2.1)
                 refine ⟨_, rfl, ?_⟩
                 have n0_ := Aside0.mk (Kd.R_below (by (with_reducible repeat (first | apply Kd.R_alloc | apply Kd.R_drewN | apply Kd.R_drew)); exact HO_5.out) hb)
                 have n1_ := Aside0.mk (below_step (by repeat (first | (with_reducible first | exact HB.out | apply below_alloc | apply pw_below_drewN | apply below_drew1) | exact HB.out)) hb)
                 clear HO_5
                 clear HB
                 have HO_5 := n0_
                 have HB := n1_
                 clear n0_ n1_
                 (try clear hb)
                 (try clear hb2)
                 (try clear hk)
                 (try clear hi)
                 refine hK.out _ _ ⟨((HB.out.cell (World.block_lt_of_cell? w _ hw208_0)).trans hw208_0), ((HB.out.cell (World.block_lt_of_cell? w _ hw208_1)).trans hw208_1), ((HB.out.cell (World.block_lt_of_cell? w _ hw208_2)).trans hw208_2), ((HB.out.cell (World.block_lt_of_cell? w _ hw208_3)).trans hw208_3), ((HB.out.cell (World.block_lt_of_cell? w _ hw210_0)).trans hw210_0), ((HB.out.cell (World.block_lt_of_cell? w _ hw210_1)).trans hw210_1), ((HB.out.cell (World.block_lt_of_cell? w _ hw210_2)).trans hw210_2), ((HB.out.cell (World.block_lt_of_cell? w _ hw210_3)).trans hw210_3), HS8_, ((HB.out.cell (World.block_lt_of_cell? w _ hw212_0)).trans hw212_0), ((HB.out.cell (World.block_lt_of_cell? w _ hw212_1)).trans hw212_1), ((HB.out.cell (World.block_lt_of_cell? w _ hw212_2)).trans hw212_2), ((HB.out.cell (World.block_lt_of_cell? w _ hw212_3)).trans hw212_3)⟩ (fun hHeld => ?_)
                 clear hK K
                 refine norm_ (a' := ?_) ?_ ?_
                 rotate_left
                 ·show Act.put _ (some 39) _ = _
                  simp only [Act.put, List.setIfInBounds_toArray, List.set_cons_zero, List.set_cons_succ, i64_w, i32_w]
                  rfl
                 refine pure_ (i := 7) (N := some 40) (v := ?_) (a' := ?_) #[true, true, true, true, true, true, true, true, false, true, true, true, true, true, true, true, true, false, false, true, false, false, true, true, true, true, true, false, false, false, false] rfl rfl (any_of HT_.out (by kernel_rfl)) (fun _ _ _ h => h) (Or.inl ⟨by rfl, ?_⟩) ?_ ?_
                 rotate_left
                 ·intro w'
                  go_simp
                  with_reducible rfl
                 rotate_left
                 ·simp only [Act.put, List.setIfInBounds_toArray, List.set_cons_zero, List.set_cons_succ, i64_w, i32_w]
                  rfl
                 refine pure_ (i := 8) (N := some 41) (v := ?_) (a' := ?_) #[true, true, true, true, true, true, true, true, true, true, true, true, true, true, true, true, true, false, false, true, false, false, true, true, true, true, true, false, false, false, false] rfl rfl (any_of HT_.out (by kernel_rfl)) (fun _ _ _ h => h) (Or.inl ⟨by rfl, ?_⟩) ?_ ?_
                 rotate_left
                 ·intro w'
                  go_simp
                  with_reducible rfl
                 rotate_left
                 ·simp only [Act.put, List.setIfInBounds_toArray, List.set_cons_zero, List.set_cons_succ, i64_w, i32_w]
                  rfl
                 refine pure_ (i := 17) (N := some 50) (v := ?_) (a' := ?_) #[true, true, true, true, true, true, true, true, true, true, true, true, true, true, true, true, true, true, false, true, false, false, true, true, true, true, true, false, false, false, false] rfl rfl (any_of HT_.out (by kernel_rfl)) (fun _ _ _ h => h) (Or.inl ⟨by rfl, ?_⟩) ?_ ?_
                 rotate_left
                 ·intro w'
                  go_simp
                  with_reducible rfl
                 rotate_left
                 ·simp only [Act.put, List.setIfInBounds_toArray, List.set_cons_zero, List.set_cons_succ, i64_w, i32_w]
                  rfl
                 refine pure_ (i := 18) (N := some 51) (v := ?_) (a' := ?_) #[true, true, true, true, true, true, true, true, true, true, true, true, true, true, true, true, true, true, true, true, false, false, true, true, true, true, true, false, false, false, false] rfl rfl (any_of HT_.out (by kernel_rfl)) (fun _ _ _ h => h) (Or.inl ⟨by rfl, ?_⟩) ?_ ?_
                 rotate_left
                 ·intro w'
                  go_simp
                  with_reducible rfl
                 rotate_left
                 ·simp only [Act.put, List.setIfInBounds_toArray, List.set_cons_zero, List.set_cons_succ, i64_w, i32_w]
                  rfl
                 refine pure_ (i := 20) (N := some 53) (v := ?_) (a' := ?_) #[true, true, true, true, true, true, true, true, true, true, true, true, true, true, true, true, true, true, true, true, true, false, true, true, true, true, true, false, false, false, false] rfl rfl (any_of HT_.out (by kernel_rfl)) (fun _ _ _ h => h) (Or.inl ⟨by rfl, ?_⟩) ?_ ?_
                 rotate_left
                 ·intro w'
                  go_simp
                  with_reducible rfl
                 rotate_left
                 ·simp only [Act.put, List.setIfInBounds_toArray, List.set_cons_zero, List.set_cons_succ, i64_w, i32_w]
                  rfl
                 refine pure_ (i := 21) (N := some 54) (v := ?_) (a' := ?_) #[true, true, true, true, true, true, true, true, true, true, true, true, true, true, true, true, true, true, true, true, true, true, true, true, true, true, true, false, false, false, false] rfl rfl (any_of HT_.out (by kernel_rfl)) (fun _ _ _ h => h) (Or.inl ⟨by rfl, ?_⟩) ?_ ?_
                 rotate_left
                 ·intro w'
                  go_simp
                  with_reducible rfl
                 rotate_left
                 ·simp only [Act.put, List.setIfInBounds_toArray, List.set_cons_zero, List.set_cons_succ, i64_w, i32_w]
                  rfl
                 refine one_ (i := 27) (N := some 60) #[true, true, true, true, true, true, true, true, true, true, true, true, true, true, true, true, true, true, true, true, true, true, true, true, true, true, true, true, false, false, false] rfl rfl (one_of HT_.out (by kernel_rfl)) (by decide) (fun K hK => ?_)
                 refine goes_ Tryd.func18 (by kernel_rfl) rfl #[.int .i64 ((rd_T44 l0 x6_1).f3)] (by rfl) rfl rfl (by (try simp only [List.map_toArray, List.map_cons, List.map_nil]); first | done | rfl | (simp only [List.length_drop, List.length_take]; rfl)) ?_
                 with_reducible refine (taskmasterref7_Digits.calls k1 ((rd_T44 l0 x6_1).f3) t213 _ A18.out).mono ?_
                 rintro e w25 ⟨rfl, hb⟩
                 have HS8_ := (hb.cell (World.block_lt_of_cell? _ _ (hHeld.2.2.2.2.2.2.2.2.1))).trans (hHeld.2.2.2.2.2.2.2.2.1)
                 refine ⟨_, rfl, ?_⟩
                 have n0_ := Aside0.mk (Kd.R_below (by (with_reducible repeat (first | apply Kd.R_alloc | apply Kd.R_drewN | apply Kd.R_drew)); exact HO_5.out) hb)
                 have n1_ := Aside0.mk (below_step (by repeat (first | (with_reducible first | exact HB.out | apply below_alloc | apply pw_below_drewN | apply below_drew1) | exact HB.out)) hb)
                 clear HO_5
                 clear HB
                 have HO_5 := n0_
                 have HB := n1_
                 clear n0_ n1_
                 (try clear hb)
                 (try clear hb2)
                 (try clear hk)
                 (try clear hi)
                 refine hK.out _ _ ⟨((HB.out.cell (World.block_lt_of_cell? w _ hw208_0)).trans hw208_0), ((HB.out.cell (World.block_lt_of_cell? w _ hw208_1)).trans hw208_1), ((HB.out.cell (World.block_lt_of_cell? w _ hw208_2)).trans hw208_2), ((HB.out.cell (World.block_lt_of_cell? w _ hw208_3)).trans hw208_3), ((HB.out.cell (World.block_lt_of_cell? w _ hw210_0)).trans hw210_0), ((HB.out.cell (World.block_lt_of_cell? w _ hw210_1)).trans hw210_1), ((HB.out.cell (World.block_lt_of_cell? w _ hw210_2)).trans hw210_2), ((HB.out.cell (World.block_lt_of_cell? w _ hw210_3)).trans hw210_3), HS8_, ((HB.out.cell (World.block_lt_of_cell? w _ hw212_0)).trans hw212_0), ((HB.out.cell (World.block_lt_of_cell? w _ hw212_1)).trans hw212_1), ((HB.out.cell (World.block_lt_of_cell? w _ hw212_2)).trans hw212_2), ((HB.out.cell (World.block_lt_of_cell? w _ hw212_3)).trans hw212_3)⟩ (fun hHeld => ?_)
                 clear hK K
                 refine norm_ (a' := ?_) ?_ ?_
                 rotate_left
                 ·show Act.put _ (some 60) _ = _
                  simp only [Act.put, List.setIfInBounds_toArray, List.set_cons_zero, List.set_cons_succ, i64_w, i32_w]
                  rfl
                 refine pure_ (i := 28) (N := some 61) (v := ?_) (a' := ?_) #[true, true, true, true, true, true, true, true, true, true, true, true, true, true, true, true, true, true, true, true, true, true, true, true, true, true, true, true, true, false, false] rfl rfl (any_of HT_.out (by kernel_rfl)) (fun _ _ _ h => h) (Or.inl ⟨by rfl, ?_⟩) ?_ ?_
                 rotate_left
                 ·intro w'
                  go_simp
                  with_reducible rfl
                 rotate_left
                 ·simp only [Act.put, List.setIfInBounds_toArray, List.set_cons_zero, List.set_cons_succ, i64_w, i32_w]
                  rfl
                 refine pure_ (i := 29) (N := some 62) (v := ?_) (a' := ?_) #[true, true, true, true, true, true, true, true, true, true, true, true, true, true, true, true, true, true, true, true, true, true, true, true, true, true, true, true, true, true, false] rfl rfl (any_of HT_.out (by kernel_rfl)) (fun _ _ _ h => h) (Or.inl ⟨by rfl, ?_⟩) ?_ ?_
                 rotate_left
                 ·intro w'
                  go_simp
                  with_reducible rfl
                 rotate_left
                 ·simp only [Act.put, List.setIfInBounds_toArray, List.set_cons_zero, List.set_cons_succ, i64_w, i32_w]
                  rfl
                 refine pure_ (i := 30) (N := some 4) (v := ?_) (a' := ?_) #[true, true, true, true, true, true, true, true, true, true, true, true, true, true, true, true, true, true, true, true, true, true, true, true, true, true, true, true, true, true, true] rfl rfl (any_of HT_.out (by kernel_rfl)) (fun _ _ _ h => h) (Or.inl ⟨by rfl, ?_⟩) ?_ ?_
                 rotate_left
                 ·intro w'
                  go_simp
                  with_reducible rfl
                 rotate_left
                 ·simp only [Act.put, List.setIfInBounds_toArray, List.set_cons_zero, List.set_cons_succ, i64_w, i32_w]
                  rfl
                 refine done_ (done_of HT_.out (by kernel_rfl)) ?_
                 try go_wp2
                 go_roundg k1
                 case measure => have := HK1.out; omega
                 case rel => exact ⟨((((((((x4_1 ++ t209) ++ (⟨#[32]⟩ : ByteArray)) ++ (rdOf ByteArray.empty t202 ((rd_T44 l0 x6_1).f1))) ++ (⟨#[32]⟩ : ByteArray)) ++ (⟨#[45]⟩ : ByteArray)) ++ (⟨#[32]⟩ : ByteArray)) ++ t213) ++ (⟨#[10]⟩ : ByteArray)), (wrap64 (x6_1 + 1)), (by first | rfl | (simp; done) | (simp [*]; done)), (by first | rfl | (simp; done) | (simp [*]; done)), H', ⟨by have := HK1.out; omega⟩, ⟨by (with_reducible repeat (first | apply Kd.R_alloc | apply Kd.R_drewN | apply Kd.R_drew)); exact HO_5.out⟩, ⟨by repeat (first | (with_reducible first | exact HB.out | apply below_alloc | apply pw_below_drewN | apply below_drew1) | exact HB.out)⟩⟩
                ·rw [if_neg c20] at H
                 exact absurd H (by simp)
               ·rw [if_neg c19] at H
                exact absurd H (by simp)
              ·rw [if_neg c17] at H
               exact absurd H (by simp)
             ·rw [if_neg c16] at H
              exact absurd H (by simp)
            ·rw [if_neg c15] at H
             exact absurd H (by simp)
           ·rw [if_neg c14] at H
            exact absurd H (by simp)
          ·rw [if_neg c13] at H
           exact absurd H (by simp)
         ·rw [if_neg c12] at H
          exact absurd H (by simp)
        ·rw [if_neg c11] at H
         exact absurd H (by simp)
       ·rw [if_neg c10] at H
        exact absurd H (by simp)
      ·rw [if_neg c8] at H
       have c8b0 : (((rd_T44 l0 x6_1).f1) == 10) = false := beq_eq_false_iff_ne.mpr c8
       have c8b1 : (((rd_T44 l0 x6_1).f1) != 10) = true := bne_iff_ne.mpr c8
       replace H := Option.bind_eq_some_iff.mp H
       obtain ⟨t215, A260, H⟩ := H
       replace H : ((taskmasterref7_Digits.f k1 ((rd_T44 l0 x6_1).f0)).bind fun t217 => (if x4_1.size + t217.size ≤ 9223372036854775807 then (if (x4_1 ++ t217).size + 1 ≤ 9223372036854775807 then (if 0 ≤ ((rd_T44 l0 x6_1).f1) then (if ((rd_T44 l0 x6_1).f1) < (t202.length : Int) then (if ((x4_1 ++ t217) ++ (⟨#[32]⟩ : ByteArray)).size + (rdOf ByteArray.empty t202 ((rd_T44 l0 x6_1).f1)).size ≤ 9223372036854775807 then (if (((x4_1 ++ t217) ++ (⟨#[32]⟩ : ByteArray)) ++ (rdOf ByteArray.empty t202 ((rd_T44 l0 x6_1).f1))).size + 1 ≤ 9223372036854775807 then (if ((((x4_1 ++ t217) ++ (⟨#[32]⟩ : ByteArray)) ++ (rdOf ByteArray.empty t202 ((rd_T44 l0 x6_1).f1))) ++ (⟨#[32]⟩ : ByteArray)).size + t215.size ≤ 9223372036854775807 then (if (((((x4_1 ++ t217) ++ (⟨#[32]⟩ : ByteArray)) ++ (rdOf ByteArray.empty t202 ((rd_T44 l0 x6_1).f1))) ++ (⟨#[32]⟩ : ByteArray)) ++ t215).size + 1 ≤ 9223372036854775807 then ((taskmasterref7_Digits.f k1 ((rd_T44 l0 x6_1).f3)).bind fun t221 => (if ((((((x4_1 ++ t217) ++ (⟨#[32]⟩ : ByteArray)) ++ (rdOf ByteArray.empty t202 ((rd_T44 l0 x6_1).f1))) ++ (⟨#[32]⟩ : ByteArray)) ++ t215) ++ (⟨#[32]⟩ : ByteArray)).size + t221.size ≤ 9223372036854775807 then (if (((((((x4_1 ++ t217) ++ (⟨#[32]⟩ : ByteArray)) ++ (rdOf ByteArray.empty t202 ((rd_T44 l0 x6_1).f1))) ++ (⟨#[32]⟩ : ByteArray)) ++ t215) ++ (⟨#[32]⟩ : ByteArray)) ++ t221).size + 1 ≤ 9223372036854775807 then (taskmasterref26_Text.l0 k1 l0 ((((((((x4_1 ++ t217) ++ (⟨#[32]⟩ : ByteArray)) ++ (rdOf ByteArray.empty t202 ((rd_T44 l0 x6_1).f1))) ++ (⟨#[32]⟩ : ByteArray)) ++ t215) ++ (⟨#[32]⟩ : ByteArray)) ++ t221) ++ (⟨#[10]⟩ : ByteArray)) t202 (wrap64 (x6_1 + 1))) else (none)) else (none))) else (none)) else (none)) else (none)) else (none)) else (none)) else (none)) else (none)) else (none))) = some (r1, r2) := H
       have A26 := Aside0.mk A260
       clear A260
       replace H := Option.bind_eq_some_iff.mp H
       obtain ⟨t217, A270, H⟩ := H
       replace H : (if x4_1.size + t217.size ≤ 9223372036854775807 then (if (x4_1 ++ t217).size + 1 ≤ 9223372036854775807 then (if 0 ≤ ((rd_T44 l0 x6_1).f1) then (if ((rd_T44 l0 x6_1).f1) < (t202.length : Int) then (if ((x4_1 ++ t217) ++ (⟨#[32]⟩ : ByteArray)).size + (rdOf ByteArray.empty t202 ((rd_T44 l0 x6_1).f1)).size ≤ 9223372036854775807 then (if (((x4_1 ++ t217) ++ (⟨#[32]⟩ : ByteArray)) ++ (rdOf ByteArray.empty t202 ((rd_T44 l0 x6_1).f1))).size + 1 ≤ 9223372036854775807 then (if ((((x4_1 ++ t217) ++ (⟨#[32]⟩ : ByteArray)) ++ (rdOf ByteArray.empty t202 ((rd_T44 l0 x6_1).f1))) ++ (⟨#[32]⟩ : ByteArray)).size + t215.size ≤ 9223372036854775807 then (if (((((x4_1 ++ t217) ++ (⟨#[32]⟩ : ByteArray)) ++ (rdOf ByteArray.empty t202 ((rd_T44 l0 x6_1).f1))) ++ (⟨#[32]⟩ : ByteArray)) ++ t215).size + 1 ≤ 9223372036854775807 then ((taskmasterref7_Digits.f k1 ((rd_T44 l0 x6_1).f3)).bind fun t221 => (if ((((((x4_1 ++ t217) ++ (⟨#[32]⟩ : ByteArray)) ++ (rdOf ByteArray.empty t202 ((rd_T44 l0 x6_1).f1))) ++ (⟨#[32]⟩ : ByteArray)) ++ t215) ++ (⟨#[32]⟩ : ByteArray)).size + t221.size ≤ 9223372036854775807 then (if (((((((x4_1 ++ t217) ++ (⟨#[32]⟩ : ByteArray)) ++ (rdOf ByteArray.empty t202 ((rd_T44 l0 x6_1).f1))) ++ (⟨#[32]⟩ : ByteArray)) ++ t215) ++ (⟨#[32]⟩ : ByteArray)) ++ t221).size + 1 ≤ 9223372036854775807 then (taskmasterref26_Text.l0 k1 l0 ((((((((x4_1 ++ t217) ++ (⟨#[32]⟩ : ByteArray)) ++ (rdOf ByteArray.empty t202 ((rd_T44 l0 x6_1).f1))) ++ (⟨#[32]⟩ : ByteArray)) ++ t215) ++ (⟨#[32]⟩ : ByteArray)) ++ t221) ++ (⟨#[10]⟩ : ByteArray)) t202 (wrap64 (x6_1 + 1))) else (none)) else (none))) else (none)) else (none)) else (none)) else (none)) else (none)) else (none)) else (none)) else (none)) = some (r1, r2) := H
       have A27 := Aside0.mk A270
       clear A270
       by_cases c28 : x4_1.size + t217.size ≤ 9223372036854775807
       ·rw [if_pos c28] at H
        have c28b0 := eq_true c28
        have c28b1 : decide (x4_1.size + t217.size ≤ 9223372036854775807) = true := decide_eq_true c28
        try have c28b2 : (9223372036854775807 < x4_1.size + t217.size) = False := eq_false (Nat.not_lt.2 c28)
        by_cases c29 : (x4_1 ++ t217).size + 1 ≤ 9223372036854775807
        ·rw [if_pos c29] at H
         have c29b0 := eq_true c29
         have c29b1 : decide ((x4_1 ++ t217).size + 1 ≤ 9223372036854775807) = true := decide_eq_true c29
         try have c29b2 : (9223372036854775807 < (x4_1 ++ t217).size + 1) = False := eq_false (Nat.not_lt.2 c29)
         try have c29b3z : (9223372036854775807 < x4_1.size + t217.size + 1) = False := eq_false (Nat.not_lt.2 (by have h_ := c29; simp only [ByteArray.size_append] at h_; exact h_))
         by_cases c30 : 0 ≤ ((rd_T44 l0 x6_1).f1)
         ·rw [if_pos c30] at H
          have c30b0 : decide (0 ≤ ((rd_T44 l0 x6_1).f1)) = true := decide_eq_true c30
          clear c30
          by_cases c31 : ((rd_T44 l0 x6_1).f1) < (t202.length : Int)
          ·rw [if_pos c31] at H
           have c31b0 : decide (((rd_T44 l0 x6_1).f1) < (t202.length : Int)) = true := decide_eq_true c31
           clear c31
           by_cases c32 : ((x4_1 ++ t217) ++ (⟨#[32]⟩ : ByteArray)).size + (rdOf ByteArray.empty t202 ((rd_T44 l0 x6_1).f1)).size ≤ 9223372036854775807
           ·rw [if_pos c32] at H
            have c32b0 := eq_true c32
            have c32b1 : decide (((x4_1 ++ t217) ++ (⟨#[32]⟩ : ByteArray)).size + (rdOf ByteArray.empty t202 ((rd_T44 l0 x6_1).f1)).size ≤ 9223372036854775807) = true := decide_eq_true c32
            try have c32b2 : (9223372036854775807 < ((x4_1 ++ t217) ++ (⟨#[32]⟩ : ByteArray)).size + (rdOf ByteArray.empty t202 ((rd_T44 l0 x6_1).f1)).size) = False := eq_false (Nat.not_lt.2 c32)
            try have c32b3z : (9223372036854775807 < x4_1.size + t217.size + 1 + (rdOf ByteArray.empty t202 ((rd_T44 l0 x6_1).f1)).size) = False := eq_false (Nat.not_lt.2 (by have h_ := c32; simp only [ByteArray.size_append] at h_; exact h_))
            by_cases c33 : (((x4_1 ++ t217) ++ (⟨#[32]⟩ : ByteArray)) ++ (rdOf ByteArray.empty t202 ((rd_T44 l0 x6_1).f1))).size + 1 ≤ 9223372036854775807
            ·rw [if_pos c33] at H
             have c33b0 := eq_true c33
             have c33b1 : decide ((((x4_1 ++ t217) ++ (⟨#[32]⟩ : ByteArray)) ++ (rdOf ByteArray.empty t202 ((rd_T44 l0 x6_1).f1))).size + 1 ≤ 9223372036854775807) = true := decide_eq_true c33
             try have c33b2 : (9223372036854775807 < (((x4_1 ++ t217) ++ (⟨#[32]⟩ : ByteArray)) ++ (rdOf ByteArray.empty t202 ((rd_T44 l0 x6_1).f1))).size + 1) = False := eq_false (Nat.not_lt.2 c33)
             try have c33b3z : (9223372036854775807 < x4_1.size + t217.size + 1 + (rdOf ByteArray.empty t202 ((rd_T44 l0 x6_1).f1)).size + 1) = False := eq_false (Nat.not_lt.2 (by have h_ := c33; simp only [ByteArray.size_append] at h_; exact h_))
             by_cases c34 : ((((x4_1 ++ t217) ++ (⟨#[32]⟩ : ByteArray)) ++ (rdOf ByteArray.empty t202 ((rd_T44 l0 x6_1).f1))) ++ (⟨#[32]⟩ : ByteArray)).size + t215.size ≤ 9223372036854775807
             ·rw [if_pos c34] at H
              have c34b0 := eq_true c34
              have c34b1 : decide (((((x4_1 ++ t217) ++ (⟨#[32]⟩ : ByteArray)) ++ (rdOf ByteArray.empty t202 ((rd_T44 l0 x6_1).f1))) ++ (⟨#[32]⟩ : ByteArray)).size + t215.size ≤ 9223372036854775807) = true := decide_eq_true c34
              try have c34b2 : (9223372036854775807 < ((((x4_1 ++ t217) ++ (⟨#[32]⟩ : ByteArray)) ++ (rdOf ByteArray.empty t202 ((rd_T44 l0 x6_1).f1))) ++ (⟨#[32]⟩ : ByteArray)).size + t215.size) = False := eq_false (Nat.not_lt.2 c34)
              try have c34b3z : (9223372036854775807 < x4_1.size + t217.size + 1 + (rdOf ByteArray.empty t202 ((rd_T44 l0 x6_1).f1)).size + 1 + t215.size) = False := eq_false (Nat.not_lt.2 (by have h_ := c34; simp only [ByteArray.size_append] at h_; exact h_))
              by_cases c35 : (((((x4_1 ++ t217) ++ (⟨#[32]⟩ : ByteArray)) ++ (rdOf ByteArray.empty t202 ((rd_T44 l0 x6_1).f1))) ++ (⟨#[32]⟩ : ByteArray)) ++ t215).size + 1 ≤ 9223372036854775807
              ·rw [if_pos c35] at H
               have c35b0 := eq_true c35
               have c35b1 : decide ((((((x4_1 ++ t217) ++ (⟨#[32]⟩ : ByteArray)) ++ (rdOf ByteArray.empty t202 ((rd_T44 l0 x6_1).f1))) ++ (⟨#[32]⟩ : ByteArray)) ++ t215).size + 1 ≤ 9223372036854775807) = true := decide_eq_true c35
               try have c35b2 : (9223372036854775807 < (((((x4_1 ++ t217) ++ (⟨#[32]⟩ : ByteArray)) ++ (rdOf ByteArray.empty t202 ((rd_T44 l0 x6_1).f1))) ++ (⟨#[32]⟩ : ByteArray)) ++ t215).size + 1) = False := eq_false (Nat.not_lt.2 c35)
               try have c35b3z : (9223372036854775807 < x4_1.size + t217.size + 1 + (rdOf ByteArray.empty t202 ((rd_T44 l0 x6_1).f1)).size + 1 + t215.size + 1) = False := eq_false (Nat.not_lt.2 (by have h_ := c35; simp only [ByteArray.size_append] at h_; exact h_))
               replace H := Option.bind_eq_some_iff.mp H
               obtain ⟨t221, A360, H⟩ := H
               replace H : (if ((((((x4_1 ++ t217) ++ (⟨#[32]⟩ : ByteArray)) ++ (rdOf ByteArray.empty t202 ((rd_T44 l0 x6_1).f1))) ++ (⟨#[32]⟩ : ByteArray)) ++ t215) ++ (⟨#[32]⟩ : ByteArray)).size + t221.size ≤ 9223372036854775807 then (if (((((((x4_1 ++ t217) ++ (⟨#[32]⟩ : ByteArray)) ++ (rdOf ByteArray.empty t202 ((rd_T44 l0 x6_1).f1))) ++ (⟨#[32]⟩ : ByteArray)) ++ t215) ++ (⟨#[32]⟩ : ByteArray)) ++ t221).size + 1 ≤ 9223372036854775807 then (taskmasterref26_Text.l0 k1 l0 ((((((((x4_1 ++ t217) ++ (⟨#[32]⟩ : ByteArray)) ++ (rdOf ByteArray.empty t202 ((rd_T44 l0 x6_1).f1))) ++ (⟨#[32]⟩ : ByteArray)) ++ t215) ++ (⟨#[32]⟩ : ByteArray)) ++ t221) ++ (⟨#[10]⟩ : ByteArray)) t202 (wrap64 (x6_1 + 1))) else (none)) else (none)) = some (r1, r2) := H
               have A36 := Aside0.mk A360
               clear A360
               by_cases c37 : ((((((x4_1 ++ t217) ++ (⟨#[32]⟩ : ByteArray)) ++ (rdOf ByteArray.empty t202 ((rd_T44 l0 x6_1).f1))) ++ (⟨#[32]⟩ : ByteArray)) ++ t215) ++ (⟨#[32]⟩ : ByteArray)).size + t221.size ≤ 9223372036854775807
               ·rw [if_pos c37] at H
                have c37b0 := eq_true c37
                have c37b1 : decide (((((((x4_1 ++ t217) ++ (⟨#[32]⟩ : ByteArray)) ++ (rdOf ByteArray.empty t202 ((rd_T44 l0 x6_1).f1))) ++ (⟨#[32]⟩ : ByteArray)) ++ t215) ++ (⟨#[32]⟩ : ByteArray)).size + t221.size ≤ 9223372036854775807) = true := decide_eq_true c37
                try have c37b2 : (9223372036854775807 < ((((((x4_1 ++ t217) ++ (⟨#[32]⟩ : ByteArray)) ++ (rdOf ByteArray.empty t202 ((rd_T44 l0 x6_1).f1))) ++ (⟨#[32]⟩ : ByteArray)) ++ t215) ++ (⟨#[32]⟩ : ByteArray)).size + t221.size) = False := eq_false (Nat.not_lt.2 c37)
                try have c37b3z : (9223372036854775807 < x4_1.size + t217.size + 1 + (rdOf ByteArray.empty t202 ((rd_T44 l0 x6_1).f1)).size + 1 + t215.size + 1 + t221.size) = False := eq_false (Nat.not_lt.2 (by have h_ := c37; simp only [ByteArray.size_append] at h_; exact h_))
                by_cases c38 : (((((((x4_1 ++ t217) ++ (⟨#[32]⟩ : ByteArray)) ++ (rdOf ByteArray.empty t202 ((rd_T44 l0 x6_1).f1))) ++ (⟨#[32]⟩ : ByteArray)) ++ t215) ++ (⟨#[32]⟩ : ByteArray)) ++ t221).size + 1 ≤ 9223372036854775807
                ·rw [if_pos c38] at H
                 have c38b0 := eq_true c38
                 have c38b1 : decide ((((((((x4_1 ++ t217) ++ (⟨#[32]⟩ : ByteArray)) ++ (rdOf ByteArray.empty t202 ((rd_T44 l0 x6_1).f1))) ++ (⟨#[32]⟩ : ByteArray)) ++ t215) ++ (⟨#[32]⟩ : ByteArray)) ++ t221).size + 1 ≤ 9223372036854775807) = true := decide_eq_true c38
                 try have c38b2 : (9223372036854775807 < (((((((x4_1 ++ t217) ++ (⟨#[32]⟩ : ByteArray)) ++ (rdOf ByteArray.empty t202 ((rd_T44 l0 x6_1).f1))) ++ (⟨#[32]⟩ : ByteArray)) ++ t215) ++ (⟨#[32]⟩ : ByteArray)) ++ t221).size + 1) = False := eq_false (Nat.not_lt.2 c38)
                 try have c38b3z : (9223372036854775807 < x4_1.size + t217.size + 1 + (rdOf ByteArray.empty t202 ((rd_T44 l0 x6_1).f1)).size + 1 + t215.size + 1 + t221.size + 1) = False := eq_false (Nat.not_lt.2 (by have h_ := c38; simp only [ByteArray.size_append] at h_; exact h_))
                 have H' := Aside0.mk H
                 clear H
                 have p205 : 0 ≤ (x6_1 : Int) := of_decide_eq_true (by first | (with_reducible assumption) | assumption)
                 have q205 : x6_1 < (l0.length : Int) := of_decide_eq_true (by first | (with_reducible assumption) | assumption)
                 obtain ⟨ad205, e205, hx205_0, hx205_1, hx205_2, hx205_3⟩ := at_T44 HR0.out x6_1 p205 q205
                 cases e205
                 replace hx205_0 := (HB.out.cell (World.block_lt_of_cell? w _ hx205_0)).trans hx205_0
                 replace hx205_1 := (HB.out.cell (World.block_lt_of_cell? w _ hx205_1)).trans hx205_1
                 replace hx205_2 := (HB.out.cell (World.block_lt_of_cell? w _ hx205_2)).trans hx205_2
                 replace hx205_3 := (HB.out.cell (World.block_lt_of_cell? w _ hx205_3)).trans hx205_3
                 replace p205 := eq_true p205
                 replace q205 := eq_true q205
                 try go_wp2_with (first | ((with_reducible refine gate_callee (f := 46) rfl ?_); refine goesL_ (some 19) rfl rfl Tryd.func46 (by kernel_rfl) rfl #[.agg #[.int .i64 ((rd_T44 l0 x6_1).f0), .int .i64 ((rd_T44 l0 x6_1).f1), .int .i64 ((rd_T44 l0 x6_1).f2), .int .i64 ((rd_T44 l0 x6_1).f3)]] rfl (by (try simp only [List.map_toArray, List.map_cons, List.map_nil]); first | done | rfl | (simp only [List.length_drop, List.length_take]; rfl)) ?_; (with_reducible refine (taskmasterref26_Is.calls k1 ((rd_T44 l0 x6_1).f0) ((rd_T44 l0 x6_1).f1) ((rd_T44 l0 x6_1).f2) ((rd_T44 l0 x6_1).f3) true _ A6.out).mono ?_); rintro e w39 ⟨rfl, hb⟩; refine ⟨_, rfl, ?_⟩; have n0_ := Aside0.mk (Kd.R_below (by (with_reducible repeat (first | apply Kd.R_alloc | apply Kd.R_drewN | apply Kd.R_drew)); exact HO_5.out) hb); have n1_ := Aside0.mk (below_step (by repeat (first | (with_reducible first | exact HB.out | apply below_alloc | apply pw_below_drewN | apply below_drew1) | exact HB.out)) hb); clear HO_5; clear HB; have HO_5 := n0_; have HB := n1_; clear n0_ n1_; (try clear hb); (try clear hb2); (try clear hk); (try clear hi); have p207 : 0 ≤ (x6_1 : Int) := of_decide_eq_true (by first | (with_reducible assumption) | assumption); have q207 : x6_1 < (l0.length : Int) := of_decide_eq_true (by first | (with_reducible assumption) | assumption); obtain ⟨ad207, e207, hx207_0, hx207_1, hx207_2, hx207_3⟩ := at_T44 HR0.out x6_1 p207 q207; obtain rfl : ad205 = ad207 := (by injection e207); replace hx207_0 := (HB.out.cell (World.block_lt_of_cell? w _ hx207_0)).trans hx207_0; replace hx207_1 := (HB.out.cell (World.block_lt_of_cell? w _ hx207_1)).trans hx207_1; replace hx207_2 := (HB.out.cell (World.block_lt_of_cell? w _ hx207_2)).trans hx207_2; replace hx207_3 := (HB.out.cell (World.block_lt_of_cell? w _ hx207_3)).trans hx207_3; replace p207 := eq_true p207; replace q207 := eq_true q207; have p214 : 0 ≤ (x6_1 : Int) := of_decide_eq_true (by first | (with_reducible assumption) | assumption); have q214 : x6_1 < (l0.length : Int) := of_decide_eq_true (by first | (with_reducible assumption) | assumption); obtain ⟨ad214, e214, hx214_0, hx214_1, hx214_2, hx214_3⟩ := at_T44 HR0.out x6_1 p214 q214; obtain rfl : ad205 = ad214 := (by injection e214); replace hx214_0 := (HB.out.cell (World.block_lt_of_cell? w _ hx214_0)).trans hx214_0; replace hx214_1 := (HB.out.cell (World.block_lt_of_cell? w _ hx214_1)).trans hx214_1; replace hx214_2 := (HB.out.cell (World.block_lt_of_cell? w _ hx214_2)).trans hx214_2; replace hx214_3 := (HB.out.cell (World.block_lt_of_cell? w _ hx214_3)).trans hx214_3; replace p214 := eq_true p214; replace q214 := eq_true q214) | ((with_reducible refine gate_callee (f := 18) rfl ?_); refine goesL_ (some 32) rfl rfl Tryd.func18 (by kernel_rfl) rfl #[.int .i64 ((rd_T44 l0 x6_1).f2)] rfl (by (try simp only [List.map_toArray, List.map_cons, List.map_nil]); first | done | rfl | (simp only [List.length_drop, List.length_take]; rfl)) ?_; (with_reducible refine (taskmasterref7_Digits.calls k1 ((rd_T44 l0 x6_1).f2) t215 _ A26.out).mono ?_); rintro e w40 ⟨rfl, hb⟩; refine ⟨_, rfl, ?_⟩; have n0_ := Aside0.mk (Kd.R_below (by (with_reducible repeat (first | apply Kd.R_alloc | apply Kd.R_drewN | apply Kd.R_drew)); exact HO_5.out) hb); have n1_ := Aside0.mk (below_step (by repeat (first | (with_reducible first | exact HB.out | apply below_alloc | apply pw_below_drewN | apply below_drew1) | exact HB.out)) hb); clear HO_5; clear HB; have HO_5 := n0_; have HB := n1_; clear n0_ n1_; (try clear hb); (try clear hb2); (try clear hk); (try clear hi)))
                 have n0_ := Aside0.mk (Kd.R_drew HO_5.out)
                 have n1_ := Aside0.mk (below_drew1 HB.out)
                 clear HO_5
                 clear HB
                 have HO_5 := n0_
                 have HB := n1_
                 clear n0_ n1_
                 have p216 : 0 ≤ (x6_1 : Int) := of_decide_eq_true (by first | (with_reducible assumption) | assumption)
                 have q216 : x6_1 < (l0.length : Int) := of_decide_eq_true (by first | (with_reducible assumption) | assumption)
                 obtain ⟨ad216, e216, hx216_0, hx216_1, hx216_2, hx216_3⟩ := at_T44 HR0.out x6_1 p216 q216
                 have hw216_3 := hx216_3
                 have hw216_2 := hx216_2
                 have hw216_1 := hx216_1
                 have hw216_0 := hx216_0
                 obtain rfl : ad205 = ad216 := (by injection e216)
                 replace hx216_0 := (HB.out.cell (World.block_lt_of_cell? w _ hx216_0)).trans hx216_0
                 replace hx216_1 := (HB.out.cell (World.block_lt_of_cell? w _ hx216_1)).trans hx216_1
                 replace hx216_2 := (HB.out.cell (World.block_lt_of_cell? w _ hx216_2)).trans hx216_2
                 replace hx216_3 := (HB.out.cell (World.block_lt_of_cell? w _ hx216_3)).trans hx216_3
                 replace p216 := eq_true p216
                 replace q216 := eq_true q216
                 have p218 : 0 ≤ (x6_1 : Int) := of_decide_eq_true (by first | (with_reducible assumption) | assumption)
                 have q218 : x6_1 < (l0.length : Int) := of_decide_eq_true (by first | (with_reducible assumption) | assumption)
                 obtain ⟨ad218, e218, hx218_0, hx218_1, hx218_2, hx218_3⟩ := at_T44 HR0.out x6_1 p218 q218
                 have hw218_3 := hx218_3
                 have hw218_2 := hx218_2
                 have hw218_1 := hx218_1
                 have hw218_0 := hx218_0
                 obtain rfl : ad205 = ad218 := (by injection e218)
                 replace hx218_0 := (HB.out.cell (World.block_lt_of_cell? w _ hx218_0)).trans hx218_0
                 replace hx218_1 := (HB.out.cell (World.block_lt_of_cell? w _ hx218_1)).trans hx218_1
                 replace hx218_2 := (HB.out.cell (World.block_lt_of_cell? w _ hx218_2)).trans hx218_2
                 replace hx218_3 := (HB.out.cell (World.block_lt_of_cell? w _ hx218_3)).trans hx218_3
                 replace p218 := eq_true p218
                 replace q218 := eq_true q218
                 obtain ⟨Ao42, co42, eo42⟩ := Kd.R_slice HO_5.out
                 (first | subst eo42 | (injection eo42 with f1_ f2_ f3_; have f4_ := f1_.symm; have f5_ := f3_.symm; clear f1_ f2_ f3_; subst f4_; subst f5_))
                 have p219 : 0 ≤ (((rd_T44 l0 x6_1).f1) : Int) := of_decide_eq_true (by first | (with_reducible assumption) | assumption)
                 have q219 : ((rd_T44 l0 x6_1).f1) < (t202.length : Int) := of_decide_eq_true (by first | (with_reducible assumption) | assumption)
                 obtain ⟨ad219, e219, hx219_0⟩ := Kd.at_string (Kd.R_reads' HO_5.out).2.2 ((rd_T44 l0 x6_1).f1) p219 q219
                 cases e219
                 replace p219 := eq_true p219
                 replace q219 := eq_true q219
                 have p220 : 0 ≤ (x6_1 : Int) := of_decide_eq_true (by first | (with_reducible assumption) | assumption)
                 have q220 : x6_1 < (l0.length : Int) := of_decide_eq_true (by first | (with_reducible assumption) | assumption)
                 obtain ⟨ad220, e220, hx220_0, hx220_1, hx220_2, hx220_3⟩ := at_T44 HR0.out x6_1 p220 q220
                 have hw220_3 := hx220_3
                 have hw220_2 := hx220_2
                 have hw220_1 := hx220_1
                 have hw220_0 := hx220_0
                 obtain rfl : ad205 = ad220 := (by injection e220)
                 replace hx220_0 := (HB.out.cell (World.block_lt_of_cell? w _ hx220_0)).trans hx220_0
                 replace hx220_1 := (HB.out.cell (World.block_lt_of_cell? w _ hx220_1)).trans hx220_1
                 replace hx220_2 := (HB.out.cell (World.block_lt_of_cell? w _ hx220_2)).trans hx220_2
                 replace hx220_3 := (HB.out.cell (World.block_lt_of_cell? w _ hx220_3)).trans hx220_3
                 replace p220 := eq_true p220
                 replace q220 := eq_true q220
                 refine start_ (n := 31) (S := fun w' => w'.cell? (ad205.add ((x6_1).toNat * 4)) = some (.int .i64 ((rd_T44 l0 x6_1).f0)) ∧ w'.cell? ⟨(ad205.add ((x6_1).toNat * 4)).block, (ad205.add ((x6_1).toNat * 4)).off + 1, none⟩ = some (.int .i64 ((rd_T44 l0 x6_1).f1)) ∧ w'.cell? ⟨(ad205.add ((x6_1).toNat * 4)).block, (ad205.add ((x6_1).toNat * 4)).off + 2, none⟩ = some (.int .i64 ((rd_T44 l0 x6_1).f2)) ∧ w'.cell? ⟨(ad205.add ((x6_1).toNat * 4)).block, (ad205.add ((x6_1).toNat * 4)).off + 3, none⟩ = some (.int .i64 ((rd_T44 l0 x6_1).f3)) ∧ w'.cell? (ad205.add ((x6_1).toNat * 4)) = some (.int .i64 ((rd_T44 l0 x6_1).f0)) ∧ w'.cell? ⟨(ad205.add ((x6_1).toNat * 4)).block, (ad205.add ((x6_1).toNat * 4)).off + 1, none⟩ = some (.int .i64 ((rd_T44 l0 x6_1).f1)) ∧ w'.cell? ⟨(ad205.add ((x6_1).toNat * 4)).block, (ad205.add ((x6_1).toNat * 4)).off + 2, none⟩ = some (.int .i64 ((rd_T44 l0 x6_1).f2)) ∧ w'.cell? ⟨(ad205.add ((x6_1).toNat * 4)).block, (ad205.add ((x6_1).toNat * 4)).off + 3, none⟩ = some (.int .i64 ((rd_T44 l0 x6_1).f3)) ∧ w'.cell? (ad219.add (((rd_T44 l0 x6_1).f1)).toNat) = some (.string (rdOf ByteArray.empty t202 ((rd_T44 l0 x6_1).f1))) ∧ w'.cell? (ad205.add ((x6_1).toNat * 4)) = some (.int .i64 ((rd_T44 l0 x6_1).f0)) ∧ w'.cell? ⟨(ad205.add ((x6_1).toNat * 4)).block, (ad205.add ((x6_1).toNat * 4)).off + 1, none⟩ = some (.int .i64 ((rd_T44 l0 x6_1).f1)) ∧ w'.cell? ⟨(ad205.add ((x6_1).toNat * 4)).block, (ad205.add ((x6_1).toNat * 4)).off + 2, none⟩ = some (.int .i64 ((rd_T44 l0 x6_1).f2)) ∧ w'.cell? ⟨(ad205.add ((x6_1).toNat * 4)).block, (ad205.add ((x6_1).toNat * 4)).off + 3, none⟩ = some (.int .i64 ((rd_T44 l0 x6_1).f3))) (ds := []) #[false, false, false, false, false, false, false, false, false, false, false, false, false, false, false, false, false, false, false, false, false, false, false, false, false, false, false, false, false, false, false] (by kernel_rfl) rfl rfl ⟨((HB.out.cell (World.block_lt_of_cell? w _ hw216_0)).trans hw216_0), ((HB.out.cell (World.block_lt_of_cell? w _ hw216_1)).trans hw216_1), ((HB.out.cell (World.block_lt_of_cell? w _ hw216_2)).trans hw216_2), ((HB.out.cell (World.block_lt_of_cell? w _ hw216_3)).trans hw216_3), ((HB.out.cell (World.block_lt_of_cell? w _ hw218_0)).trans hw218_0), ((HB.out.cell (World.block_lt_of_cell? w _ hw218_1)).trans hw218_1), ((HB.out.cell (World.block_lt_of_cell? w _ hw218_2)).trans hw218_2), ((HB.out.cell (World.block_lt_of_cell? w _ hw218_3)).trans hw218_3), hx219_0, ((HB.out.cell (World.block_lt_of_cell? w _ hw220_0)).trans hw220_0), ((HB.out.cell (World.block_lt_of_cell? w _ hw220_1)).trans hw220_1), ((HB.out.cell (World.block_lt_of_cell? w _ hw220_2)).trans hw220_2), ((HB.out.cell (World.block_lt_of_cell? w _ hw220_3)).trans hw220_3)⟩ (fun hHeld => ?_); refine with_tabW taskmasterref26_Text.tab11 taskmasterref26_Text.bits11 (fun HT_ HW_ => ?_)
                 generalize w40.drew = w41 at HO_5 HB hx216_0 hx216_1 hx216_2 hx216_3 hx218_0 hx218_1 hx218_2 hx218_3 hx219_0 hx220_0 hx220_1 hx220_2 hx220_3 hHeld ⊢
                 refine pure_ (i := 0) (N := some 33) (v := ?_) (a' := ?_) #[true, false, false, false, false, false, false, false, false, false, false, false, false, false, false, false, false, false, false, false, false, false, false, false, false, false, false, false, false, false, false] rfl rfl (any_of HT_.out (by kernel_rfl)) (fun _ _ _ h => h) (Or.inl ⟨by rfl, ?_⟩) ?_ ?_
                 rotate_left
                 ·intro w'
                  go_simp
                  with_reducible rfl
                 rotate_left
                 ·simp only [Act.put, List.setIfInBounds_toArray, List.set_cons_zero, List.set_cons_succ, i64_w, i32_w]
                  rfl
                 refine pure_ (i := 1) (N := some 34) (v := ?_) (a' := ?_) #[true, true, false, false, false, false, false, false, false, false, false, false, false, false, false, false, false, false, false, false, false, false, false, false, false, false, false, false, false, false, false] rfl rfl (any_of HT_.out (by kernel_rfl)) (fun _ _ _ h => h) (Or.inl ⟨by rfl, ?_⟩) ?_ ?_
                 rotate_left
                 ·intro w'
                  go_simp
                  with_reducible rfl
                 rotate_left
                 ·simp only [Act.put, List.setIfInBounds_toArray, List.set_cons_zero, List.set_cons_succ, i64_w, i32_w]
                  rfl
                 refine pure_ (i := 2) (N := some 35) (v := ?_) (a' := ?_) #[true, true, true, false, false, false, false, false, false, false, false, false, false, false, false, false, false, false, false, false, false, false, false, false, false, false, false, false, false, false, false] rfl rfl (any_of HT_.out (by kernel_rfl)) (fun _ _ _ h => h) (Or.inl ⟨by rfl, ?_⟩) ?_ ?_
                 rotate_left
                 ·intro w'
                  go_simp
                  with_reducible rfl
                 rotate_left
                 ·simp only [Act.put, List.setIfInBounds_toArray, List.set_cons_zero, List.set_cons_succ, i64_w, i32_w]
                  rfl
                 refine pure_ (i := 3) (N := some 36) (v := ?_) (a' := ?_) #[true, true, true, true, false, false, false, false, false, false, false, false, false, false, false, false, false, false, false, false, false, false, false, false, false, false, false, false, false, false, false] rfl rfl (any_of HT_.out (by kernel_rfl)) (fun _ _ _ h => h) (Or.inl ⟨by rfl, ?_⟩) ?_ ?_
                 rotate_left
                 ·intro w'
                  go_simp
                  with_reducible rfl
                 rotate_left
                 ·simp only [Act.put, List.setIfInBounds_toArray, List.set_cons_zero, List.set_cons_succ, i64_w, i32_w]
                  rfl
                 refine pure_ (i := 4) (N := some 37) (v := ?_) (a' := ?_) #[true, true, true, true, true, false, false, false, false, false, false, false, false, false, false, false, false, false, false, false, false, false, false, false, false, false, false, false, false, false, false] rfl rfl (any_of HT_.out (by kernel_rfl)) (fun _ _ _ h => h) (Or.inl ⟨by rfl, ?_⟩) ?_ ?_
                 rotate_left
                 ·intro w'
                  go_simp
                  with_reducible rfl
                 rotate_left
                 ·simp only [Act.put, List.setIfInBounds_toArray, List.set_cons_zero, List.set_cons_succ, i64_w, i32_w]
                  rfl
                 refine pure_ (i := 9) (N := some 42) (v := ?_) (a' := ?_) #[true, true, true, true, true, false, false, false, false, true, false, false, false, false, false, false, false, false, false, false, false, false, false, false, false, false, false, false, false, false, false] rfl rfl (any_of HT_.out (by kernel_rfl)) (fun _ _ _ h => h) (Or.inl ⟨by rfl, ?_⟩) ?_ ?_
                 rotate_left
                 ·intro w'
                  go_simp
                  with_reducible rfl
                 rotate_left
                 ·simp only [Act.put, List.setIfInBounds_toArray, List.set_cons_zero, List.set_cons_succ, i64_w, i32_w]
                  rfl
                 refine pure_ (i := 10) (N := some 43) (v := ?_) (a' := ?_) #[true, true, true, true, true, false, false, false, false, true, true, false, false, false, false, false, false, false, false, false, false, false, false, false, false, false, false, false, false, false, false] rfl rfl (any_of HT_.out (by kernel_rfl)) (fun _ _ _ h => h) (Or.inl ⟨by rfl, ?_⟩) ?_ ?_
                 rotate_left
                 ·intro w'
                  go_simp
                  with_reducible rfl
                 rotate_left
                 ·simp only [Act.put, List.setIfInBounds_toArray, List.set_cons_zero, List.set_cons_succ, i64_w, i32_w]
                  rfl
                 refine pure_ (i := 11) (N := some 44) (v := ?_) (a' := ?_) #[true, true, true, true, true, false, false, false, false, true, true, true, false, false, false, false, false, false, false, false, false, false, false, false, false, false, false, false, false, false, false] rfl rfl (any_of HT_.out (by kernel_rfl)) (fun _ _ _ h => h) (Or.inl ⟨by rfl, ?_⟩) ?_ ?_
                 rotate_left
                 ·intro w'
                  go_simp
                  with_reducible rfl
                 rotate_left
                 ·simp only [Act.put, List.setIfInBounds_toArray, List.set_cons_zero, List.set_cons_succ, i64_w, i32_w]
                  rfl
                 refine pure_ (i := 12) (N := some 45) (v := ?_) (a' := ?_) #[true, true, true, true, true, false, false, false, false, true, true, true, true, false, false, false, false, false, false, false, false, false, false, false, false, false, false, false, false, false, false] rfl rfl (any_of HT_.out (by kernel_rfl)) (fun _ _ _ h => h) (Or.inl ⟨by rfl, ?_⟩) ?_ ?_
                 rotate_left
                 ·intro w'
                  go_simp
                  with_reducible rfl
                 rotate_left
                 ·simp only [Act.put, List.setIfInBounds_toArray, List.set_cons_zero, List.set_cons_succ, i64_w, i32_w]
                  rfl
                 refine pure_ (i := 13) (N := some 46) (v := ?_) (a' := ?_) #[true, true, true, true, true, false, false, false, false, true, true, true, true, true, false, false, false, false, false, false, false, false, false, false, false, false, false, false, false, false, false] rfl rfl (any_of HT_.out (by kernel_rfl)) (fun _ _ _ h => h) (Or.inl ⟨by rfl, ?_⟩) ?_ ?_
                 rotate_left
                 ·intro w'
                  go_simp
                  with_reducible rfl
                 rotate_left
                 ·simp only [Act.put, List.setIfInBounds_toArray, List.set_cons_zero, List.set_cons_succ, i64_w, i32_w]
                  rfl
                 refine pure_ (i := 19) (N := some 52) (v := ?_) (a' := ?_) #[true, true, true, true, true, false, false, false, false, true, true, true, true, true, false, false, false, false, false, true, false, false, false, false, false, false, false, false, false, false, false] rfl rfl (any_of HT_.out (by kernel_rfl)) (fun _ _ _ h => h) (Or.inl ⟨by rfl, ?_⟩) ?_ ?_
                 rotate_left
                 ·intro w'
                  go_simp
                  with_reducible rfl
                 rotate_left
                 ·simp only [Act.put, List.setIfInBounds_toArray, List.set_cons_zero, List.set_cons_succ, i64_w, i32_w]
                  rfl
                 refine pure_ (i := 22) (N := some 55) (v := ?_) (a' := ?_) #[true, true, true, true, true, false, false, false, false, true, true, true, true, true, false, false, false, false, false, true, false, false, true, false, false, false, false, false, false, false, false] rfl rfl (any_of HT_.out (by kernel_rfl)) (fun _ _ _ h => h) (Or.inl ⟨by rfl, ?_⟩) ?_ ?_
                 rotate_left
                 ·intro w'
                  go_simp
                  with_reducible rfl
                 rotate_left
                 ·simp only [Act.put, List.setIfInBounds_toArray, List.set_cons_zero, List.set_cons_succ, i64_w, i32_w]
                  rfl
                 refine pure_ (i := 23) (N := some 56) (v := ?_) (a' := ?_) #[true, true, true, true, true, false, false, false, false, true, true, true, true, true, false, false, false, false, false, true, false, false, true, true, false, false, false, false, false, false, false] rfl rfl (any_of HT_.out (by kernel_rfl)) (fun _ _ _ h => h) (Or.inl ⟨by rfl, ?_⟩) ?_ ?_
                 rotate_left
                 ·intro w'
                  go_simp
                  with_reducible rfl
                 rotate_left
                 ·simp only [Act.put, List.setIfInBounds_toArray, List.set_cons_zero, List.set_cons_succ, i64_w, i32_w]
                  rfl
                 refine pure_ (i := 24) (N := some 57) (v := ?_) (a' := ?_) #[true, true, true, true, true, false, false, false, false, true, true, true, true, true, false, false, false, false, false, true, false, false, true, true, true, false, false, false, false, false, false] rfl rfl (any_of HT_.out (by kernel_rfl)) (fun _ _ _ h => h) (Or.inl ⟨by rfl, ?_⟩) ?_ ?_
                 rotate_left
                 ·intro w'
                  go_simp
                  with_reducible rfl
                 rotate_left
                 ·simp only [Act.put, List.setIfInBounds_toArray, List.set_cons_zero, List.set_cons_succ, i64_w, i32_w]
                  rfl
                 refine pure_ (i := 25) (N := some 58) (v := ?_) (a' := ?_) #[true, true, true, true, true, false, false, false, false, true, true, true, true, true, false, false, false, false, false, true, false, false, true, true, true, true, false, false, false, false, false] rfl rfl (any_of HT_.out (by kernel_rfl)) (fun _ _ _ h => h) (Or.inl ⟨by rfl, ?_⟩) ?_ ?_
                 rotate_left
                 ·intro w'
                  go_simp
                  with_reducible rfl
                 rotate_left
                 ·simp only [Act.put, List.setIfInBounds_toArray, List.set_cons_zero, List.set_cons_succ, i64_w, i32_w]
                  rfl
                 refine take_ (i := 5) (N := some 38) (v := ?_) (a' := ?_) #[true, true, true, true, true, true, false, false, false, true, true, true, true, true, false, false, false, false, false, true, false, false, true, true, true, true, false, false, false, false, false] rfl rfl (take_ofW HT_.out HW_.out (by kernel_rfl)) (fun _ _ _ h => h) (Or.inl ⟨by rfl, ?_⟩) hHeld ?_ ?_
                 rotate_left
                 ·rintro w' ⟨s0, s1, s2, s3, s4, s5, s6, s7, s8, s9, s10, s11, s12⟩
                  go_simp
                  with_reducible rfl
                 rotate_left
                 ·simp only [Act.put, List.setIfInBounds_toArray, List.set_cons_zero, List.set_cons_succ, i64_w, i32_w]
                  rfl
                 refine take_ (i := 14) (N := some 47) (v := ?_) (a' := ?_) #[true, true, true, true, true, true, false, false, false, true, true, true, true, true, true, false, false, false, false, true, false, false, true, true, true, true, false, false, false, false, false] rfl rfl (take_ofW HT_.out HW_.out (by kernel_rfl)) (fun _ _ _ h => h) (Or.inl ⟨by rfl, ?_⟩) hHeld ?_ ?_
                 rotate_left
                 ·rintro w' ⟨s0, s1, s2, s3, s4, s5, s6, s7, s8, s9, s10, s11, s12⟩
                  go_simp
                  with_reducible rfl
                 rotate_left
                 ·simp only [Act.put, List.setIfInBounds_toArray, List.set_cons_zero, List.set_cons_succ, i64_w, i32_w]
                  rfl
                 refine pure_ (i := 15) (N := some 48) (v := ?_) (a' := ?_) #[true, true, true, true, true, true, false, false, false, true, true, true, true, true, true, true, false, false, false, true, false, false, true, true, true, true, false, false, false, false, false] rfl rfl (any_of HT_.out (by kernel_rfl)) (fun _ _ _ h => h) (Or.inl ⟨by rfl, ?_⟩) ?_ ?_
                 rotate_left
                 ·intro w'
                  go_simp
                  with_reducible rfl
                 rotate_left
                 ·simp only [Act.put, List.setIfInBounds_toArray, List.set_cons_zero, List.set_cons_succ, i64_w, i32_w]
                  rfl
                 refine take_ (i := 16) (N := some 49) (v := ?_) (a' := ?_) #[true, true, true, true, true, true, false, false, false, true, true, true, true, true, true, true, true, false, false, true, false, false, true, true, true, true, false, false, false, false, false] rfl rfl (take_ofW HT_.out HW_.out (by kernel_rfl)) (fun _ _ _ h => h) (Or.inl ⟨by rfl, ?_⟩) hHeld ?_ ?_
                 rotate_left
                 ·rintro w' ⟨s0, s1, s2, s3, s4, s5, s6, s7, s8, s9, s10, s11, s12⟩
                  go_simp
                  with_reducible rfl
                 rotate_left
                 ·simp only [Act.put, List.setIfInBounds_toArray, List.set_cons_zero, List.set_cons_succ, i64_w, i32_w]
                  rfl
                 refine take_ (i := 26) (N := some 59) (v := ?_) (a' := ?_) #[true, true, true, true, true, true, false, false, false, true, true, true, true, true, true, true, true, false, false, true, false, false, true, true, true, true, true, false, false, false, false] rfl rfl (take_ofW HT_.out HW_.out (by kernel_rfl)) (fun _ _ _ h => h) (Or.inl ⟨by rfl, ?_⟩) hHeld ?_ ?_
                 rotate_left
                 ·rintro w' ⟨s0, s1, s2, s3, s4, s5, s6, s7, s8, s9, s10, s11, s12⟩
                  go_simp
                  with_reducible rfl
                 rotate_left
                 ·simp only [Act.put, List.setIfInBounds_toArray, List.set_cons_zero, List.set_cons_succ, i64_w, i32_w]
                  rfl
                 refine one_ (i := 6) (N := some 39) #[true, true, true, true, true, true, true, false, false, true, true, true, true, true, true, true, true, false, false, true, false, false, true, true, true, true, true, false, false, false, false] rfl rfl (one_of HT_.out (by kernel_rfl)) (by decide) (fun K hK => ?_)
                 refine goes_ Tryd.func18 (by kernel_rfl) rfl #[.int .i64 ((rd_T44 l0 x6_1).f0)] (by rfl) rfl rfl (by (try simp only [List.map_toArray, List.map_cons, List.map_nil]); first | done | rfl | (simp only [List.length_drop, List.length_take]; rfl)) ?_
                 with_reducible refine (taskmasterref7_Digits.calls k1 ((rd_T44 l0 x6_1).f0) t217 _ A27.out).mono ?_
                 rintro e w43 ⟨rfl, hb⟩
                 have HS8_ := (hb.cell (World.block_lt_of_cell? _ _ (hHeld.2.2.2.2.2.2.2.2.1))).trans (hHeld.2.2.2.2.2.2.2.2.1)
                 refine ⟨_, rfl, ?_⟩
                 have n0_ := Aside0.mk (Kd.R_below (by (with_reducible repeat (first | apply Kd.R_alloc | apply Kd.R_drewN | apply Kd.R_drew)); exact HO_5.out) hb)
                 have n1_ := Aside0.mk (below_step (by repeat (first | (with_reducible first | exact HB.out | apply below_alloc | apply pw_below_drewN | apply below_drew1) | exact HB.out)) hb)
                 clear HO_5
                 clear HB
                 have HO_5 := n0_
                 have HB := n1_
                 clear n0_ n1_
                 (try clear hb)
                 (try clear hb2)
                 (try clear hk)
                 (try clear hi)
                 refine hK.out _ _ ⟨((HB.out.cell (World.block_lt_of_cell? w _ hw216_0)).trans hw216_0), ((HB.out.cell (World.block_lt_of_cell? w _ hw216_1)).trans hw216_1), ((HB.out.cell (World.block_lt_of_cell? w _ hw216_2)).trans hw216_2), ((HB.out.cell (World.block_lt_of_cell? w _ hw216_3)).trans hw216_3), ((HB.out.cell (World.block_lt_of_cell? w _ hw218_0)).trans hw218_0), ((HB.out.cell (World.block_lt_of_cell? w _ hw218_1)).trans hw218_1), ((HB.out.cell (World.block_lt_of_cell? w _ hw218_2)).trans hw218_2), ((HB.out.cell (World.block_lt_of_cell? w _ hw218_3)).trans hw218_3), HS8_, ((HB.out.cell (World.block_lt_of_cell? w _ hw220_0)).trans hw220_0), ((HB.out.cell (World.block_lt_of_cell? w _ hw220_1)).trans hw220_1), ((HB.out.cell (World.block_lt_of_cell? w _ hw220_2)).trans hw220_2), ((HB.out.cell (World.block_lt_of_cell? w _ hw220_3)).trans hw220_3)⟩ (fun hHeld => ?_)
                 clear hK K
                 refine norm_ (a' := ?_) ?_ ?_
                 rotate_left
                 ·show Act.put _ (some 39) _ = _
                  simp only [Act.put, List.setIfInBounds_toArray, List.set_cons_zero, List.set_cons_succ, i64_w, i32_w]
                  rfl
                 refine pure_ (i := 7) (N := some 40) (v := ?_) (a' := ?_) #[true, true, true, true, true, true, true, true, false, true, true, true, true, true, true, true, true, false, false, true, false, false, true, true, true, true, true, false, false, false, false] rfl rfl (any_of HT_.out (by kernel_rfl)) (fun _ _ _ h => h) (Or.inl ⟨by rfl, ?_⟩) ?_ ?_
                 rotate_left
                 ·intro w'
                  go_simp
                  with_reducible rfl
                 rotate_left
                 ·simp only [Act.put, List.setIfInBounds_toArray, List.set_cons_zero, List.set_cons_succ, i64_w, i32_w]
                  rfl
                 refine pure_ (i := 8) (N := some 41) (v := ?_) (a' := ?_) #[true, true, true, true, true, true, true, true, true, true, true, true, true, true, true, true, true, false, false, true, false, false, true, true, true, true, true, false, false, false, false] rfl rfl (any_of HT_.out (by kernel_rfl)) (fun _ _ _ h => h) (Or.inl ⟨by rfl, ?_⟩) ?_ ?_
                 rotate_left
                 ·intro w'
                  go_simp
                  with_reducible rfl
                 rotate_left
                 ·simp only [Act.put, List.setIfInBounds_toArray, List.set_cons_zero, List.set_cons_succ, i64_w, i32_w]
                  rfl
                 refine pure_ (i := 17) (N := some 50) (v := ?_) (a' := ?_) #[true, true, true, true, true, true, true, true, true, true, true, true, true, true, true, true, true, true, false, true, false, false, true, true, true, true, true, false, false, false, false] rfl rfl (any_of HT_.out (by kernel_rfl)) (fun _ _ _ h => h) (Or.inl ⟨by rfl, ?_⟩) ?_ ?_
                 rotate_left
                 ·intro w'
                  go_simp
                  with_reducible rfl
                 rotate_left
                 ·simp only [Act.put, List.setIfInBounds_toArray, List.set_cons_zero, List.set_cons_succ, i64_w, i32_w]
                  rfl
                 refine pure_ (i := 18) (N := some 51) (v := ?_) (a' := ?_) #[true, true, true, true, true, true, true, true, true, true, true, true, true, true, true, true, true, true, true, true, false, false, true, true, true, true, true, false, false, false, false] rfl rfl (any_of HT_.out (by kernel_rfl)) (fun _ _ _ h => h) (Or.inl ⟨by rfl, ?_⟩) ?_ ?_
                 rotate_left
                 ·intro w'
                  go_simp
                  with_reducible rfl
                 rotate_left
                 ·simp only [Act.put, List.setIfInBounds_toArray, List.set_cons_zero, List.set_cons_succ, i64_w, i32_w]
                  rfl
                 refine pure_ (i := 20) (N := some 53) (v := ?_) (a' := ?_) #[true, true, true, true, true, true, true, true, true, true, true, true, true, true, true, true, true, true, true, true, true, false, true, true, true, true, true, false, false, false, false] rfl rfl (any_of HT_.out (by kernel_rfl)) (fun _ _ _ h => h) (Or.inl ⟨by rfl, ?_⟩) ?_ ?_
                 rotate_left
                 ·intro w'
                  go_simp
                  with_reducible rfl
                 rotate_left
                 ·simp only [Act.put, List.setIfInBounds_toArray, List.set_cons_zero, List.set_cons_succ, i64_w, i32_w]
                  rfl
                 refine pure_ (i := 21) (N := some 54) (v := ?_) (a' := ?_) #[true, true, true, true, true, true, true, true, true, true, true, true, true, true, true, true, true, true, true, true, true, true, true, true, true, true, true, false, false, false, false] rfl rfl (any_of HT_.out (by kernel_rfl)) (fun _ _ _ h => h) (Or.inl ⟨by rfl, ?_⟩) ?_ ?_
                 rotate_left
                 ·intro w'
                  go_simp
                  with_reducible rfl
                 rotate_left
                 ·simp only [Act.put, List.setIfInBounds_toArray, List.set_cons_zero, List.set_cons_succ, i64_w, i32_w]
                  rfl
                 refine one_ (i := 27) (N := some 60) #[true, true, true, true, true, true, true, true, true, true, true, true, true, true, true, true, true, true, true, true, true, true, true, true, true, true, true, true, false, false, false] rfl rfl (one_of HT_.out (by kernel_rfl)) (by decide) (fun K hK => ?_)
                 refine goes_ Tryd.func18 (by kernel_rfl) rfl #[.int .i64 ((rd_T44 l0 x6_1).f3)] (by rfl) rfl rfl (by (try simp only [List.map_toArray, List.map_cons, List.map_nil]); first | done | rfl | (simp only [List.length_drop, List.length_take]; rfl)) ?_
                 with_reducible refine (taskmasterref7_Digits.calls k1 ((rd_T44 l0 x6_1).f3) t221 _ A36.out).mono ?_
                 rintro e w44 ⟨rfl, hb⟩
                 have HS8_ := (hb.cell (World.block_lt_of_cell? _ _ (hHeld.2.2.2.2.2.2.2.2.1))).trans (hHeld.2.2.2.2.2.2.2.2.1)
                 refine ⟨_, rfl, ?_⟩
                 have n0_ := Aside0.mk (Kd.R_below (by (with_reducible repeat (first | apply Kd.R_alloc | apply Kd.R_drewN | apply Kd.R_drew)); exact HO_5.out) hb)
                 have n1_ := Aside0.mk (below_step (by repeat (first | (with_reducible first | exact HB.out | apply below_alloc | apply pw_below_drewN | apply below_drew1) | exact HB.out)) hb)
                 clear HO_5
                 clear HB
                 have HO_5 := n0_
                 have HB := n1_
                 clear n0_ n1_
                 (try clear hb)
                 (try clear hb2)
                 (try clear hk)
                 (try clear hi)
                 refine hK.out _ _ ⟨((HB.out.cell (World.block_lt_of_cell? w _ hw216_0)).trans hw216_0), ((HB.out.cell (World.block_lt_of_cell? w _ hw216_1)).trans hw216_1), ((HB.out.cell (World.block_lt_of_cell? w _ hw216_2)).trans hw216_2), ((HB.out.cell (World.block_lt_of_cell? w _ hw216_3)).trans hw216_3), ((HB.out.cell (World.block_lt_of_cell? w _ hw218_0)).trans hw218_0), ((HB.out.cell (World.block_lt_of_cell? w _ hw218_1)).trans hw218_1), ((HB.out.cell (World.block_lt_of_cell? w _ hw218_2)).trans hw218_2), ((HB.out.cell (World.block_lt_of_cell? w _ hw218_3)).trans hw218_3), HS8_, ((HB.out.cell (World.block_lt_of_cell? w _ hw220_0)).trans hw220_0), ((HB.out.cell (World.block_lt_of_cell? w _ hw220_1)).trans hw220_1), ((HB.out.cell (World.block_lt_of_cell? w _ hw220_2)).trans hw220_2), ((HB.out.cell (World.block_lt_of_cell? w _ hw220_3)).trans hw220_3)⟩ (fun hHeld => ?_)
                 clear hK K
                 refine norm_ (a' := ?_) ?_ ?_
                 rotate_left
                 ·show Act.put _ (some 60) _ = _
                  simp only [Act.put, List.setIfInBounds_toArray, List.set_cons_zero, List.set_cons_succ, i64_w, i32_w]
                  rfl
                 refine pure_ (i := 28) (N := some 61) (v := ?_) (a' := ?_) #[true, true, true, true, true, true, true, true, true, true, true, true, true, true, true, true, true, true, true, true, true, true, true, true, true, true, true, true, true, false, false] rfl rfl (any_of HT_.out (by kernel_rfl)) (fun _ _ _ h => h) (Or.inl ⟨by rfl, ?_⟩) ?_ ?_
                 rotate_left
                 ·intro w'
                  go_simp
                  with_reducible rfl
                 rotate_left
                 ·simp only [Act.put, List.setIfInBounds_toArray, List.set_cons_zero, List.set_cons_succ, i64_w, i32_w]
                  rfl
                 refine pure_ (i := 29) (N := some 62) (v := ?_) (a' := ?_) #[true, true, true, true, true, true, true, true, true, true, true, true, true, true, true, true, true, true, true, true, true, true, true, true, true, true, true, true, true, true, false] rfl rfl (any_of HT_.out (by kernel_rfl)) (fun _ _ _ h => h) (Or.inl ⟨by rfl, ?_⟩) ?_ ?_
                 rotate_left
                 ·intro w'
                  go_simp
                  with_reducible rfl
                 rotate_left
                 ·simp only [Act.put, List.setIfInBounds_toArray, List.set_cons_zero, List.set_cons_succ, i64_w, i32_w]
                  rfl
                 refine pure_ (i := 30) (N := some 4) (v := ?_) (a' := ?_) #[true, true, true, true, true, true, true, true, true, true, true, true, true, true, true, true, true, true, true, true, true, true, true, true, true, true, true, true, true, true, true] rfl rfl (any_of HT_.out (by kernel_rfl)) (fun _ _ _ h => h) (Or.inl ⟨by rfl, ?_⟩) ?_ ?_
                 rotate_left
                 ·intro w'
                  go_simp
                  with_reducible rfl
                 rotate_left
                 ·simp only [Act.put, List.setIfInBounds_toArray, List.set_cons_zero, List.set_cons_succ, i64_w, i32_w]
                  rfl
                 refine done_ (done_of HT_.out (by kernel_rfl)) ?_
                 try go_wp2
                 go_roundg k1
                 case measure => have := HK1.out; omega
                 case rel => exact ⟨((((((((x4_1 ++ t217) ++ (⟨#[32]⟩ : ByteArray)) ++ (rdOf ByteArray.empty t202 ((rd_T44 l0 x6_1).f1))) ++ (⟨#[32]⟩ : ByteArray)) ++ t215) ++ (⟨#[32]⟩ : ByteArray)) ++ t221) ++ (⟨#[10]⟩ : ByteArray)), (wrap64 (x6_1 + 1)), (by first | rfl | (simp; done) | (simp [*]; done)), (by first | rfl | (simp; done) | (simp [*]; done)), H', ⟨by have := HK1.out; omega⟩, ⟨by (with_reducible repeat (first | apply Kd.R_alloc | apply Kd.R_drewN | apply Kd.R_drew)); exact HO_5.out⟩, ⟨by repeat (first | (with_reducible first | exact HB.out | apply below_alloc | apply pw_below_drewN | apply below_drew1) | exact HB.out)⟩⟩
                ·rw [if_neg c38] at H
                 exact absurd H (by simp)
               ·rw [if_neg c37] at H
                exact absurd H (by simp)
              ·rw [if_neg c35] at H
               exact absurd H (by simp)
             ·rw [if_neg c34] at H
              exact absurd H (by simp)
            ·rw [if_neg c33] at H
             exact absurd H (by simp)
           ·rw [if_neg c32] at H
            exact absurd H (by simp)
          ·rw [if_neg c31] at H
           exact absurd H (by simp)
         ·rw [if_neg c30] at H
          exact absurd H (by simp)
        ·rw [if_neg c29] at H
         exact absurd H (by simp)
       ·rw [if_neg c28] at H
        exact absurd H (by simp)
     ·replace c7 := Bool.eq_false_iff.mpr c7
      subst c7
      have H1 : (some ((⟨#[]⟩ : ByteArray), false)) = some (r1, r2) := by rw [if_neg (show ¬ (false = true) by decide)] at H; exact H
      clear H
      have H := H1
      clear H1
      simp only [Option.some.injEq, Prod.mk.injEq] at H
      obtain ⟨rfl, rfl⟩ := H
      have p205 : 0 ≤ (x6_1 : Int) := of_decide_eq_true (by first | (with_reducible assumption) | assumption)
      have q205 : x6_1 < (l0.length : Int) := of_decide_eq_true (by first | (with_reducible assumption) | assumption)
      obtain ⟨ad205, e205, hx205_0, hx205_1, hx205_2, hx205_3⟩ := at_T44 HR0.out x6_1 p205 q205
      cases e205
      replace hx205_0 := (HB.out.cell (World.block_lt_of_cell? w _ hx205_0)).trans hx205_0
      replace hx205_1 := (HB.out.cell (World.block_lt_of_cell? w _ hx205_1)).trans hx205_1
      replace hx205_2 := (HB.out.cell (World.block_lt_of_cell? w _ hx205_2)).trans hx205_2
      replace hx205_3 := (HB.out.cell (World.block_lt_of_cell? w _ hx205_3)).trans hx205_3
      replace p205 := eq_true p205
      replace q205 := eq_true q205
      go_wp2_with (first | ((with_reducible refine gate_callee (f := 46) rfl ?_); refine goesL_ (some 19) rfl rfl Tryd.func46 (by kernel_rfl) rfl #[.agg #[.int .i64 ((rd_T44 l0 x6_1).f0), .int .i64 ((rd_T44 l0 x6_1).f1), .int .i64 ((rd_T44 l0 x6_1).f2), .int .i64 ((rd_T44 l0 x6_1).f3)]] rfl (by (try simp only [List.map_toArray, List.map_cons, List.map_nil]); first | done | rfl | (simp only [List.length_drop, List.length_take]; rfl)) ?_; (with_reducible refine (taskmasterref26_Is.calls k1 ((rd_T44 l0 x6_1).f0) ((rd_T44 l0 x6_1).f1) ((rd_T44 l0 x6_1).f2) ((rd_T44 l0 x6_1).f3) false _ A6.out).mono ?_); rintro e w45 ⟨rfl, hb⟩; refine ⟨_, rfl, ?_⟩; have n0_ := Aside0.mk (Kd.R_below (by (with_reducible repeat (first | apply Kd.R_alloc | apply Kd.R_drewN | apply Kd.R_drew)); exact HO_5.out) hb); have n1_ := Aside0.mk (below_step (by repeat (first | (with_reducible first | exact HB.out | apply below_alloc | apply pw_below_drewN | apply below_drew1) | exact HB.out)) hb); clear HO_5; clear HB; have HO_5 := n0_; have HB := n1_; clear n0_ n1_; (try clear hb); (try clear hb2); (try clear hk); (try clear hi)))
      go_ret2
      exact ⟨by first | rfl | (simp [errW_none, errW_some] <;> rfl) | (simp [*, errW_none, errW_some] <;> rfl), by repeat (first | (with_reducible first | exact HB.out | apply below_alloc | apply pw_below_drewN | apply below_drew1) | exact HB.out)⟩
    ·rw [if_neg c5] at H
     exact absurd H (by simp)
   ·rw [if_neg c4] at H
    have c4b0 : decide (x6_1 < (l0.length : Int)) = false := decide_eq_false c4
    clear c4
    simp only [Option.some.injEq, Prod.mk.injEq] at H
    obtain ⟨rfl, rfl⟩ := H
    go_wp2
    go_ret2
    exact ⟨by first | rfl | (simp [errW_none, errW_some] <;> rfl) | (simp [*, errW_none, errW_some] <;> rfl), by repeat (first | (with_reducible first | exact HB.out | apply below_alloc | apply pw_below_drewN | apply below_drew1) | exact HB.out)⟩
mutual
def taskmasterref26_number.j0 : Nat → ByteArray → Int → Bool → Option (Int)
 | 0, _, _, _ => none
 | k + 1, x0, x3, x12 => if x12 = true then (some (-1)) else (taskmasterref26_number.l0 k x0 x3 0)
def taskmasterref26_number.l0 : Nat → ByteArray → Int → Int → Option (Int)
 | 0, _, _, _ => none
 | k + 1, x0, x3, x4 => if x4 < (x0.size : Int) then (if 0 ≤ x4 then (if (bt x0 x4) < 48 then (some (-1)) else (if (bt x0 x4) > 57 then (some (-1)) else (taskmasterref26_number.l0 k x0 (wrap64 ((wrap64 (10 * x3)) + (((bt x0 x4) - 48) % 256))) (wrap64 (x4 + 1))))) else (none)) else (some x3)
end
def taskmasterref26_number.f (k : Nat) (a0 : ByteArray) : Option (Int) := if (a0.size : Int) < 1 then (taskmasterref26_number.j0 k a0 0 true) else (taskmasterref26_number.j0 k a0 0 (decide ((a0.size : Int) > 15)))
set_option maxHeartbeats 8000000 in
set_option maxRecDepth 100000 in
theorem taskmasterref26_number.calls (k : Nat) (a0 : ByteArray) (r : Int) (w : World) (h : taskmasterref26_number.f k a0 = some r) :
  Calls Tryd.prog 65 #[.string a0] w fun e w' => e = .returned (.int .i64 r) ∧ Drawn0 w w' := by
 have H : (if (a0.size : Int) < 1 then (taskmasterref26_number.j0 k a0 0 true) else (taskmasterref26_number.j0 k a0 0 (decide ((a0.size : Int) > 15)))) = some r := h
 clear h
 have HC2 := Aside0.mk H
 clear H
 go_enter Tryd.func65, Tryd.ntmps65
 go_upto_region 2 with (fail)
 go_cut [12] (fun v12 wc => ∃ (kq : Nat) (x12_1 : Bool), v12 = .bool x12_1 ∧ Aside0 (taskmasterref26_number.j0 kq a0 0 x12_1 = some r) ∧ Aside0 (kq ≤ k) ∧ Drawn0 w wc)
 case first =>
  have H := HC2.out
  clear HC2
  by_cases c3 : (a0.size : Int) < 1
  ·rw [if_pos c3] at H
   have c3b0 : decide ((a0.size : Int) < 1) = true := decide_eq_true c3
   have c3b1 : decide (a0.size < 1) = true := decide_eq_true (by omega)
   clear c3
   (first | rw [c3b0] | (simp only [i64_w, i32_w]; rw [c3b0]) | skip)
   have H' := Aside0.mk H
   clear H
   go_wp2
   go_meet
   case rel => exact ⟨_, (true), (by first | rfl | (simp; done) | (simp [*]; done)), H', ⟨by first | omega | exact Nat.le_refl _⟩, by repeat (first | exact Drawn0.refl _ | apply Drawn0.step)⟩
  ·rw [if_neg c3] at H
   have c3b0 : decide ((a0.size : Int) < 1) = false := decide_eq_false c3
   have c3b1 : decide (a0.size < 1) = false := decide_eq_false (by omega)
   clear c3
   (first | rw [c3b0] | (simp only [i64_w, i32_w]; rw [c3b0]) | skip)
   have H' := Aside0.mk H
   clear H
   go_wp2
   go_meet
   case rel => exact ⟨_, (decide ((a0.size : Int) > 15)), (by first | rfl | (simp; done) | (simp [*]; done)), H', ⟨by first | omega | exact Nat.le_refl _⟩, by repeat (first | exact Drawn0.refl _ | apply Drawn0.step)⟩
 case rest =>
  clear HC2
  try clear p2
  try clear c3
  try clear c3b0
  try clear c3b1
  obtain ⟨kq, x12_1, rfl, HA, HJ1, ⟨mc1, rfl⟩⟩ := hcut
  cases kq with
  | zero => exact absurd HA.out (by simp [taskmasterref26_number.j0])
  | succ kj1 =>
   have H := HA.out
   clear HA
   simp only [taskmasterref26_number.j0] at H
   by_cases c4 : x12_1 = true
   ·subst c4
    have H1 : (some (-1)) = some r := by rw [if_pos rfl] at H; exact H
    clear H
    have H := H1
    clear H1
    obtain rfl := Option.some.inj H
    go_wp2
    go_ret
    exact ⟨by first | rfl | (simp; done) | (simp [*]; done), by repeat (first | exact Drawn0.refl _ | apply Drawn0.step)⟩
   ·replace c4 := Bool.eq_false_iff.mpr c4
    subst c4
    have H1 : (taskmasterref26_number.l0 kj1 a0 0 0) = some r := by rw [if_neg (show ¬ (false = true) by decide)] at H; exact H
    clear H
    have H := H1
    clear H1
    have H' := Aside0.mk H
    clear H
    go_wp2
    go_loopg [3, 4] kj1 (fun kq v3 v4 w' => ∃ (x3_2 : Int) (x4_2 : Int), v3 = .int .i64 x3_2 ∧ v4 = .int .i64 x4_2 ∧ Aside0 (taskmasterref26_number.l0 kq a0 x3_2 x4_2 = some r) ∧ Aside0 (kq ≤ kj1) ∧ Drawn0 w w')
    case atStart => exact ⟨(0), (0), (by first | rfl | (simp; done) | (simp [*]; done)), (by first | rfl | (simp; done) | (simp [*]; done)), H', ⟨Nat.le_refl _⟩, by repeat (first | exact Drawn0.refl _ | apply Drawn0.step)⟩
    case round =>
     clear H'
     try clear c1
     try clear p2
     try clear c3
     try clear c3b0
     try clear c3b1
     try clear c4
     try clear p2
     obtain ⟨x3_2, x4_2, rfl, rfl, HA, HK2, ⟨m2, rfl⟩⟩ := hrel
     cases gk with
     | zero => exact absurd HA.out (by simp [taskmasterref26_number.l0])
     | succ k2 =>
      have H := HA.out
      clear HA
      simp only [taskmasterref26_number.l0] at H
      by_cases c5 : x4_2 < (a0.size : Int)
      ·rw [if_pos c5] at H
       have c5b0 : decide (x4_2 < (a0.size : Int)) = true := decide_eq_true c5
       clear c5
       by_cases c6 : 0 ≤ x4_2
       ·rw [if_pos c6] at H
        have c6b0 : decide (0 ≤ x4_2) = true := decide_eq_true c6
        clear c6
        by_cases c8 : (bt a0 x4_2) < 48
        ·rw [if_pos c8] at H
         have c8b0 : decide ((bt a0 x4_2) < 48) = true := decide_eq_true c8
         clear c8
         obtain rfl := Option.some.inj H
         have p7 : 0 ≤ (x4_2 : Int) := of_decide_eq_true (by first | (with_reducible assumption) | assumption)
         have q7 : x4_2 < (a0.size : Int) := of_decide_eq_true (by first | (with_reducible assumption) | assumption)
         have hx7 := bt_at a0 x4_2
         replace p7 := eq_true p7
         replace q7 := eq_true q7
         go_wp2
         go_ret
         exact ⟨by first | rfl | (simp; done) | (simp [*]; done), by repeat (first | exact Drawn0.refl _ | apply Drawn0.step)⟩
        ·rw [if_neg c8] at H
         have c8b0 : decide ((bt a0 x4_2) < 48) = false := decide_eq_false c8
         clear c8
         by_cases c10 : (bt a0 x4_2) > 57
         ·rw [if_pos c10] at H
          have c10b0 : decide (57 < (bt a0 x4_2)) = true := decide_eq_true c10
          clear c10
          obtain rfl := Option.some.inj H
          have p7 : 0 ≤ (x4_2 : Int) := of_decide_eq_true (by first | (with_reducible assumption) | assumption)
          have q7 : x4_2 < (a0.size : Int) := of_decide_eq_true (by first | (with_reducible assumption) | assumption)
          have hx7 := bt_at a0 x4_2
          replace p7 := eq_true p7
          replace q7 := eq_true q7
          have p9 : 0 ≤ (x4_2 : Int) := of_decide_eq_true (by first | (with_reducible assumption) | assumption)
          have q9 : x4_2 < (a0.size : Int) := of_decide_eq_true (by first | (with_reducible assumption) | assumption)
          have hx9 := bt_at a0 x4_2
          replace p9 := eq_true p9
          replace q9 := eq_true q9
          go_wp2
          go_ret
          exact ⟨by first | rfl | (simp; done) | (simp [*]; done), by repeat (first | exact Drawn0.refl _ | apply Drawn0.step)⟩
         ·rw [if_neg c10] at H
          have c10b0 : decide (57 < (bt a0 x4_2)) = false := decide_eq_false c10
          clear c10
          have H' := Aside0.mk H
          clear H
          have p7 : 0 ≤ (x4_2 : Int) := of_decide_eq_true (by first | (with_reducible assumption) | assumption)
          have q7 : x4_2 < (a0.size : Int) := of_decide_eq_true (by first | (with_reducible assumption) | assumption)
          have hx7 := bt_at a0 x4_2
          replace p7 := eq_true p7
          replace q7 := eq_true q7
          have p9 : 0 ≤ (x4_2 : Int) := of_decide_eq_true (by first | (with_reducible assumption) | assumption)
          have q9 : x4_2 < (a0.size : Int) := of_decide_eq_true (by first | (with_reducible assumption) | assumption)
          have hx9 := bt_at a0 x4_2
          replace p9 := eq_true p9
          replace q9 := eq_true q9
          have p11 : 0 ≤ (x4_2 : Int) := of_decide_eq_true (by first | (with_reducible assumption) | assumption)
          have q11 : x4_2 < (a0.size : Int) := of_decide_eq_true (by first | (with_reducible assumption) | assumption)
          have hx11 := bt_at a0 x4_2
          replace p11 := eq_true p11
          replace q11 := eq_true q11
          go_wp2
          go_roundg k2
          case measure => have := HJ1.out; have := HK2.out; omega
          case rel => exact ⟨(wrap64 ((wrap64 (10 * x3_2)) + (((bt a0 x4_2) - 48) % 256))), (wrap64 (x4_2 + 1)), (by first | rfl | (simp; done) | (simp [*]; done)), (by first | rfl | (simp; done) | (simp [*]; done)), H', ⟨by have := HJ1.out; have := HK2.out; omega⟩, by repeat (first | exact Drawn0.refl _ | apply Drawn0.step)⟩
       ·rw [if_neg c6] at H
        exact absurd H (by simp)
      ·rw [if_neg c5] at H
       have c5b0 : decide (x4_2 < (a0.size : Int)) = false := decide_eq_false c5
       clear c5
       obtain rfl := Option.some.inj H
       go_wp2
       go_ret
       exact ⟨by first | rfl | (simp; done) | (simp [*]; done), by repeat (first | exact Drawn0.refl _ | apply Drawn0.step)⟩
end Go.Proofs.YtkdndgclldlddaaDoor.QTr
namespace Go.Proofs.YtkdndgclldlddaaDoor.QTr
open Go.RowKit Go.Proofs.YtkdndgclldlddaaDoorW.PrintWords Go.Proofs.YtkdndgclldlddaaDoorW.PrintLast Go.Proofs.YtkdndgclldlddaaDoorW.PrintMore
set_option linter.unusedVariables false
set_option linter.unusedSimpArgs false
theorem cell_alloc_old {w : World} {a : Addr} {v : Value} (h : w.cell? a = some v) (o : Obj) : (w.alloc o).cell? a = some v := (Below.alloc (Below.refl _ w) (Nat.le_refl _) o).cell (World.block_lt_of_cell? w _ h) |>.trans h
def partsL : List UInt8 → List ByteArray → Nat → List ByteArray × Bool
  | [], o, k => (o, k == 3)
  | b :: s, o, k => if b = 32 then (if 3 < k + 1 then (o, false) else partsL s o (k + 1)) else partsL s (o.set k ((o.getD k ByteArray.empty) ++ ⟨#[b]⟩)) k
set_option maxHeartbeats 8000000 in
set_option maxRecDepth 100000 in
theorem parts_calls (s : ByteArray) (hs : s.size ≤ 100000) (w : World) :
    Calls Tryd.prog 64 #[.string s] w fun e w' => e = .returned (.tuple #[.agg ((partsL s.data.toList (List.replicate 4 ByteArray.empty) 0).1.map Value.string).toArray, .bool (partsL s.data.toList (List.replicate 4 ByteArray.empty) 0).2]) ∧ Below w.heap.size w w' := by
  have u98 := Tryd.underlying98; have a98 := Tryd.isAgg98; have z98 := Tryd.sizeOf98; have v98 := Tryd.zeroValue98
  go_enter Tryd.func64, Tryd.ntmps64
  go_wp2
  go_loopg [5, 6] (s.size + 1) (fun kq v5 v6 w' => ∃ (k i : Nat) (o : List ByteArray), kq + i = s.size + 1 ∧ v5 = .int .i64 (k : Int) ∧ v6 = .int .i64 (i : Int) ∧ k ≤ 3 ∧ o.length = 4 ∧ i ≤ s.size ∧ (∀ x ∈ o, x.size ≤ i) ∧ partsL (s.data.toList.drop i) o k = partsL s.data.toList (List.replicate 4 ByteArray.empty) 0 ∧ w'.heap[w.heap.size]? = some (.cells #[.string ⟨#[]⟩, .string ⟨#[]⟩, .string ⟨#[]⟩, .string ⟨#[]⟩] 98 (0, 0)) ∧ w'.heap[w.heap.size + 1]? = some (.cells (o.map Value.string).toArray 98 (0, 0)) ∧ Below w.heap.size w w')
  case atStart =>
    refine ⟨0, 0, List.replicate 4 ByteArray.empty, by omega, rfl, rfl, by omega, rfl, by omega, (by intro x hx; rw [List.eq_of_mem_replicate hx]; exact Nat.zero_le _), rfl, ?_, ?_, ?_⟩
    · rw [Below.heap_alloc _ _ _ (by simp), heap_alloc_new]
    · have h_ := heap_alloc_new (w.alloc (.cells #[.string ⟨#[]⟩, .string ⟨#[]⟩, .string ⟨#[]⟩, .string ⟨#[]⟩] 98)) (.cells #[.string ⟨#[]⟩, .string ⟨#[]⟩, .string ⟨#[]⟩, .string ⟨#[]⟩] 98)
      rw [show (w.alloc (.cells #[.string ⟨#[]⟩, .string ⟨#[]⟩, .string ⟨#[]⟩, .string ⟨#[]⟩] 98)).heap.size = w.heap.size + 1 by simp] at h_
      rw [h_]; rfl
    · exact below_alloc (below_alloc (Below.refl _ _) _) _
  case round =>
    obtain ⟨k, i, o, hq, rfl, rfl, hk3, ho, hi, hsz, hp, hb2, hb4, hB⟩ := hrel
    obtain ⟨o0, o1, o2, o3, rfl⟩ : ∃ o0 o1 o2 o3, o = [o0, o1, o2, o3] := by
      match o, ho with
      | [a, b, c, d], _ => exact ⟨a, b, c, d, rfl⟩
    have hx0 : wr.cell? ⟨w.heap.size + 1, 0, none⟩ = some (.string o0) := (blk_cell hb4 0).trans rfl
    have hx1 : wr.cell? ⟨w.heap.size + 1, 1, none⟩ = some (.string o1) := (blk_cell hb4 1).trans rfl
    have hx2 : wr.cell? ⟨w.heap.size + 1, 2, none⟩ = some (.string o2) := (blk_cell hb4 2).trans rfl
    have hx3 : wr.cell? ⟨w.heap.size + 1, 3, none⟩ = some (.string o3) := (blk_cell hb4 3).trans rfl
    have hy0 : wr.cell? ⟨w.heap.size, 0, none⟩ = some (.string ⟨#[]⟩) := (blk_cell hb2 0).trans rfl
    have hy1 : wr.cell? ⟨w.heap.size, 1, none⟩ = some (.string ⟨#[]⟩) := (blk_cell hb2 1).trans rfl
    have hy2 : wr.cell? ⟨w.heap.size, 2, none⟩ = some (.string ⟨#[]⟩) := (blk_cell hb2 2).trans rfl
    have hy3 : wr.cell? ⟨w.heap.size, 3, none⟩ = some (.string ⟨#[]⟩) := (blk_cell hb2 3).trans rfl
    have hf0 := blk_frozen hb2 0
    have hf1 := blk_frozen hb2 1
    have hf2 := blk_frozen hb2 2
    have hf3 := blk_frozen hb2 3
    cases gk with
    | zero => exfalso; omega
    | succ k1 =>
    by_cases hlt : i < s.size
    · have hlt1 : decide ((i : Int) < (s.size : Int)) = true := decide_eq_true (by omega)
      have hdrop : s.data.toList.drop i = s[i] :: s.data.toList.drop (i + 1) := by
        rw [List.drop_eq_getElem_cons (by simpa using hlt)]; rfl
      rw [hdrop, partsL] at hp
      by_cases h32 : s[i] = 32
      · have e32 : ((s[i].toNat : Int) == 32) = true := by rw [h32]; rfl
        rw [if_pos h32] at hp
        by_cases h3 : 3 < k + 1
        · have e3 : decide ((3 : Int) < (k : Int) + 1) = true := decide_eq_true (by omega)
          rw [if_pos h3] at hp
          go_wp2
          (try simp only [Exit.inBlock, Exit.then])
          refine bodyPost_ret (results_ct rfl _ _ w.heap.size 98 #[.string o0, .string o1, .string o2, .string o3] (0, 0) _ rfl (by refine blk_put (cs := #[.string o0, .string o1, .string o2, .string ⟨#[]⟩]) ?_ 3 _ rfl; refine blk_put (cs := #[.string o0, .string o1, .string ⟨#[]⟩, .string ⟨#[]⟩]) ?_ 2 _ rfl; refine blk_put (cs := #[.string o0, .string ⟨#[]⟩, .string ⟨#[]⟩, .string ⟨#[]⟩]) ?_ 1 _ rfl; refine blk_put (cs := #[.string ⟨#[]⟩, .string ⟨#[]⟩, .string ⟨#[]⟩, .string ⟨#[]⟩]) ?_ 0 _ rfl; exact hb2) Tryd.underlying98 rfl (by kernel_rfl)) rfl ?_
          rw [← hp]
          exact ⟨rfl, by repeat (first | exact hB | refine below_set ?_ (Nat.le_refl _))⟩
        · have e3 : decide ((3 : Int) < (k : Int) + 1) = false := decide_eq_false (by omega)
          rw [if_neg h3] at hp
          have hw1 : wrap64 ((i : Int) + 1) = ((i + 1 : Nat) : Int) := by unfold wrap64; omega
          have hw2 : wrap64 ((k : Int) + 1) = ((k + 1 : Nat) : Int) := by unfold wrap64; omega
          go_wp2
          go_roundg k1
          case measure => exact Nat.lt_succ_self _
          case rel => exact ⟨k + 1, i + 1, [o0, o1, o2, o3], by omega, by first | rfl | (rw [hw2]; done) | (simp; done), by first | rfl | (rw [hw1]; done) | (simp; done), by omega, rfl, by omega, (fun x hx => Nat.le_succ_of_le (hsz x hx)), hp, hb2, hb4, hB⟩
      · have e32 : ((s[i].toNat : Int) == 32) = false := by
          rw [beq_eq_false_iff_ne]
          intro h_
          have h2_ : s[i].toNat = 32 := by omega
          exact h32 (UInt8.toNat_inj.1 (h2_.trans rfl))
        rw [if_neg h32] at hp
        obtain ⟨ok, hok, hck⟩ : ∃ ok, [o0, o1, o2, o3].getD k ByteArray.empty = ok ∧ wr.drew.cell? ⟨w.heap.size + 1, k, none⟩ = some (.string ok) := by
          rcases (by omega : k = 0 ∨ k = 1 ∨ k = 2 ∨ k = 3) with rfl | rfl | rfl | rfl
          · exact ⟨_, rfl, hx0⟩
          · exact ⟨_, rfl, hx1⟩
          · exact ⟨_, rfl, hx2⟩
          · exact ⟨_, rfl, hx3⟩
        rw [hok] at hp
        have hw1 : wrap64 ((i : Int) + 1) = ((i + 1 : Nat) : Int) := by unfold wrap64; omega
        have hoks : ok.size ≤ i := by
          rcases (by omega : k = 0 ∨ k = 1 ∨ k = 2 ∨ k = 3) with rfl | rfl | rfl | rfl
          all_goals (rw [← hok]; exact hsz _ (by simp))
        have hadd : ok.size + 1 ≤ 9223372036854775807 := by omega
        have hadd2 : (9223372036854775807 < ok.size + 1) = False := eq_false (by omega)
        have k0 : decide (0 ≤ (k : Int)) = true := decide_eq_true (by omega)
        have k4 : decide ((k : Int) < 4) = true := decide_eq_true (by omega)
        have k4p : ((k : Int) < 4) = True := eq_true (by omega)
        have i0 : decide (0 ≤ (i : Int)) = true := decide_eq_true (by omega)
        go_wp2
        refine start_ (n := 12) (S := fun w' => w'.heap[w.heap.size + 1]? = some (.cells ([o0, o1, o2, o3].map Value.string).toArray 98 (0, 0)) ∧ w'.cell? ⟨w.heap.size + 1, k, none⟩ = some (.string ok)) (ds := [11]) #[false, false, false, false, false, false, false, false, false, false, false, false] (by kernel_rfl) rfl rfl ⟨hb4, hck⟩ (fun hHeld => ?_)
        refine pure_ (i := 0) (N := some 22) (v := ?_) (a' := ?_) #[true, false, false, false, false, false, false, false, false, false, false, false] rfl rfl (by kernel_rfl) (fun _ _ _ h => h) (Or.inl ⟨by rfl, ?_⟩) ?_ ?_
        rotate_left
        · intro w'
          go_simp
          try with_reducible rfl
        rotate_left
        · simp only [Act.put, List.setIfInBounds_toArray, List.set_cons_zero, List.set_cons_succ, i64_w, i32_w]
          rfl
        refine pure_ (i := 1) (N := some 23) (v := ?_) (a' := ?_) #[true, true, false, false, false, false, false, false, false, false, false, false] rfl rfl (by kernel_rfl) (fun _ _ _ h => h) (Or.inl ⟨by rfl, ?_⟩) ?_ ?_
        rotate_left
        · intro w'
          go_simp
          try with_reducible rfl
        rotate_left
        · simp only [Act.put, List.setIfInBounds_toArray, List.set_cons_zero, List.set_cons_succ, i64_w, i32_w]
          rfl
        refine pure_ (i := 2) (N := some 24) (v := .pointer (some ⟨w.heap.size + 1, k, none⟩)) (a' := ?_) #[true, true, true, false, false, false, false, false, false, false, false, false] rfl rfl (by kernel_rfl) (fun _ _ _ h => h) (Or.inl ⟨by rfl, ?_⟩) ?_ ?_
        · intro w'
          go_simp
          try with_reducible rfl
        rotate_left
        · simp only [Act.put, List.setIfInBounds_toArray, List.set_cons_zero, List.set_cons_succ, i64_w, i32_w]
          rfl
        refine take_ (i := 3) (N := some 25) (v := ?_) (a' := ?_) #[true, true, true, true, false, false, false, false, false, false, false, false] rfl rfl (by kernel_rfl) (fun _ _ _ h => h) (Or.inl ⟨by rfl, ?_⟩) hHeld ?_ ?_
        rotate_left
        · rintro w' ⟨s0, s1⟩
          go_simp
          try with_reducible rfl
        rotate_left
        · simp only [Act.put, List.setIfInBounds_toArray, List.set_cons_zero, List.set_cons_succ, i64_w, i32_w]
          rfl
        refine pure_ (i := 4) (N := some 26) (v := ?_) (a' := ?_) #[true, true, true, true, true, false, false, false, false, false, false, false] rfl rfl (by kernel_rfl) (fun _ _ _ h => h) (Or.inl ⟨by rfl, ?_⟩) ?_ ?_
        rotate_left
        · intro w'
          go_simp
          try with_reducible rfl
        rotate_left
        · simp only [Act.put, List.setIfInBounds_toArray, List.set_cons_zero, List.set_cons_succ, i64_w, i32_w]
          rfl
        refine pure_ (i := 5) (N := some 27) (v := ?_) (a' := ?_) #[true, true, true, true, true, true, false, false, false, false, false, false] rfl rfl (by kernel_rfl) (fun _ _ _ h => h) (Or.inl ⟨by rfl, ?_⟩) ?_ ?_
        rotate_left
        · intro w'
          go_simp
          try with_reducible rfl
        rotate_left
        · simp only [Act.put, List.setIfInBounds_toArray, List.set_cons_zero, List.set_cons_succ, i64_w, i32_w]
          rfl
        refine pure_ (i := 6) (N := some 28) (v := ?_) (a' := ?_) #[true, true, true, true, true, true, true, false, false, false, false, false] rfl rfl (by kernel_rfl) (fun _ _ _ h => h) (Or.inl ⟨by rfl, ?_⟩) ?_ ?_
        rotate_left
        · intro w'
          go_simp
          try with_reducible rfl
        rotate_left
        · simp only [Act.put, List.setIfInBounds_toArray, List.set_cons_zero, List.set_cons_succ, i64_w, i32_w]
          rfl
        refine one_ (i := 7) (N := some 29) #[true, true, true, true, true, true, true, true, false, false, false, false] rfl rfl (by kernel_rfl) (by decide) (fun K hK => ?_)
        refine value_ (v := .slice (some ⟨wr.drew.heap.size, 0, none⟩) 1 1) (w1 := wr.drew.alloc (.cells #[.int .u8 s[i].toNat] 5)) rfl rfl (by go_simp; first | done | exact ⟨rfl, rfl⟩ | rfl) ?_
        refine hK.out _ _ ⟨?_, ?_⟩ (fun hHeld => ?_)
        · exact blk_alloc (blk_drew hb4) _
        · exact (cell_alloc_old hck _)
        clear hK K
        refine norm_ (a' := ?_) ?_ ?_
        rotate_left
        · show Act.put _ (some 29) _ = _
          simp only [Act.put, List.setIfInBounds_toArray, List.set_cons_zero, List.set_cons_succ, i64_w, i32_w]
          rfl
        refine one_ (i := 8) (N := some 30) #[true, true, true, true, true, true, true, true, true, false, false, false] rfl rfl (by kernel_rfl) (by decide) (fun K hK => ?_)
        refine value_ (v := .string ⟨#[s[i]]⟩) (w1 := wr.drew.alloc (.cells #[.int .u8 s[i].toNat] 5)) rfl rfl ?_ ?_
        · have h_ : (convert 68 9 (.slice (some ⟨wr.heap.size, 0, none⟩) 1 1)).run Tryd.prog ((wr.alloc (.cells #[.int .u8 s[i].toNat] 5)).drew) = .ok (.string ⟨#[s[i]]⟩) ((wr.alloc (.cells #[.int .u8 s[i].toNat] 5)).drew) := run_convert_bytes_back (P := Tryd.prog) ((wr.alloc (.cells #[.int .u8 s[i].toNat] 5)).drew) 68 9 5 ⟨wr.heap.size, 0, none⟩ 1 [s[i]] Tryd.underlying68 Tryd.underlying5 Tryd.underlying9 (fun j hj => by
            have hj0 : j = 0 := by simpa using hj
            subst hj0
            exact (blk_cell (blk_drew (heap_alloc_new wr _)) 0).trans rfl)
          go_simp
        refine hK.out _ _ hHeld (fun hHeld => ?_)
        clear hK K
        refine norm_ (a' := ?_) ?_ ?_
        rotate_left
        · show Act.put _ (some 30) _ = _
          simp only [Act.put, List.setIfInBounds_toArray, List.set_cons_zero, List.set_cons_succ, i64_w, i32_w]
          rfl
        refine pure_ (i := 9) (N := some 31) (v := .string (ok ++ ⟨#[s[i]]⟩)) (a' := ?_) #[true, true, true, true, true, true, true, true, true, true, false, false] rfl rfl (by kernel_rfl) (fun _ _ _ h => h) (Or.inl ⟨by rfl, ?_⟩) ?_ ?_
        · intro w'
          go_simp
          try with_reducible rfl
        rotate_left
        · simp only [Act.put, List.setIfInBounds_toArray, List.set_cons_zero, List.set_cons_succ, i64_w, i32_w]
          rfl
        refine pure_ (i := 10) (N := some 32) (v := .pointer (some ⟨w.heap.size + 1, k, none⟩)) (a' := ?_) #[true, true, true, true, true, true, true, true, true, true, true, false] rfl rfl (by kernel_rfl) (fun _ _ _ h => h) (Or.inl ⟨by rfl, ?_⟩) ?_ ?_
        · intro w'
          go_simp
          try with_reducible rfl
        rotate_left
        · simp only [Act.put, List.setIfInBounds_toArray, List.set_cons_zero, List.set_cons_succ, i64_w, i32_w]
          rfl
        refine last_ (i := 11) (N := none) #[true, true, true, true, true, true, true, true, true, true, true, true] rfl rfl (by kernel_rfl) (by decide) (fun K hK => ?_)
        refine skip_ (w1 := (wr.drew.alloc (.cells #[.int .u8 s[i].toNat] 5)).setCell ⟨w.heap.size + 1, k, none⟩ (.string (ok ++ ⟨#[s[i]]⟩))) rfl rfl ?_ ?_
        · have hf_ : (wr.alloc (.cells #[.int .u8 s[i].toNat] 5)).frozen? ⟨w.heap.size + 1, k, none⟩ = false := blk_frozen hHeld.1 k
          have hc_ : (wr.alloc (.cells #[.int .u8 s[i].toNat] 5)).cell? ⟨w.heap.size + 1, k, none⟩ = some (.string ok) := hHeld.2
          go_simp
        refine hK.out _ _ ?_
        clear hK K
        refine done_ (by kernel_rfl) ?_
        go_wp2
        go_roundg k1
        case measure => exact Nat.lt_succ_self _
        case rel =>
          refine ⟨k, i + 1, [o0, o1, o2, o3].set k (ok ++ ⟨#[s[i]]⟩), by omega, rfl, by first | rfl | (rw [hw1]; done) | (simp; done), hk3, by simp, by omega, ?_, hp, ?_, ?_, ?_⟩
          · intro x hx
            rcases List.mem_or_eq_of_mem_set hx with hx | rfl
            · exact Nat.le_succ_of_le (hsz x hx)
            · rw [ByteArray.size_append]; exact Nat.add_le_add hoks (Nat.le_refl 1)
          · exact blk_far (blk_alloc (blk_drew hb2) _) (by show w.heap.size ≠ w.heap.size + 1; omega) _
          · exact blk_put (blk_alloc (blk_drew hb4) _) k _ (by simp [List.map_set])
          · exact below_set (below_alloc (below_drew1 hB) _) (Nat.le_succ _)
    · have hlt1 : decide ((i : Int) < (s.size : Int)) = false := decide_eq_false (by omega)
      rw [List.drop_of_length_le (by simp; omega), partsL] at hp
      go_wp2
      (try simp only [Exit.inBlock, Exit.then])
      refine bodyPost_ret (results_ct rfl _ _ w.heap.size 98 #[.string o0, .string o1, .string o2, .string o3] (0, 0) _ rfl (by refine blk_put (cs := #[.string o0, .string o1, .string o2, .string ⟨#[]⟩]) ?_ 3 _ rfl; refine blk_put (cs := #[.string o0, .string o1, .string ⟨#[]⟩, .string ⟨#[]⟩]) ?_ 2 _ rfl; refine blk_put (cs := #[.string o0, .string ⟨#[]⟩, .string ⟨#[]⟩, .string ⟨#[]⟩]) ?_ 1 _ rfl; refine blk_put (cs := #[.string ⟨#[]⟩, .string ⟨#[]⟩, .string ⟨#[]⟩, .string ⟨#[]⟩]) ?_ 0 _ rfl; exact hb2) Tryd.underlying98 rfl (by kernel_rfl)) rfl ?_
      rw [← hp]
      exact ⟨by have e_ : ((k : Int) == 3) = (k == 3) := by (rw [Bool.eq_iff_iff]; simp; omega)
                first | (rw [e_]; rfl) | (simp [e_]; done), by repeat (first | exact hB | refine below_set ?_ (Nat.le_refl _))⟩
theorem partsL_len : ∀ (s : List UInt8) (o : List ByteArray) (k : Nat), (partsL s o k).1.length = o.length
  | [], _, _ => rfl
  | b :: s, o, k => by
    rw [partsL]
    split
    · split
      · rfl
      · exact partsL_len s o (k + 1)
    · rw [partsL_len s _ k]; simp
def taskmasterref26_parts.f (a0 : ByteArray) : Option (ByteArray × ByteArray × ByteArray × ByteArray × Bool) :=
  if a0.size ≤ 100000 then (match partsL a0.data.toList (List.replicate 4 ByteArray.empty) 0 with
    | ([x0, x1, x2, x3], b) => some (x0, x1, x2, x3, b)
    | _ => none) else none
theorem taskmasterref26_parts.calls (a0 r1 r2 r3 r4 : ByteArray) (r5 : Bool) (w : World) (h : taskmasterref26_parts.f a0 = some (r1, r2, r3, r4, r5)) :
    Calls Tryd.prog 64 #[.string a0] w fun e w' => e = .returned (.tuple #[.agg #[.string r1, .string r2, .string r3, .string r4], .bool r5]) ∧ Below w.heap.size w w' := by
  unfold taskmasterref26_parts.f at h
  by_cases hs : a0.size ≤ 100000
  · rw [if_pos hs] at h
    refine (parts_calls a0 hs w).mono fun e w' ⟨he, hb⟩ => ⟨?_, hb⟩
    rw [he]
    split at h
    · next x0 x1 x2 x3 b heq =>
      rw [heq]
      simp only [Option.some.injEq, Prod.mk.injEq] at h
      obtain ⟨rfl, rfl, rfl, rfl, rfl⟩ := h
      rfl
    · cases h
  · rw [if_neg hs] at h; cases h
end Go.Proofs.YtkdndgclldlddaaDoor.QTr
namespace Go.Proofs.YtkdndgclldlddaaDoor.QTr
open Go.RowKit Go.Proofs.YtkdndgclldlddaaDoorW.PrintWords Go.Proofs.YtkdndgclldlddaaDoorW.PrintLast Go.Proofs.YtkdndgclldlddaaDoorW.PrintMore
attribute [local go_sem] max2_int min2_int max_two min_two max_three min_three max_four min_four
set_option linter.unusedVariables false
set_option linter.unusedSimpArgs false
mutual
def taskmasterref26_line.j0 : Nat → Bool → ByteArray → ByteArray → ByteArray → ByteArray → Int → Int → Int → Int → Option (Int × Int × Int × Int × Bool)
 | 0, _, _, _, _, _, _, _, _, _ => none
 | k + 1, x5, x229000, x229001, x229002, x229003, x232000, x232001, x232002, x232003 => (taskmasterref26_Words.f).bind fun t233 => (taskmasterref26_line.l0 k x5 t233 1 x229000 x229001 x229002 x229003 x232000 x232001 x232002 x232003)
def taskmasterref26_line.l0 : Nat → Bool → List ByteArray → Int → ByteArray → ByteArray → ByteArray → ByteArray → Int → Int → Int → Int → Option (Int × Int × Int × Int × Bool)
 | 0, _, _, _, _, _, _, _, _, _, _, _ => none
 | k + 1, x5, x7, x8, x229000, x229001, x229002, x229003, x232000, x232001, x232002, x232003 => if x8 < (x7.length : Int) then (if 0 ≤ x8 then (if (rdOf ByteArray.empty x7 x8).toList = x229001.toList then (taskmasterref26_line.l0 k x5 x7 (wrap64 (x8 + 1)) x229000 x229001 x229002 x229003 x232000 x8 x232002 x232003) else (taskmasterref26_line.l0 k x5 x7 (wrap64 (x8 + 1)) x229000 x229001 x229002 x229003 x232000 x232001 x232002 x232003)) else (none)) else (some (x232000, x232001, x232002, x232003, x5))
end
def taskmasterref26_line.f (k : Nat) (a0 : ByteArray) : Option (Int × Int × Int × Int × Bool) := (taskmasterref26_parts.f a0).bind fun bt223 => ((taskmasterref26_number.f k bt223.1).bind fun t229 => ((taskmasterref26_number.f k bt223.2.2.2.1).bind fun t230 => (if bt223.2.2.1.toList = ([45] : List UInt8) then (taskmasterref26_line.j0 k bt223.2.2.2.2 bt223.1 bt223.2.1 bt223.2.2.1 bt223.2.2.2.1 t229 0 (-1) t230) else ((taskmasterref26_number.f k bt223.2.2.1).bind fun t232 => (taskmasterref26_line.j0 k bt223.2.2.2.2 bt223.1 bt223.2.1 bt223.2.2.1 bt223.2.2.2.1 t229 0 t232 t230)))))
def taskmasterref26_line.T2 : Bool × List (List Nat × List Nat) := (true, [([], []), ([0], [0]), ([1], [1]), ([], []), ([3], [3]), ([4, 2], [4]), ([2, 5], [2, 5]), ([], []), ([7, 6, 5, 0, 1, 2, 3, 4, 5, 6, 7], [6, 7])])
def taskmasterref26_line.B2 : List Nat := [0, 1, 3, 0, 8, 31, 63, 0, 255]
theorem taskmasterref26_line.tab2 : rtab .any (opsOf Tryd.f41 2) = taskmasterref26_line.T2 := by kernel_rfl
theorem taskmasterref26_line.bits2 : waitsOk taskmasterref26_line.T2.2 taskmasterref26_line.B2 = true := by kernel_rfl
set_option maxHeartbeats 8000000 in
set_option maxRecDepth 100000 in
theorem taskmasterref26_line.calls (k : Nat) (a0 : ByteArray) (r1 : Int) (r2 : Int) (r3 : Int) (r4 : Int) (r5 : Bool) (w : World) (h : taskmasterref26_line.f k a0 = some (r1, r2, r3, r4, r5)) :
  Calls Tryd.prog 41 #[.string a0] w fun e w' => e = .returned (.tuple #[.agg #[.int .i64 r1, .int .i64 r2, .int .i64 r3, .int .i64 r4], .bool r5]) ∧ Below w.heap.size w w' := by
 have hu44 := Tryd.underlying44
 have hu98 := Tryd.underlying98
 have HB := Aside0.mk (Below.refl w.heap.size w)
 have H : ((taskmasterref26_parts.f a0).bind fun bt223 => ((taskmasterref26_number.f k bt223.1).bind fun t229 => ((taskmasterref26_number.f k bt223.2.2.2.1).bind fun t230 => (if bt223.2.2.1.toList = ([45] : List UInt8) then (taskmasterref26_line.j0 k bt223.2.2.2.2 bt223.1 bt223.2.1 bt223.2.2.1 bt223.2.2.2.1 t229 0 (-1) t230) else ((taskmasterref26_number.f k bt223.2.2.1).bind fun t232 => (taskmasterref26_line.j0 k bt223.2.2.2.2 bt223.1 bt223.2.1 bt223.2.2.1 bt223.2.2.2.1 t229 0 t232 t230)))))) = some (r1, r2, r3, r4, r5) := h
 clear h
 replace H := Option.bind_eq_some_iff.mp H
 obtain ⟨⟨t223, t224, t225, t226, t227⟩, A20, H⟩ := H
 replace H : ((taskmasterref26_number.f k t223).bind fun t229 => ((taskmasterref26_number.f k t226).bind fun t230 => (if t225.toList = ([45] : List UInt8) then (taskmasterref26_line.j0 k t227 t223 t224 t225 t226 t229 0 (-1) t230) else ((taskmasterref26_number.f k t225).bind fun t232 => (taskmasterref26_line.j0 k t227 t223 t224 t225 t226 t229 0 t232 t230))))) = some (r1, r2, r3, r4, r5) := H
 have A2 := Aside0.mk A20
 clear A20
 replace H := Option.bind_eq_some_iff.mp H
 obtain ⟨t229, A30, H⟩ := H
 replace H : ((taskmasterref26_number.f k t226).bind fun t230 => (if t225.toList = ([45] : List UInt8) then (taskmasterref26_line.j0 k t227 t223 t224 t225 t226 t229 0 (-1) t230) else ((taskmasterref26_number.f k t225).bind fun t232 => (taskmasterref26_line.j0 k t227 t223 t224 t225 t226 t229 0 t232 t230)))) = some (r1, r2, r3, r4, r5) := H
 have A3 := Aside0.mk A30
 clear A30
 replace H := Option.bind_eq_some_iff.mp H
 obtain ⟨t230, A40, H⟩ := H
 replace H : (if t225.toList = ([45] : List UInt8) then (taskmasterref26_line.j0 k t227 t223 t224 t225 t226 t229 0 (-1) t230) else ((taskmasterref26_number.f k t225).bind fun t232 => (taskmasterref26_line.j0 k t227 t223 t224 t225 t226 t229 0 t232 t230))) = some (r1, r2, r3, r4, r5) := H
 have A4 := Aside0.mk A40
 clear A40
 have HC5 := Aside0.mk H
 clear H
 go_enter Tryd.func41, Tryd.ntmps41
 try go_wp2_with (first | ((with_reducible refine gate_dst (N := 2) rfl ?_); refine box_event ?hg (N := 2) ?hd (cs := #[.int .i64 0, .int .i64 0, .int .i64 0, .int .i64 0]) (t := 44) ?hr ?_; (case hd => rfl); (case hg => rfl); (case hr => first | (go_simp; done) | (go_simp; rfl)); intro gb222 hg w6 hbox hb; have n0_ := Aside0.mk (below_step (by repeat (first | (with_reducible first | exact HB.out | apply below_alloc | apply pw_below_drewN | apply below_drew1) | exact HB.out)) hb); have n1_ := Aside0.mk (hbox); have n2_ := Aside0.mk ((by rw [hg]; exact (below_size (by repeat (first | (with_reducible first | exact HB.out | apply below_alloc | apply pw_below_drewN | apply below_drew1) | exact HB.out))) : w.heap.size ≤ gb222)); have n3_ := Aside0.mk ((by rw [hg]; exact (below_size (by repeat (first | (with_reducible first | exact HB.out | apply below_alloc | apply pw_below_drewN | apply below_drew1) | exact HB.out))) : w.heap.size ≤ gb222)); clear HB; have HB := n0_; have BK222 := n1_; have GW222 := n2_; have GE222 := n3_; clear n0_ n1_ n2_ n3_; clear hb hbox hg) | ((with_reducible refine gate_callee (f := 64) rfl ?_); refine goesL_ (some 11) rfl rfl Tryd.func64 (by kernel_rfl) rfl #[.string a0] rfl (by (try simp only [List.map_toArray, List.map_cons, List.map_nil]); first | done | rfl | (simp only [List.length_drop, List.length_take]; rfl)) ?_; (with_reducible refine (taskmasterref26_parts.calls a0 t223 t224 t225 t226 t227 _ A2.out).mono ?_); rintro e w7 ⟨rfl, hb⟩; refine ⟨_, rfl, ?_⟩; have n0_ := Aside0.mk (blk_below (g := gb222) (o := .cells #[.int .i64 0, .int .i64 0, .int .i64 0, .int .i64 0] 44 (0, 0)) (by (with_reducible repeat (first | refine blk_drewN ?_ _ | refine blk_drew ?_ | refine blk_alloc ?_ _)); exact BK222.out) hb); have n1_ := Aside0.mk (below_step (by repeat (first | (with_reducible first | exact HB.out | apply below_alloc | apply pw_below_drewN | apply below_drew1 | refine below_set ?_ GE222.out) | exact HB.out)) hb); clear BK222; clear HB; have BK222 := n0_; have HB := n1_; clear n0_ n1_; (try clear hb); (try clear hb2); (try clear hk); (try clear hi)) | ((with_reducible refine gate_dst (N := 4) rfl ?_); refine box_event ?hg (N := 4) ?hd (cs := #[.string (⟨#[]⟩ : ByteArray), .string (⟨#[]⟩ : ByteArray), .string (⟨#[]⟩ : ByteArray), .string (⟨#[]⟩ : ByteArray)]) (t := 98) ?hr ?_; (case hd => rfl); (case hg => rfl); (case hr => first | (go_simp; done) | (go_simp; rfl)); intro gb228 hg w8 hbox hb; have n0_ := Aside0.mk (blk_below (g := gb222) (o := .cells #[.int .i64 0, .int .i64 0, .int .i64 0, .int .i64 0] 44 (0, 0)) (by (with_reducible repeat (first | refine blk_drewN ?_ _ | refine blk_drew ?_ | refine blk_alloc ?_ _)); exact BK222.out) hb); have n1_ := Aside0.mk (below_step (by repeat (first | (with_reducible first | exact HB.out | apply below_alloc | apply pw_below_drewN | apply below_drew1 | refine below_set ?_ GE222.out) | exact HB.out)) hb); have n2_ := Aside0.mk (hbox); have n3_ := Aside0.mk ((by rw [hg]; exact (below_size (by repeat (first | (with_reducible first | exact HB.out | apply below_alloc | apply pw_below_drewN | apply below_drew1 | refine below_set ?_ GE222.out) | exact HB.out))) : w.heap.size ≤ gb228)); have n4_ := Aside0.mk ((by rw [hg]; exact (below_size (by repeat (first | (with_reducible first | exact HB.out | apply below_alloc | apply pw_below_drewN | apply below_drew1 | refine below_set ?_ GE222.out) | exact HB.out))) : w.heap.size ≤ gb228)); have n5_ := Aside0.mk ((by rw [hg]; exact Nat.ne_of_lt (blk_lt (g := gb222) (o := .cells #[.int .i64 0, .int .i64 0, .int .i64 0, .int .i64 0] 44 (0, 0)) (by (with_reducible repeat (first | refine blk_drewN ?_ _ | refine blk_drew ?_ | refine blk_alloc ?_ _)); exact BK222.out)) : gb222 ≠ gb228)); have n6_ := Aside0.mk ((by rw [hg]; exact Nat.ne_of_gt (blk_lt (g := gb222) (o := .cells #[.int .i64 0, .int .i64 0, .int .i64 0, .int .i64 0] 44 (0, 0)) (by (with_reducible repeat (first | refine blk_drewN ?_ _ | refine blk_drew ?_ | refine blk_alloc ?_ _)); exact BK222.out)) : gb228 ≠ gb222)); clear BK222; clear HB; have BK222 := n0_; have HB := n1_; have BK228 := n2_; have GW228 := n3_; have GE228 := n4_; have NB222_228 := n5_; have NB228_222 := n6_; clear n0_ n1_ n2_ n3_ n4_ n5_ n6_; clear hb hbox hg; have hnb9 := NB228_222.out; have hnc9 := NB222_228.out; have hcz10_0 : w8.cell? ⟨gb228, 0, none⟩ = some (.string (⟨#[]⟩ : ByteArray)) := (blk_cell BK228.out 0).trans rfl; have hcz10_1 : w8.cell? ⟨gb228, 1, none⟩ = some (.string (⟨#[]⟩ : ByteArray)) := (blk_cell BK228.out 1).trans rfl; have hcz10_2 : w8.cell? ⟨gb228, 2, none⟩ = some (.string (⟨#[]⟩ : ByteArray)) := (blk_cell BK228.out 2).trans rfl; have hcz10_3 : w8.cell? ⟨gb228, 3, none⟩ = some (.string (⟨#[]⟩ : ByteArray)) := (blk_cell BK228.out 3).trans rfl; have hfz10_0 := blk_frozen BK228.out 0; have hfz10_1 := blk_frozen BK228.out 1; have hfz10_2 := blk_frozen BK228.out 2; have hfz10_3 := blk_frozen BK228.out 3))
 have n0_ : Aside0 (((((w8.setCell ⟨gb228, 0, none⟩ (.string t223)).setCell ⟨gb228, 1, none⟩ (.string t224)).setCell ⟨gb228, 2, none⟩ (.string t225)).setCell ⟨gb228, 3, none⟩ (.string t226)).heap[gb222]? = some (.cells #[.int .i64 0, .int .i64 0, .int .i64 0, .int .i64 0] 44 (0, 0))) := ⟨by (with_reducible repeat (first | refine blk_drewN ?_ _ | refine blk_drew ?_ | refine blk_alloc ?_ _)); refine blk_far ?_ NB222_228.out _; (with_reducible repeat (first | refine blk_drewN ?_ _ | refine blk_drew ?_ | refine blk_alloc ?_ _)); refine blk_far ?_ NB222_228.out _; (with_reducible repeat (first | refine blk_drewN ?_ _ | refine blk_drew ?_ | refine blk_alloc ?_ _)); refine blk_far ?_ NB222_228.out _; (with_reducible repeat (first | refine blk_drewN ?_ _ | refine blk_drew ?_ | refine blk_alloc ?_ _)); refine blk_far ?_ NB222_228.out _; (with_reducible repeat (first | refine blk_drewN ?_ _ | refine blk_drew ?_ | refine blk_alloc ?_ _)); exact BK222.out⟩
 have n1_ : Aside0 (((((w8.setCell ⟨gb228, 0, none⟩ (.string t223)).setCell ⟨gb228, 1, none⟩ (.string t224)).setCell ⟨gb228, 2, none⟩ (.string t225)).setCell ⟨gb228, 3, none⟩ (.string t226)).heap[gb228]? = some (.cells #[.string t223, .string t224, .string t225, .string t226] 98 (0, 0))) := ⟨by (with_reducible repeat (first | refine blk_drewN ?_ _ | refine blk_drew ?_ | refine blk_alloc ?_ _)); refine blk_put (cs := #[.string t223, .string t224, .string t225, .string (⟨#[]⟩ : ByteArray)]) ?_ 3 _ rfl; (with_reducible repeat (first | refine blk_drewN ?_ _ | refine blk_drew ?_ | refine blk_alloc ?_ _)); refine blk_put (cs := #[.string t223, .string t224, .string (⟨#[]⟩ : ByteArray), .string (⟨#[]⟩ : ByteArray)]) ?_ 2 _ rfl; (with_reducible repeat (first | refine blk_drewN ?_ _ | refine blk_drew ?_ | refine blk_alloc ?_ _)); refine blk_put (cs := #[.string t223, .string (⟨#[]⟩ : ByteArray), .string (⟨#[]⟩ : ByteArray), .string (⟨#[]⟩ : ByteArray)]) ?_ 1 _ rfl; (with_reducible repeat (first | refine blk_drewN ?_ _ | refine blk_drew ?_ | refine blk_alloc ?_ _)); refine blk_put (cs := #[.string (⟨#[]⟩ : ByteArray), .string (⟨#[]⟩ : ByteArray), .string (⟨#[]⟩ : ByteArray), .string (⟨#[]⟩ : ByteArray)]) ?_ 0 _ rfl; (with_reducible repeat (first | refine blk_drewN ?_ _ | refine blk_drew ?_ | refine blk_alloc ?_ _)); exact BK228.out⟩
 have n2_ : Aside0 (Below w.heap.size w ((((w8.setCell ⟨gb228, 0, none⟩ (.string t223)).setCell ⟨gb228, 1, none⟩ (.string t224)).setCell ⟨gb228, 2, none⟩ (.string t225)).setCell ⟨gb228, 3, none⟩ (.string t226))) := ⟨by repeat (first | (with_reducible first | exact HB.out | apply below_alloc | apply pw_below_drewN | apply below_drew1 | refine below_set ?_ GE222.out | refine below_set ?_ GE228.out) | exact HB.out)⟩
 (try clear BK222)
 (try clear BK228)
 (try clear HB)
 generalize ((((w8.setCell ⟨gb228, 0, none⟩ (.string t223)).setCell ⟨gb228, 1, none⟩ (.string t224)).setCell ⟨gb228, 2, none⟩ (.string t225)).setCell ⟨gb228, 3, none⟩ (.string t226)) = w11 at n0_ n1_ n2_ ⊢
 have BK222 := n0_
 have BK228 := n1_
 have HB := n2_
 clear n0_ n1_ n2_
 have n0_ := Aside0.mk (blk_drew BK222.out)
 have n1_ := Aside0.mk (blk_drew BK228.out)
 have n2_ := Aside0.mk (below_drew1 HB.out)
 clear BK222
 clear BK228
 clear HB
 have BK222 := n0_
 have BK228 := n1_
 have HB := n2_
 clear n0_ n1_ n2_
 refine start_ (n := 9) (S := fun w' => w'.cell? ⟨gb228, 0, none⟩ = some (.string t223) ∧ w'.cell? ⟨gb228, 1, none⟩ = some (.string t224) ∧ w'.cell? ⟨gb228, 2, none⟩ = some (.string t225) ∧ w'.cell? ⟨gb228, 3, none⟩ = some (.string t226)) (ds := []) #[false, false, false, false, false, false, false, false, false] (by kernel_rfl) rfl rfl ⟨(blk_cell BK228.out 0).trans rfl, (blk_cell BK228.out 1).trans rfl, (blk_cell BK228.out 2).trans rfl, (blk_cell BK228.out 3).trans rfl⟩ (fun hHeld => ?_); refine with_tabW taskmasterref26_line.tab2 taskmasterref26_line.bits2 (fun HT_ HW_ => ?_)
 generalize w11.drew = w12 at BK222 BK228 HB hHeld ⊢
 refine pure_ (i := 0) (N := some 14) (v := ?_) (a' := ?_) #[true, false, false, false, false, false, false, false, false] rfl rfl (any_of HT_.out (by kernel_rfl)) (fun _ _ _ h => h) (Or.inl ⟨by rfl, ?_⟩) ?_ ?_
 rotate_left
 ·intro w'
  go_simp
  with_reducible rfl
 rotate_left
 ·simp only [Act.put, List.setIfInBounds_toArray, List.set_cons_zero, List.set_cons_succ, i64_w, i32_w]
  rfl
 refine pure_ (i := 3) (N := some 17) (v := ?_) (a' := ?_) #[true, false, false, true, false, false, false, false, false] rfl rfl (any_of HT_.out (by kernel_rfl)) (fun _ _ _ h => h) (Or.inl ⟨by rfl, ?_⟩) ?_ ?_
 rotate_left
 ·intro w'
  go_simp
  with_reducible rfl
 rotate_left
 ·simp only [Act.put, List.setIfInBounds_toArray, List.set_cons_zero, List.set_cons_succ, i64_w, i32_w]
  rfl
 refine take_ (i := 1) (N := some 15) (v := ?_) (a' := ?_) #[true, true, false, true, false, false, false, false, false] rfl rfl (take_ofW HT_.out HW_.out (by kernel_rfl)) (fun _ _ _ h => h) (Or.inl ⟨by rfl, ?_⟩) hHeld ?_ ?_
 rotate_left
 ·rintro w' ⟨s0, s1, s2, s3⟩
  go_simp
  with_reducible rfl
 rotate_left
 ·simp only [Act.put, List.setIfInBounds_toArray, List.set_cons_zero, List.set_cons_succ, i64_w, i32_w]
  rfl
 refine take_ (i := 4) (N := some 18) (v := ?_) (a' := ?_) #[true, true, false, true, true, false, false, false, false] rfl rfl (take_ofW HT_.out HW_.out (by kernel_rfl)) (fun _ _ _ h => h) (Or.inl ⟨by rfl, ?_⟩) hHeld ?_ ?_
 rotate_left
 ·rintro w' ⟨s0, s1, s2, s3⟩
  go_simp
  with_reducible rfl
 rotate_left
 ·simp only [Act.put, List.setIfInBounds_toArray, List.set_cons_zero, List.set_cons_succ, i64_w, i32_w]
  rfl
 refine join_ (σ := Nat) 1 #[true, true, true, true, true, true, true, true, false] (fun s_ => [(16, .int .i64 t229), (19, .int .i64 t230), (6, .pointer (some ⟨s_, 0, none⟩)), (20, .agg #[.int .i64 t229, .int .i64 0, .int .i64 (-1), .int .i64 t230])]) (fun s_ w' => (w'.cell? ⟨gb228, 0, none⟩ = some (.string t223) ∧ w'.cell? ⟨gb228, 1, none⟩ = some (.string t224) ∧ w'.cell? ⟨gb228, 2, none⟩ = some (.string t225) ∧ w'.cell? ⟨gb228, 3, none⟩ = some (.string t226)) ∧ (w'.heap[gb222]? = some (.cells #[.int .i64 0, .int .i64 0, .int .i64 0, .int .i64 0] 44 (0, 0))) ∧ (w'.heap[gb228]? = some (.cells #[.string t223, .string t224, .string t225, .string t226] 98 (0, 0))) ∧ (w'.heap[s_]? = some (.cells #[.int .i64 0, .int .i64 0, .int .i64 0, .int .i64 0] 44 (0, 0))) ∧ (w.heap.size ≤ s_) ∧ (w.heap.size ≤ s_) ∧ (gb222 ≠ s_) ∧ (s_ ≠ gb222) ∧ (gb228 ≠ s_) ∧ (s_ ≠ gb228) ∧ (Below w.heap.size w w')) ?_ ?_
 rotate_left
 ·intro hCont
  refine two_ (i := 2) (j := 7) (Ni := some 16) (Nj := some 6) #[true, true, true, true, true, false, false, false, false] #[true, true, false, true, true, false, false, true, false] rfl rfl rfl rfl (two_of HT_.out (by kernel_rfl)) (by decide) (by decide) (fun K hK => ?_) (fun K hK => ?_)
  ·skip
   refine goes_ Tryd.func65 (by kernel_rfl) rfl #[.string t223] (by rfl) rfl rfl (by (try simp only [List.map_toArray, List.map_cons, List.map_nil]); first | done | rfl | (simp only [List.length_drop, List.length_take]; rfl)) ?_
   with_reducible refine (taskmasterref26_number.calls k t223 t229 _ A3.out).mono ?_
   rintro e w' ⟨rfl, ⟨nd, rfl⟩⟩
   refine ⟨_, rfl, ?_⟩
   refine hK.out _ _ ⟨(blk_cell BK228.out 0).trans rfl, (blk_cell BK228.out 1).trans rfl, (blk_cell BK228.out 2).trans rfl, (blk_cell BK228.out 3).trans rfl⟩ (fun hHeld => ?_)
   clear hK K
   refine norm_ (a' := ?_) ?_ ?_
   rotate_left
   ·show Act.put _ (some 16) _ = _
    simp only [Act.put, List.setIfInBounds_toArray, List.set_cons_zero, List.set_cons_succ, i64_w, i32_w]
    rfl
   refine two_ (i := 5) (j := 7) (Ni := some 19) (Nj := some 6) #[true, true, true, true, true, true, false, false, false] #[true, true, true, true, true, false, false, true, false] rfl rfl rfl rfl (two_of HT_.out (by kernel_rfl)) (by decide) (by decide) (fun K hK => ?_) (fun K hK => ?_)
   ·skip
    refine goes_ Tryd.func65 (by kernel_rfl) rfl #[.string t226] (by rfl) rfl rfl (by (try simp only [List.map_toArray, List.map_cons, List.map_nil]); first | done | rfl | (simp only [List.length_drop, List.length_take]; rfl)) ?_
    with_reducible refine (taskmasterref26_number.calls k t226 t230 _ A4.out).mono ?_
    rintro e w' ⟨rfl, ⟨nd, rfl⟩⟩
    refine ⟨_, rfl, ?_⟩
    refine hK.out _ _ ⟨(blk_cell BK228.out 0).trans rfl, (blk_cell BK228.out 1).trans rfl, (blk_cell BK228.out 2).trans rfl, (blk_cell BK228.out 3).trans rfl⟩ (fun hHeld => ?_)
    clear hK K
    refine norm_ (a' := ?_) ?_ ?_
    rotate_left
    ·show Act.put _ (some 19) _ = _
     simp only [Act.put, List.setIfInBounds_toArray, List.set_cons_zero, List.set_cons_succ, i64_w, i32_w]
     rfl
    refine pure_ (i := 6) (N := some 20) (v := ?_) (a' := ?_) #[true, true, true, true, true, true, true, false, false] rfl rfl (any_of HT_.out (by kernel_rfl)) (fun _ _ _ h => h) (Or.inl ⟨by rfl, ?_⟩) ?_ ?_
    rotate_left
    ·intro w'
     go_simp
     with_reducible rfl
    rotate_left
    ·simp only [Act.put, List.setIfInBounds_toArray, List.set_cons_zero, List.set_cons_succ, i64_w, i32_w]
     rfl
    refine one_ (i := 7) (N := some 6) #[true, true, true, true, true, true, true, true, false] rfl rfl (one_of HT_.out (by kernel_rfl)) (by decide) (fun K hK => ?_)
    refine box_step ?hg (N := 6) ?hd (cs := #[.int .i64 0, .int .i64 0, .int .i64 0, .int .i64 0]) (t := 44) ?hr ?_; (case hd => rfl); (case hg => rfl); (case hr => first | (go_simp; done) | (go_simp; rfl))
    intro gb231 hg w13 hbox hb
    have n0_ := Aside0.mk (blk_below (g := gb222) (o := .cells #[.int .i64 0, .int .i64 0, .int .i64 0, .int .i64 0] 44 (0, 0)) (by (with_reducible repeat (first | refine blk_drewN ?_ _ | refine blk_drew ?_ | refine blk_alloc ?_ _)); exact BK222.out) hb)
    have n1_ := Aside0.mk (blk_below (g := gb228) (o := .cells #[.string t223, .string t224, .string t225, .string t226] 98 (0, 0)) (by (with_reducible repeat (first | refine blk_drewN ?_ _ | refine blk_drew ?_ | refine blk_alloc ?_ _)); exact BK228.out) hb)
    have n2_ := Aside0.mk (below_step (by repeat (first | (with_reducible first | exact HB.out | apply below_alloc | apply pw_below_drewN | apply below_drew1 | refine below_set ?_ GE222.out | refine below_set ?_ GE228.out) | exact HB.out)) hb)
    have n3_ := Aside0.mk (hbox)
    have n4_ := Aside0.mk ((by rw [hg]; exact (below_size (by repeat (first | (with_reducible first | exact HB.out | apply below_alloc | apply pw_below_drewN | apply below_drew1 | refine below_set ?_ GE222.out | refine below_set ?_ GE228.out) | exact HB.out))) : w.heap.size ≤ gb231))
    have n5_ := Aside0.mk ((by rw [hg]; exact (below_size (by repeat (first | (with_reducible first | exact HB.out | apply below_alloc | apply pw_below_drewN | apply below_drew1 | refine below_set ?_ GE222.out | refine below_set ?_ GE228.out) | exact HB.out))) : w.heap.size ≤ gb231))
    have n6_ := Aside0.mk ((by rw [hg]; exact Nat.ne_of_lt (blk_lt (g := gb222) (o := .cells #[.int .i64 0, .int .i64 0, .int .i64 0, .int .i64 0] 44 (0, 0)) (by (with_reducible repeat (first | refine blk_drewN ?_ _ | refine blk_drew ?_ | refine blk_alloc ?_ _)); exact BK222.out)) : gb222 ≠ gb231))
    have n7_ := Aside0.mk ((by rw [hg]; exact Nat.ne_of_gt (blk_lt (g := gb222) (o := .cells #[.int .i64 0, .int .i64 0, .int .i64 0, .int .i64 0] 44 (0, 0)) (by (with_reducible repeat (first | refine blk_drewN ?_ _ | refine blk_drew ?_ | refine blk_alloc ?_ _)); exact BK222.out)) : gb231 ≠ gb222))
    have n8_ := Aside0.mk ((by rw [hg]; exact Nat.ne_of_lt (blk_lt (g := gb228) (o := .cells #[.string t223, .string t224, .string t225, .string t226] 98 (0, 0)) (by (with_reducible repeat (first | refine blk_drewN ?_ _ | refine blk_drew ?_ | refine blk_alloc ?_ _)); exact BK228.out)) : gb228 ≠ gb231))
    have n9_ := Aside0.mk ((by rw [hg]; exact Nat.ne_of_gt (blk_lt (g := gb228) (o := .cells #[.string t223, .string t224, .string t225, .string t226] 98 (0, 0)) (by (with_reducible repeat (first | refine blk_drewN ?_ _ | refine blk_drew ?_ | refine blk_alloc ?_ _)); exact BK228.out)) : gb231 ≠ gb228))
    clear BK222
    clear BK228
    clear HB
    have BK222 := n0_
    have BK228 := n1_
    have HB := n2_
    have BK231 := n3_
    have GW231 := n4_
    have GE231 := n5_
    have NB222_231 := n6_
    have NB231_222 := n7_
    have NB228_231 := n8_
    have NB231_228 := n9_
    clear n0_ n1_ n2_ n3_ n4_ n5_ n6_ n7_ n8_ n9_
    clear hb hbox hg
    refine hK.out _ _ ⟨(blk_cell BK228.out 0).trans rfl, (blk_cell BK228.out 1).trans rfl, (blk_cell BK228.out 2).trans rfl, (blk_cell BK228.out 3).trans rfl⟩ (fun hHeld => ?_)
    clear hK K
    refine norm_ (a' := ?_) ?_ ?_
    rotate_left
    ·show Act.put _ (some 6) _ = _
     simp only [Act.put, List.setIfInBounds_toArray, List.set_cons_zero, List.set_cons_succ, i64_w, i32_w]
     rfl
    exact norm_ (by simp only [putAll, Act.put, List.setIfInBounds_toArray, List.set_cons_zero, List.set_cons_succ]) (hCont (gb231) _ ⟨hHeld, (by (with_reducible repeat (first | refine blk_drewN ?_ _ | refine blk_drew ?_ | refine blk_alloc ?_ _)); exact BK222.out), (by (with_reducible repeat (first | refine blk_drewN ?_ _ | refine blk_drew ?_ | refine blk_alloc ?_ _)); exact BK228.out), (by (with_reducible repeat (first | refine blk_drewN ?_ _ | refine blk_drew ?_ | refine blk_alloc ?_ _)); exact BK231.out), GW231.out, GE231.out, NB222_231.out, NB231_222.out, NB228_231.out, NB231_228.out, (by repeat (first | (with_reducible first | exact HB.out | apply below_alloc | apply pw_below_drewN | apply below_drew1 | refine below_set ?_ GE222.out | refine below_set ?_ GE228.out | refine below_set ?_ GE231.out) | exact HB.out))⟩)
   ·skip
    refine box_step ?hg (N := 6) ?hd (cs := #[.int .i64 0, .int .i64 0, .int .i64 0, .int .i64 0]) (t := 44) ?hr ?_; (case hd => rfl); (case hg => rfl); (case hr => first | (go_simp; done) | (go_simp; rfl))
    intro gb231 hg w13 hbox hb
    have n0_ := Aside0.mk (blk_below (g := gb222) (o := .cells #[.int .i64 0, .int .i64 0, .int .i64 0, .int .i64 0] 44 (0, 0)) (by (with_reducible repeat (first | refine blk_drewN ?_ _ | refine blk_drew ?_ | refine blk_alloc ?_ _)); exact BK222.out) hb)
    have n1_ := Aside0.mk (blk_below (g := gb228) (o := .cells #[.string t223, .string t224, .string t225, .string t226] 98 (0, 0)) (by (with_reducible repeat (first | refine blk_drewN ?_ _ | refine blk_drew ?_ | refine blk_alloc ?_ _)); exact BK228.out) hb)
    have n2_ := Aside0.mk (below_step (by repeat (first | (with_reducible first | exact HB.out | apply below_alloc | apply pw_below_drewN | apply below_drew1 | refine below_set ?_ GE222.out | refine below_set ?_ GE228.out) | exact HB.out)) hb)
    have n3_ := Aside0.mk (hbox)
    have n4_ := Aside0.mk ((by rw [hg]; exact (below_size (by repeat (first | (with_reducible first | exact HB.out | apply below_alloc | apply pw_below_drewN | apply below_drew1 | refine below_set ?_ GE222.out | refine below_set ?_ GE228.out) | exact HB.out))) : w.heap.size ≤ gb231))
    have n5_ := Aside0.mk ((by rw [hg]; exact (below_size (by repeat (first | (with_reducible first | exact HB.out | apply below_alloc | apply pw_below_drewN | apply below_drew1 | refine below_set ?_ GE222.out | refine below_set ?_ GE228.out) | exact HB.out))) : w.heap.size ≤ gb231))
    have n6_ := Aside0.mk ((by rw [hg]; exact Nat.ne_of_lt (blk_lt (g := gb222) (o := .cells #[.int .i64 0, .int .i64 0, .int .i64 0, .int .i64 0] 44 (0, 0)) (by (with_reducible repeat (first | refine blk_drewN ?_ _ | refine blk_drew ?_ | refine blk_alloc ?_ _)); exact BK222.out)) : gb222 ≠ gb231))
    have n7_ := Aside0.mk ((by rw [hg]; exact Nat.ne_of_gt (blk_lt (g := gb222) (o := .cells #[.int .i64 0, .int .i64 0, .int .i64 0, .int .i64 0] 44 (0, 0)) (by (with_reducible repeat (first | refine blk_drewN ?_ _ | refine blk_drew ?_ | refine blk_alloc ?_ _)); exact BK222.out)) : gb231 ≠ gb222))
    have n8_ := Aside0.mk ((by rw [hg]; exact Nat.ne_of_lt (blk_lt (g := gb228) (o := .cells #[.string t223, .string t224, .string t225, .string t226] 98 (0, 0)) (by (with_reducible repeat (first | refine blk_drewN ?_ _ | refine blk_drew ?_ | refine blk_alloc ?_ _)); exact BK228.out)) : gb228 ≠ gb231))
    have n9_ := Aside0.mk ((by rw [hg]; exact Nat.ne_of_gt (blk_lt (g := gb228) (o := .cells #[.string t223, .string t224, .string t225, .string t226] 98 (0, 0)) (by (with_reducible repeat (first | refine blk_drewN ?_ _ | refine blk_drew ?_ | refine blk_alloc ?_ _)); exact BK228.out)) : gb231 ≠ gb228))
    clear BK222
    clear BK228
    clear HB
    have BK222 := n0_
    have BK228 := n1_
    have HB := n2_
    have BK231 := n3_
    have GW231 := n4_
    have GE231 := n5_
    have NB222_231 := n6_
    have NB231_222 := n7_
    have NB228_231 := n8_
    have NB231_228 := n9_
    clear n0_ n1_ n2_ n3_ n4_ n5_ n6_ n7_ n8_ n9_
    clear hb hbox hg
    refine hK.out _ _ ⟨(blk_cell BK228.out 0).trans rfl, (blk_cell BK228.out 1).trans rfl, (blk_cell BK228.out 2).trans rfl, (blk_cell BK228.out 3).trans rfl⟩ (fun hHeld => ?_)
    clear hK K
    refine norm_ (a' := ?_) ?_ ?_
    rotate_left
    ·show Act.put _ (some 6) _ = _
     simp only [Act.put, List.setIfInBounds_toArray, List.set_cons_zero, List.set_cons_succ, i64_w, i32_w]
     rfl
    refine one_ (i := 5) (N := some 19) #[true, true, true, true, true, true, false, true, false] rfl rfl (one_of HT_.out (by kernel_rfl)) (by decide) (fun K hK => ?_)
    refine goes_ Tryd.func65 (by kernel_rfl) rfl #[.string t226] (by rfl) rfl rfl (by (try simp only [List.map_toArray, List.map_cons, List.map_nil]); first | done | rfl | (simp only [List.length_drop, List.length_take]; rfl)) ?_
    with_reducible refine (taskmasterref26_number.calls k t226 t230 _ A4.out).mono ?_
    rintro e w' ⟨rfl, ⟨nd, rfl⟩⟩
    refine ⟨_, rfl, ?_⟩
    refine hK.out _ _ ⟨(blk_cell BK228.out 0).trans rfl, (blk_cell BK228.out 1).trans rfl, (blk_cell BK228.out 2).trans rfl, (blk_cell BK228.out 3).trans rfl⟩ (fun hHeld => ?_)
    clear hK K
    refine norm_ (a' := ?_) ?_ ?_
    rotate_left
    ·show Act.put _ (some 19) _ = _
     simp only [Act.put, List.setIfInBounds_toArray, List.set_cons_zero, List.set_cons_succ, i64_w, i32_w]
     rfl
    refine pure_ (i := 6) (N := some 20) (v := ?_) (a' := ?_) #[true, true, true, true, true, true, true, true, false] rfl rfl (any_of HT_.out (by kernel_rfl)) (fun _ _ _ h => h) (Or.inl ⟨by rfl, ?_⟩) ?_ ?_
    rotate_left
    ·intro w'
     go_simp
     with_reducible rfl
    rotate_left
    ·simp only [Act.put, List.setIfInBounds_toArray, List.set_cons_zero, List.set_cons_succ, i64_w, i32_w]
     rfl
    exact norm_ (by simp only [putAll, Act.put, List.setIfInBounds_toArray, List.set_cons_zero, List.set_cons_succ]) (hCont (gb231) _ ⟨hHeld, (by (with_reducible repeat (first | refine blk_drewN ?_ _ | refine blk_drew ?_ | refine blk_alloc ?_ _)); exact BK222.out), (by (with_reducible repeat (first | refine blk_drewN ?_ _ | refine blk_drew ?_ | refine blk_alloc ?_ _)); exact BK228.out), (by (with_reducible repeat (first | refine blk_drewN ?_ _ | refine blk_drew ?_ | refine blk_alloc ?_ _)); exact BK231.out), GW231.out, GE231.out, NB222_231.out, NB231_222.out, NB228_231.out, NB231_228.out, (by repeat (first | (with_reducible first | exact HB.out | apply below_alloc | apply pw_below_drewN | apply below_drew1 | refine below_set ?_ GE222.out | refine below_set ?_ GE228.out | refine below_set ?_ GE231.out) | exact HB.out))⟩)
  ·skip
   refine box_step ?hg (N := 6) ?hd (cs := #[.int .i64 0, .int .i64 0, .int .i64 0, .int .i64 0]) (t := 44) ?hr ?_; (case hd => rfl); (case hg => rfl); (case hr => first | (go_simp; done) | (go_simp; rfl))
   intro gb231 hg w13 hbox hb
   have n0_ := Aside0.mk (blk_below (g := gb222) (o := .cells #[.int .i64 0, .int .i64 0, .int .i64 0, .int .i64 0] 44 (0, 0)) (by (with_reducible repeat (first | refine blk_drewN ?_ _ | refine blk_drew ?_ | refine blk_alloc ?_ _)); exact BK222.out) hb)
   have n1_ := Aside0.mk (blk_below (g := gb228) (o := .cells #[.string t223, .string t224, .string t225, .string t226] 98 (0, 0)) (by (with_reducible repeat (first | refine blk_drewN ?_ _ | refine blk_drew ?_ | refine blk_alloc ?_ _)); exact BK228.out) hb)
   have n2_ := Aside0.mk (below_step (by repeat (first | (with_reducible first | exact HB.out | apply below_alloc | apply pw_below_drewN | apply below_drew1 | refine below_set ?_ GE222.out | refine below_set ?_ GE228.out) | exact HB.out)) hb)
   have n3_ := Aside0.mk (hbox)
   have n4_ := Aside0.mk ((by rw [hg]; exact (below_size (by repeat (first | (with_reducible first | exact HB.out | apply below_alloc | apply pw_below_drewN | apply below_drew1 | refine below_set ?_ GE222.out | refine below_set ?_ GE228.out) | exact HB.out))) : w.heap.size ≤ gb231))
   have n5_ := Aside0.mk ((by rw [hg]; exact (below_size (by repeat (first | (with_reducible first | exact HB.out | apply below_alloc | apply pw_below_drewN | apply below_drew1 | refine below_set ?_ GE222.out | refine below_set ?_ GE228.out) | exact HB.out))) : w.heap.size ≤ gb231))
   have n6_ := Aside0.mk ((by rw [hg]; exact Nat.ne_of_lt (blk_lt (g := gb222) (o := .cells #[.int .i64 0, .int .i64 0, .int .i64 0, .int .i64 0] 44 (0, 0)) (by (with_reducible repeat (first | refine blk_drewN ?_ _ | refine blk_drew ?_ | refine blk_alloc ?_ _)); exact BK222.out)) : gb222 ≠ gb231))
   have n7_ := Aside0.mk ((by rw [hg]; exact Nat.ne_of_gt (blk_lt (g := gb222) (o := .cells #[.int .i64 0, .int .i64 0, .int .i64 0, .int .i64 0] 44 (0, 0)) (by (with_reducible repeat (first | refine blk_drewN ?_ _ | refine blk_drew ?_ | refine blk_alloc ?_ _)); exact BK222.out)) : gb231 ≠ gb222))
   have n8_ := Aside0.mk ((by rw [hg]; exact Nat.ne_of_lt (blk_lt (g := gb228) (o := .cells #[.string t223, .string t224, .string t225, .string t226] 98 (0, 0)) (by (with_reducible repeat (first | refine blk_drewN ?_ _ | refine blk_drew ?_ | refine blk_alloc ?_ _)); exact BK228.out)) : gb228 ≠ gb231))
   have n9_ := Aside0.mk ((by rw [hg]; exact Nat.ne_of_gt (blk_lt (g := gb228) (o := .cells #[.string t223, .string t224, .string t225, .string t226] 98 (0, 0)) (by (with_reducible repeat (first | refine blk_drewN ?_ _ | refine blk_drew ?_ | refine blk_alloc ?_ _)); exact BK228.out)) : gb231 ≠ gb228))
   clear BK222
   clear BK228
   clear HB
   have BK222 := n0_
   have BK228 := n1_
   have HB := n2_
   have BK231 := n3_
   have GW231 := n4_
   have GE231 := n5_
   have NB222_231 := n6_
   have NB231_222 := n7_
   have NB228_231 := n8_
   have NB231_228 := n9_
   clear n0_ n1_ n2_ n3_ n4_ n5_ n6_ n7_ n8_ n9_
   clear hb hbox hg
   refine hK.out _ _ ⟨(blk_cell BK228.out 0).trans rfl, (blk_cell BK228.out 1).trans rfl, (blk_cell BK228.out 2).trans rfl, (blk_cell BK228.out 3).trans rfl⟩ (fun hHeld => ?_)
   clear hK K
   refine norm_ (a' := ?_) ?_ ?_
   rotate_left
   ·show Act.put _ (some 6) _ = _
    simp only [Act.put, List.setIfInBounds_toArray, List.set_cons_zero, List.set_cons_succ, i64_w, i32_w]
    rfl
   refine one_ (i := 2) (N := some 16) #[true, true, true, true, true, false, false, true, false] rfl rfl (one_of HT_.out (by kernel_rfl)) (by decide) (fun K hK => ?_)
   refine goes_ Tryd.func65 (by kernel_rfl) rfl #[.string t223] (by rfl) rfl rfl (by (try simp only [List.map_toArray, List.map_cons, List.map_nil]); first | done | rfl | (simp only [List.length_drop, List.length_take]; rfl)) ?_
   with_reducible refine (taskmasterref26_number.calls k t223 t229 _ A3.out).mono ?_
   rintro e w' ⟨rfl, ⟨nd, rfl⟩⟩
   refine ⟨_, rfl, ?_⟩
   refine hK.out _ _ ⟨(blk_cell BK228.out 0).trans rfl, (blk_cell BK228.out 1).trans rfl, (blk_cell BK228.out 2).trans rfl, (blk_cell BK228.out 3).trans rfl⟩ (fun hHeld => ?_)
   clear hK K
   refine norm_ (a' := ?_) ?_ ?_
   rotate_left
   ·show Act.put _ (some 16) _ = _
    simp only [Act.put, List.setIfInBounds_toArray, List.set_cons_zero, List.set_cons_succ, i64_w, i32_w]
    rfl
   refine one_ (i := 5) (N := some 19) #[true, true, true, true, true, true, false, true, false] rfl rfl (one_of HT_.out (by kernel_rfl)) (by decide) (fun K hK => ?_)
   refine goes_ Tryd.func65 (by kernel_rfl) rfl #[.string t226] (by rfl) rfl rfl (by (try simp only [List.map_toArray, List.map_cons, List.map_nil]); first | done | rfl | (simp only [List.length_drop, List.length_take]; rfl)) ?_
   with_reducible refine (taskmasterref26_number.calls k t226 t230 _ A4.out).mono ?_
   rintro e w' ⟨rfl, ⟨nd, rfl⟩⟩
   refine ⟨_, rfl, ?_⟩
   refine hK.out _ _ ⟨(blk_cell BK228.out 0).trans rfl, (blk_cell BK228.out 1).trans rfl, (blk_cell BK228.out 2).trans rfl, (blk_cell BK228.out 3).trans rfl⟩ (fun hHeld => ?_)
   clear hK K
   refine norm_ (a' := ?_) ?_ ?_
   rotate_left
   ·show Act.put _ (some 19) _ = _
    simp only [Act.put, List.setIfInBounds_toArray, List.set_cons_zero, List.set_cons_succ, i64_w, i32_w]
    rfl
   refine pure_ (i := 6) (N := some 20) (v := ?_) (a' := ?_) #[true, true, true, true, true, true, true, true, false] rfl rfl (any_of HT_.out (by kernel_rfl)) (fun _ _ _ h => h) (Or.inl ⟨by rfl, ?_⟩) ?_ ?_
   rotate_left
   ·intro w'
    go_simp
    with_reducible rfl
   rotate_left
   ·simp only [Act.put, List.setIfInBounds_toArray, List.set_cons_zero, List.set_cons_succ, i64_w, i32_w]
    rfl
   exact norm_ (by simp only [putAll, Act.put, List.setIfInBounds_toArray, List.set_cons_zero, List.set_cons_succ]) (hCont (gb231) _ ⟨hHeld, (by (with_reducible repeat (first | refine blk_drewN ?_ _ | refine blk_drew ?_ | refine blk_alloc ?_ _)); exact BK222.out), (by (with_reducible repeat (first | refine blk_drewN ?_ _ | refine blk_drew ?_ | refine blk_alloc ?_ _)); exact BK228.out), (by (with_reducible repeat (first | refine blk_drewN ?_ _ | refine blk_drew ?_ | refine blk_alloc ?_ _)); exact BK231.out), GW231.out, GE231.out, NB222_231.out, NB231_222.out, NB228_231.out, NB231_228.out, (by repeat (first | (with_reducible first | exact HB.out | apply below_alloc | apply pw_below_drewN | apply below_drew1 | refine below_set ?_ GE222.out | refine below_set ?_ GE228.out | refine below_set ?_ GE231.out) | exact HB.out))⟩)
 rintro gb231 w14 ⟨hS_, h0_, h1_, h2_, h3_, h4_, h5_, h6_, h7_, h8_, h9_⟩
 have n0_ : Aside0 (w14.heap[gb222]? = some (.cells #[.int .i64 0, .int .i64 0, .int .i64 0, .int .i64 0] 44 (0, 0))) := ⟨h0_⟩
 have n1_ : Aside0 (w14.heap[gb228]? = some (.cells #[.string t223, .string t224, .string t225, .string t226] 98 (0, 0))) := ⟨h1_⟩
 have n2_ : Aside0 (w14.heap[gb231]? = some (.cells #[.int .i64 0, .int .i64 0, .int .i64 0, .int .i64 0] 44 (0, 0))) := ⟨h2_⟩
 have n3_ : Aside0 (w.heap.size ≤ gb231) := ⟨h3_⟩
 have n4_ : Aside0 (w.heap.size ≤ gb231) := ⟨h4_⟩
 have n5_ : Aside0 (gb222 ≠ gb231) := ⟨h5_⟩
 have n6_ : Aside0 (gb231 ≠ gb222) := ⟨h6_⟩
 have n7_ : Aside0 (gb228 ≠ gb231) := ⟨h7_⟩
 have n8_ : Aside0 (gb231 ≠ gb228) := ⟨h8_⟩
 have n9_ : Aside0 (Below w.heap.size w w14) := ⟨h9_⟩
 clear BK222
 clear BK228
 clear HB
 clear h0_ h1_ h2_ h3_ h4_ h5_ h6_ h7_ h8_ h9_
 have BK222 := n0_
 have BK228 := n1_
 have BK231 := n2_
 have GW231 := n3_
 have GE231 := n4_
 have NB222_231 := n5_
 have NB231_222 := n6_
 have NB228_231 := n7_
 have NB231_228 := n8_
 have HB := n9_
 clear n0_ n1_ n2_ n3_ n4_ n5_ n6_ n7_ n8_ n9_
 have hHeld : w14.cell? ⟨gb228, 0, none⟩ = some (.string t223) ∧ w14.cell? ⟨gb228, 1, none⟩ = some (.string t224) ∧ w14.cell? ⟨gb228, 2, none⟩ = some (.string t225) ∧ w14.cell? ⟨gb228, 3, none⟩ = some (.string t226) := hS_
 refine norm_ (a' := ?_) ?_ ?_
 rotate_left
 ·simp only [putAll, Act.put, List.setIfInBounds_toArray, List.set_cons_zero, List.set_cons_succ]
  rfl
 refine one_ (i := 8) (N := none) #[true, true, true, true, true, true, true, true, true] rfl rfl (one_of HT_.out (by kernel_rfl)) (by decide) (fun K hK => ?_)
 have hs15 : w14.cell? ⟨gb231, 0, none⟩ = some (.int .i64 0) := (blk_cell BK231.out 0).trans rfl
 have hfs15 := blk_frozen BK231.out 0
 have hns15_0 := NB222_231.out
 have hns15_1 := NB228_231.out
 have hms15_0 := NB231_222.out
 have hms15_1 := NB231_228.out
 have hs16 : w14.cell? ⟨gb231, 1, none⟩ = some (.int .i64 0) := (blk_cell BK231.out 1).trans rfl
 have hfs16 := blk_frozen BK231.out 1
 have hns16_0 := NB222_231.out
 have hns16_1 := NB228_231.out
 have hms16_0 := NB231_222.out
 have hms16_1 := NB231_228.out
 have hs17 : w14.cell? ⟨gb231, 2, none⟩ = some (.int .i64 0) := (blk_cell BK231.out 2).trans rfl
 have hfs17 := blk_frozen BK231.out 2
 have hns17_0 := NB222_231.out
 have hns17_1 := NB228_231.out
 have hms17_0 := NB231_222.out
 have hms17_1 := NB231_228.out
 have hs18 : w14.cell? ⟨gb231, 3, none⟩ = some (.int .i64 0) := (blk_cell BK231.out 3).trans rfl
 have hfs18 := blk_frozen BK231.out 3
 have hns18_0 := NB222_231.out
 have hns18_1 := NB228_231.out
 have hms18_0 := NB231_222.out
 have hms18_1 := NB231_228.out
 refine skip_ (w1 := ?_) (by rfl) rfl ?_ ?_
 rotate_left
 ·go_simp
  rfl
 refine hK.out _ _ ⟨((cell_far (p := ⟨gb231, _, none⟩) NB228_231.out _).trans (((cell_far (p := ⟨gb231, _, none⟩) NB228_231.out _).trans (((cell_far (p := ⟨gb231, _, none⟩) NB228_231.out _).trans (((cell_far (p := ⟨gb231, _, none⟩) NB228_231.out _).trans (hHeld.1)))))))), ((cell_far (p := ⟨gb231, _, none⟩) NB228_231.out _).trans (((cell_far (p := ⟨gb231, _, none⟩) NB228_231.out _).trans (((cell_far (p := ⟨gb231, _, none⟩) NB228_231.out _).trans (((cell_far (p := ⟨gb231, _, none⟩) NB228_231.out _).trans (hHeld.2.1)))))))), ((cell_far (p := ⟨gb231, _, none⟩) NB228_231.out _).trans (((cell_far (p := ⟨gb231, _, none⟩) NB228_231.out _).trans (((cell_far (p := ⟨gb231, _, none⟩) NB228_231.out _).trans (((cell_far (p := ⟨gb231, _, none⟩) NB228_231.out _).trans (hHeld.2.2.1)))))))), ((cell_far (p := ⟨gb231, _, none⟩) NB228_231.out _).trans (((cell_far (p := ⟨gb231, _, none⟩) NB228_231.out _).trans (((cell_far (p := ⟨gb231, _, none⟩) NB228_231.out _).trans (((cell_far (p := ⟨gb231, _, none⟩) NB228_231.out _).trans (hHeld.2.2.2))))))))⟩ (fun hHeld => ?_)
 clear hK K
 refine done_ (done_of HT_.out (by kernel_rfl)) ?_
 have hnb19 := NB228_231.out
 have hnc19 := NB231_228.out
 have hcz20_0 : w14.cell? ⟨gb228, 0, none⟩ = some (.string t223) := (blk_cell BK228.out 0).trans rfl
 have hcz20_1 : w14.cell? ⟨gb228, 1, none⟩ = some (.string t224) := (blk_cell BK228.out 1).trans rfl
 have hcz20_2 : w14.cell? ⟨gb228, 2, none⟩ = some (.string t225) := (blk_cell BK228.out 2).trans rfl
 have hcz20_3 : w14.cell? ⟨gb228, 3, none⟩ = some (.string t226) := (blk_cell BK228.out 3).trans rfl
 have hfz20_0 := blk_frozen BK228.out 0
 have hfz20_1 := blk_frozen BK228.out 1
 have hfz20_2 := blk_frozen BK228.out 2
 have hfz20_3 := blk_frozen BK228.out 3
 go_upto_if 23 with (fail)
 go_cut [] (fun wc => ∃ (kq : Nat) (x232002_4 : Int), Aside0 (taskmasterref26_line.j0 kq t227 t223 t224 t225 t226 t229 0 x232002_4 t230 = some (r1, r2, r3, r4, r5)) ∧ Aside0 (kq ≤ k) ∧ Aside0 (wc.heap[gb222]? = some (.cells #[.int .i64 0, .int .i64 0, .int .i64 0, .int .i64 0] 44 (0, 0))) ∧ Aside0 (wc.heap[gb228]? = some (.cells #[.string t223, .string t224, .string t225, .string t226] 98 (0, 0))) ∧ Aside0 (wc.heap[gb231]? = some (.cells #[.int .i64 t229, .int .i64 0, .int .i64 x232002_4, .int .i64 t230] 44 (0, 0))) ∧ Aside0 (Below w.heap.size w wc))
 case first =>
  have H := HC5.out
  clear HC5
  by_cases c21 : t225.toList = ([45] : List UInt8)
  ·rw [if_pos c21] at H
   have c21b0 : (t225.toList == ([45] : List UInt8)) = true := beq_iff_eq.mpr c21
   have c21b1 : (t225.toList != ([45] : List UInt8)) = false := bne_eq_false_iff_eq.mpr c21
   clear c21
   (first | rw [c21b0] | (simp only [i64_w, i32_w]; rw [c21b0]) | skip)
   have H' := Aside0.mk H
   clear H
   go_wp2
   go_meet
   case rel => exact ⟨_, ((-1)), H', ⟨by first | omega | exact Nat.le_refl _⟩, ⟨by (with_reducible repeat (first | refine blk_drewN ?_ _ | refine blk_drew ?_ | refine blk_alloc ?_ _)); refine blk_far ?_ NB222_231.out _; (with_reducible repeat (first | refine blk_drewN ?_ _ | refine blk_drew ?_ | refine blk_alloc ?_ _)); refine blk_far ?_ NB222_231.out _; (with_reducible repeat (first | refine blk_drewN ?_ _ | refine blk_drew ?_ | refine blk_alloc ?_ _)); refine blk_far ?_ NB222_231.out _; (with_reducible repeat (first | refine blk_drewN ?_ _ | refine blk_drew ?_ | refine blk_alloc ?_ _)); refine blk_far ?_ NB222_231.out _; (with_reducible repeat (first | refine blk_drewN ?_ _ | refine blk_drew ?_ | refine blk_alloc ?_ _)); exact BK222.out⟩, ⟨by (with_reducible repeat (first | refine blk_drewN ?_ _ | refine blk_drew ?_ | refine blk_alloc ?_ _)); refine blk_far ?_ NB228_231.out _; (with_reducible repeat (first | refine blk_drewN ?_ _ | refine blk_drew ?_ | refine blk_alloc ?_ _)); refine blk_far ?_ NB228_231.out _; (with_reducible repeat (first | refine blk_drewN ?_ _ | refine blk_drew ?_ | refine blk_alloc ?_ _)); refine blk_far ?_ NB228_231.out _; (with_reducible repeat (first | refine blk_drewN ?_ _ | refine blk_drew ?_ | refine blk_alloc ?_ _)); refine blk_far ?_ NB228_231.out _; (with_reducible repeat (first | refine blk_drewN ?_ _ | refine blk_drew ?_ | refine blk_alloc ?_ _)); exact BK228.out⟩, ⟨by (with_reducible repeat (first | refine blk_drewN ?_ _ | refine blk_drew ?_ | refine blk_alloc ?_ _)); refine blk_put (cs := #[.int .i64 t229, .int .i64 0, .int .i64 (-1), .int .i64 0]) ?_ 3 _ rfl; (with_reducible repeat (first | refine blk_drewN ?_ _ | refine blk_drew ?_ | refine blk_alloc ?_ _)); refine blk_put (cs := #[.int .i64 t229, .int .i64 0, .int .i64 0, .int .i64 0]) ?_ 2 _ rfl; (with_reducible repeat (first | refine blk_drewN ?_ _ | refine blk_drew ?_ | refine blk_alloc ?_ _)); refine blk_put (cs := #[.int .i64 t229, .int .i64 0, .int .i64 0, .int .i64 0]) ?_ 1 _ rfl; (with_reducible repeat (first | refine blk_drewN ?_ _ | refine blk_drew ?_ | refine blk_alloc ?_ _)); refine blk_put (cs := #[.int .i64 0, .int .i64 0, .int .i64 0, .int .i64 0]) ?_ 0 _ rfl; (with_reducible repeat (first | refine blk_drewN ?_ _ | refine blk_drew ?_ | refine blk_alloc ?_ _)); exact BK231.out⟩, ⟨by repeat (first | (with_reducible first | exact HB.out | apply below_alloc | apply pw_below_drewN | apply below_drew1 | refine below_set ?_ GE222.out | refine below_set ?_ GE228.out | refine below_set ?_ GE231.out) | exact HB.out)⟩⟩
  ·rw [if_neg c21] at H
   have c21b0 : (t225.toList == ([45] : List UInt8)) = false := beq_eq_false_iff_ne.mpr c21
   have c21b1 : (t225.toList != ([45] : List UInt8)) = true := bne_iff_ne.mpr c21
   (first | rw [c21b0] | (simp only [i64_w, i32_w]; rw [c21b0]) | skip)
   replace H := Option.bind_eq_some_iff.mp H
   obtain ⟨t232, A220, H⟩ := H
   replace H : (taskmasterref26_line.j0 k t227 t223 t224 t225 t226 t229 0 t232 t230) = some (r1, r2, r3, r4, r5) := H
   have A22 := Aside0.mk A220
   clear A220
   have H' := Aside0.mk H
   clear H
   have hnb23 := NB228_222.out
   have hnc23 := NB222_228.out
   have hnb24 := NB228_231.out
   have hnc24 := NB231_228.out
   have hcz25_0 : w14.cell? ⟨gb228, 0, none⟩ = some (.string t223) := (blk_cell BK228.out 0).trans rfl
   have hcz25_1 : w14.cell? ⟨gb228, 1, none⟩ = some (.string t224) := (blk_cell BK228.out 1).trans rfl
   have hcz25_2 : w14.cell? ⟨gb228, 2, none⟩ = some (.string t225) := (blk_cell BK228.out 2).trans rfl
   have hcz25_3 : w14.cell? ⟨gb228, 3, none⟩ = some (.string t226) := (blk_cell BK228.out 3).trans rfl
   have hfz25_0 := blk_frozen BK228.out 0
   have hfz25_1 := blk_frozen BK228.out 1
   have hfz25_2 := blk_frozen BK228.out 2
   have hfz25_3 := blk_frozen BK228.out 3
   go_wp2_with (first | ((with_reducible refine gate_callee (f := 65) rfl ?_); refine goesL_ (some 26) rfl rfl Tryd.func65 (by kernel_rfl) rfl #[.string t225] rfl (by (try simp only [List.map_toArray, List.map_cons, List.map_nil]); first | done | rfl | (simp only [List.length_drop, List.length_take]; rfl)) ?_; (with_reducible refine (taskmasterref26_number.calls k t225 t232 _ A22.out).mono ?_); rintro e w' ⟨rfl, ⟨nd, rfl⟩⟩; refine ⟨_, rfl, ?_⟩; have hnb26 := NB231_222.out; have hnc26 := NB222_231.out; have hcz27_0 : w14.cell? ⟨gb231, 0, none⟩ = some (.int .i64 0) := (blk_cell BK231.out 0).trans rfl; have hcz27_1 : w14.cell? ⟨gb231, 1, none⟩ = some (.int .i64 0) := (blk_cell BK231.out 1).trans rfl; have hcz27_2 : w14.cell? ⟨gb231, 2, none⟩ = some (.int .i64 0) := (blk_cell BK231.out 2).trans rfl; have hcz27_3 : w14.cell? ⟨gb231, 3, none⟩ = some (.int .i64 0) := (blk_cell BK231.out 3).trans rfl; have hfz27_0 := blk_frozen BK231.out 0; have hfz27_1 := blk_frozen BK231.out 1; have hfz27_2 := blk_frozen BK231.out 2; have hfz27_3 := blk_frozen BK231.out 3))
   go_meet
   case rel => exact ⟨_, (t232), H', ⟨by first | omega | exact Nat.le_refl _⟩, ⟨by (with_reducible repeat (first | refine blk_drewN ?_ _ | refine blk_drew ?_ | refine blk_alloc ?_ _)); refine blk_far ?_ NB222_231.out _; (with_reducible repeat (first | refine blk_drewN ?_ _ | refine blk_drew ?_ | refine blk_alloc ?_ _)); refine blk_far ?_ NB222_231.out _; (with_reducible repeat (first | refine blk_drewN ?_ _ | refine blk_drew ?_ | refine blk_alloc ?_ _)); refine blk_far ?_ NB222_231.out _; (with_reducible repeat (first | refine blk_drewN ?_ _ | refine blk_drew ?_ | refine blk_alloc ?_ _)); refine blk_far ?_ NB222_231.out _; (with_reducible repeat (first | refine blk_drewN ?_ _ | refine blk_drew ?_ | refine blk_alloc ?_ _)); refine blk_far ?_ NB222_231.out _; (with_reducible repeat (first | refine blk_drewN ?_ _ | refine blk_drew ?_ | refine blk_alloc ?_ _)); exact BK222.out⟩, ⟨by (with_reducible repeat (first | refine blk_drewN ?_ _ | refine blk_drew ?_ | refine blk_alloc ?_ _)); refine blk_far ?_ NB228_231.out _; (with_reducible repeat (first | refine blk_drewN ?_ _ | refine blk_drew ?_ | refine blk_alloc ?_ _)); refine blk_far ?_ NB228_231.out _; (with_reducible repeat (first | refine blk_drewN ?_ _ | refine blk_drew ?_ | refine blk_alloc ?_ _)); refine blk_far ?_ NB228_231.out _; (with_reducible repeat (first | refine blk_drewN ?_ _ | refine blk_drew ?_ | refine blk_alloc ?_ _)); refine blk_far ?_ NB228_231.out _; (with_reducible repeat (first | refine blk_drewN ?_ _ | refine blk_drew ?_ | refine blk_alloc ?_ _)); refine blk_far ?_ NB228_231.out _; (with_reducible repeat (first | refine blk_drewN ?_ _ | refine blk_drew ?_ | refine blk_alloc ?_ _)); exact BK228.out⟩, ⟨by (with_reducible repeat (first | refine blk_drewN ?_ _ | refine blk_drew ?_ | refine blk_alloc ?_ _)); refine blk_put (cs := #[.int .i64 t229, .int .i64 0, .int .i64 (-1), .int .i64 t230]) ?_ 2 _ rfl; (with_reducible repeat (first | refine blk_drewN ?_ _ | refine blk_drew ?_ | refine blk_alloc ?_ _)); refine blk_put (cs := #[.int .i64 t229, .int .i64 0, .int .i64 (-1), .int .i64 0]) ?_ 3 _ rfl; (with_reducible repeat (first | refine blk_drewN ?_ _ | refine blk_drew ?_ | refine blk_alloc ?_ _)); refine blk_put (cs := #[.int .i64 t229, .int .i64 0, .int .i64 0, .int .i64 0]) ?_ 2 _ rfl; (with_reducible repeat (first | refine blk_drewN ?_ _ | refine blk_drew ?_ | refine blk_alloc ?_ _)); refine blk_put (cs := #[.int .i64 t229, .int .i64 0, .int .i64 0, .int .i64 0]) ?_ 1 _ rfl; (with_reducible repeat (first | refine blk_drewN ?_ _ | refine blk_drew ?_ | refine blk_alloc ?_ _)); refine blk_put (cs := #[.int .i64 0, .int .i64 0, .int .i64 0, .int .i64 0]) ?_ 0 _ rfl; (with_reducible repeat (first | refine blk_drewN ?_ _ | refine blk_drew ?_ | refine blk_alloc ?_ _)); exact BK231.out⟩, ⟨by repeat (first | (with_reducible first | exact HB.out | apply below_alloc | apply pw_below_drewN | apply below_drew1 | refine below_set ?_ GE222.out | refine below_set ?_ GE228.out | refine below_set ?_ GE231.out) | exact HB.out)⟩⟩
 case rest =>
  clear HC5
  try clear c1
  try clear c2
  try clear p2
  try clear c4
  try clear c6
  try clear c9
  try clear c19
  try clear c21
  try clear c21b0
  try clear c21b1
  try clear c23
  try clear c24
  try clear c26
  try clear hcz10_0
  try clear hcz10_1
  try clear hcz10_2
  try clear hcz10_3
  try clear hcz20_0
  try clear hcz20_1
  try clear hcz20_2
  try clear hcz20_3
  try clear hcz25_0
  try clear hcz25_1
  try clear hcz25_2
  try clear hcz25_3
  try clear hcz27_0
  try clear hcz27_1
  try clear hcz27_2
  try clear hcz27_3
  try clear hfz10_0
  try clear hfz10_1
  try clear hfz10_2
  try clear hfz10_3
  try clear hfz20_0
  try clear hfz20_1
  try clear hfz20_2
  try clear hfz20_3
  try clear hfz25_0
  try clear hfz25_1
  try clear hfz25_2
  try clear hfz25_3
  try clear hfz27_0
  try clear hfz27_1
  try clear hfz27_2
  try clear hfz27_3
  obtain ⟨kq, x232002_4, HA, HJ4, BK222, BK228, BK231, HB⟩ := hcut
  cases kq with
  | zero => exact absurd HA.out (by simp [taskmasterref26_line.j0])
  | succ kj4 =>
   have H := HA.out
   clear HA
   simp only [taskmasterref26_line.j0] at H
   replace H := Option.bind_eq_some_iff.mp H
   obtain ⟨t233, A280, H⟩ := H
   replace H : (taskmasterref26_line.l0 kj4 t227 t233 1 t223 t224 t225 t226 t229 0 x232002_4 t230) = some (r1, r2, r3, r4, r5) := H
   have A28 := Aside0.mk A280
   clear A280
   have H' := Aside0.mk H
   clear H
   go_wp2_with (first | ((with_reducible refine gate_callee (f := 45) rfl ?_); refine goesL_ (some 28) rfl rfl Tryd.func45 (by kernel_rfl) rfl #[] rfl (by (try simp only [List.map_toArray, List.map_cons, List.map_nil]); first | done | rfl | (simp only [List.length_drop, List.length_take]; rfl)) ?_; (with_reducible refine (taskmasterref26_Words.calls  t233 _ A28.out).mono ?_); rintro e w29 ⟨v234, rfl, ho0, hb⟩; refine ⟨_, rfl, ?_⟩; have n0_ := Aside0.mk (Kd.R_lower ho0 (below_size (by repeat (first | (with_reducible first | exact HB.out | apply below_alloc | apply pw_below_drewN | apply below_drew1 | refine below_set ?_ GE222.out | refine below_set ?_ GE228.out | refine below_set ?_ GE231.out) | exact HB.out)))); have n1_ := Aside0.mk (blk_below (g := gb222) (o := .cells #[.int .i64 0, .int .i64 0, .int .i64 0, .int .i64 0] 44 (0, 0)) (by (with_reducible repeat (first | refine blk_drewN ?_ _ | refine blk_drew ?_ | refine blk_alloc ?_ _)); exact BK222.out) hb); have n2_ := Aside0.mk (blk_below (g := gb228) (o := .cells #[.string t223, .string t224, .string t225, .string t226] 98 (0, 0)) (by (with_reducible repeat (first | refine blk_drewN ?_ _ | refine blk_drew ?_ | refine blk_alloc ?_ _)); exact BK228.out) hb); have n3_ := Aside0.mk (blk_below (g := gb231) (o := .cells #[.int .i64 t229, .int .i64 0, .int .i64 x232002_4, .int .i64 t230] 44 (0, 0)) (by (with_reducible repeat (first | refine blk_drewN ?_ _ | refine blk_drew ?_ | refine blk_alloc ?_ _)); exact BK231.out) hb); have n4_ := Aside0.mk (below_step (by repeat (first | (with_reducible first | exact HB.out | apply below_alloc | apply pw_below_drewN | apply below_drew1 | refine below_set ?_ GE222.out | refine below_set ?_ GE228.out | refine below_set ?_ GE231.out) | exact HB.out)) hb); clear BK222; clear BK228; clear BK231; clear HB; have HO235 := n0_; have BK222 := n1_; have BK228 := n2_; have BK231 := n3_; have HB := n4_; clear n0_ n1_ n2_ n3_ n4_; (try clear hb); (try clear hb2); (try clear hk); (try clear hi); (try clear ho0)))
   go_loopg [8] kj4 (fun kq v8 w' => ∃ (x8_2 : Int) (x232001_2 : Int), v8 = .int .i64 x8_2 ∧ Aside0 (taskmasterref26_line.l0 kq t227 t233 x8_2 t223 t224 t225 t226 t229 x232001_2 x232002_4 t230 = some (r1, r2, r3, r4, r5)) ∧ Aside0 (kq ≤ kj4) ∧ Aside0 (Kd.R Kd.string 9 w' w.heap.size (fun _ => True) v234 t233) ∧ Aside0 (w'.heap[gb222]? = some (.cells #[.int .i64 0, .int .i64 0, .int .i64 0, .int .i64 0] 44 (0, 0))) ∧ Aside0 (w'.heap[gb228]? = some (.cells #[.string t223, .string t224, .string t225, .string t226] 98 (0, 0))) ∧ Aside0 (w'.heap[gb231]? = some (.cells #[.int .i64 t229, .int .i64 x232001_2, .int .i64 x232002_4, .int .i64 t230] 44 (0, 0))) ∧ Aside0 (Below w.heap.size w w'))
   case atStart => exact ⟨(1), (0), (by first | rfl | (simp; done) | (simp [*]; done)), H', ⟨Nat.le_refl _⟩, ⟨by (with_reducible repeat (first | apply Kd.R_alloc | apply Kd.R_drewN | apply Kd.R_drew)); exact HO235.out⟩, ⟨by (with_reducible repeat (first | refine blk_drewN ?_ _ | refine blk_drew ?_ | refine blk_alloc ?_ _)); exact BK222.out⟩, ⟨by (with_reducible repeat (first | refine blk_drewN ?_ _ | refine blk_drew ?_ | refine blk_alloc ?_ _)); exact BK228.out⟩, ⟨by (with_reducible repeat (first | refine blk_drewN ?_ _ | refine blk_drew ?_ | refine blk_alloc ?_ _)); exact BK231.out⟩, ⟨by repeat (first | (with_reducible first | exact HB.out | apply below_alloc | apply pw_below_drewN | apply below_drew1 | refine below_set ?_ GE222.out | refine below_set ?_ GE228.out | refine below_set ?_ GE231.out) | exact HB.out)⟩⟩
   case round =>
    clear H'
    try clear c1
    try clear c2
    try clear p2
    try clear c4
    try clear c6
    try clear c9
    try clear c19
    try clear c21
    try clear c21b0
    try clear c21b1
    try clear c23
    try clear c24
    try clear c26
    try clear hcz10_0
    try clear hcz10_1
    try clear hcz10_2
    try clear hcz10_3
    try clear hcz20_0
    try clear hcz20_1
    try clear hcz20_2
    try clear hcz20_3
    try clear hcz25_0
    try clear hcz25_1
    try clear hcz25_2
    try clear hcz25_3
    try clear hcz27_0
    try clear hcz27_1
    try clear hcz27_2
    try clear hcz27_3
    try clear hfz10_0
    try clear hfz10_1
    try clear hfz10_2
    try clear hfz10_3
    try clear hfz20_0
    try clear hfz20_1
    try clear hfz20_2
    try clear hfz20_3
    try clear hfz25_0
    try clear hfz25_1
    try clear hfz25_2
    try clear hfz25_3
    try clear hfz27_0
    try clear hfz27_1
    try clear hfz27_2
    try clear hfz27_3
    try clear p2
    obtain ⟨x8_2, x232001_2, rfl, HA, HK2, HO_7, BK222, BK228, BK231, HB⟩ := hrel
    cases gk with
    | zero => exact absurd HA.out (by simp [taskmasterref26_line.l0])
    | succ k2 =>
     have H := HA.out
     clear HA
     simp only [taskmasterref26_line.l0] at H
     by_cases c30 : x8_2 < (t233.length : Int)
     ·rw [if_pos c30] at H
      have c30b0 : decide (x8_2 < (t233.length : Int)) = true := decide_eq_true c30
      clear c30
      by_cases c31 : 0 ≤ x8_2
      ·rw [if_pos c31] at H
       have c31b0 : decide (0 ≤ x8_2) = true := decide_eq_true c31
       clear c31
       by_cases c32 : (rdOf ByteArray.empty t233 x8_2).toList = t224.toList
       ·rw [if_pos c32] at H
        have c32b0 : ((rdOf ByteArray.empty t233 x8_2).toList == t224.toList) = true := beq_iff_eq.mpr c32
        have c32b1 : ((rdOf ByteArray.empty t233 x8_2).toList != t224.toList) = false := bne_eq_false_iff_eq.mpr c32
        clear c32
        have H' := Aside0.mk H
        clear H
        obtain ⟨Ao33, co33, eo33⟩ := Kd.R_slice HO_7.out
        subst eo33
        try go_wp2
        have n0_ := Aside0.mk (Kd.R_drew HO_7.out)
        have n1_ := Aside0.mk (blk_drew BK222.out)
        have n2_ := Aside0.mk (blk_drew BK228.out)
        have n3_ := Aside0.mk (blk_drew BK231.out)
        have n4_ := Aside0.mk (below_drew1 HB.out)
        clear HO_7
        clear BK222
        clear BK228
        clear BK231
        clear HB
        have HO_7 := n0_
        have BK222 := n1_
        have BK228 := n2_
        have BK231 := n3_
        have HB := n4_
        clear n0_ n1_ n2_ n3_ n4_
        have p236 : 0 ≤ (x8_2 : Int) := of_decide_eq_true (by first | (with_reducible assumption) | assumption)
        have q236 : x8_2 < (t233.length : Int) := of_decide_eq_true (by first | (with_reducible assumption) | assumption)
        obtain ⟨ad236, e236, hx236_0⟩ := Kd.at_string (Kd.R_reads' HO_7.out).2.2 x8_2 p236 q236
        cases e236
        replace p236 := eq_true p236
        replace q236 := eq_true q236
        refine start_ (n := 7) (S := fun w' => w'.cell? ⟨gb228, 0, none⟩ = some (.string t223) ∧ w'.cell? ⟨gb228, 1, none⟩ = some (.string t224) ∧ w'.cell? ⟨gb228, 2, none⟩ = some (.string t225) ∧ w'.cell? ⟨gb228, 3, none⟩ = some (.string t226) ∧ w'.cell? (ad236.add (x8_2).toNat) = some (.string (rdOf ByteArray.empty t233 x8_2))) (ds := []) #[false, false, false, false, false, false, false] (by kernel_rfl) rfl rfl ⟨(blk_cell BK228.out 0).trans rfl, (blk_cell BK228.out 1).trans rfl, (blk_cell BK228.out 2).trans rfl, (blk_cell BK228.out 3).trans rfl, hx236_0⟩ (fun hHeld => ?_)
        generalize wr.drew = w34 at HO_7 BK222 BK228 BK231 HB hx236_0 hHeld ⊢
        refine pure_ (i := 0) (N := some 35) (v := ?_) (a' := ?_) #[true, false, false, false, false, false, false] rfl rfl (by kernel_rfl) (fun _ _ _ h => h) (Or.inl ⟨by rfl, ?_⟩) ?_ ?_
        rotate_left
        ·intro w'
         go_simp
         with_reducible rfl
        rotate_left
        ·simp only [Act.put, List.setIfInBounds_toArray, List.set_cons_zero, List.set_cons_succ, i64_w, i32_w]
         rfl
        refine pure_ (i := 1) (N := some 36) (v := ?_) (a' := ?_) #[true, true, false, false, false, false, false] rfl rfl (by kernel_rfl) (fun _ _ _ h => h) (Or.inl ⟨by rfl, ?_⟩) ?_ ?_
        rotate_left
        ·intro w'
         go_simp
         with_reducible rfl
        rotate_left
        ·simp only [Act.put, List.setIfInBounds_toArray, List.set_cons_zero, List.set_cons_succ, i64_w, i32_w]
         rfl
        refine pure_ (i := 2) (N := some 37) (v := ?_) (a' := ?_) #[true, true, true, false, false, false, false] rfl rfl (by kernel_rfl) (fun _ _ _ h => h) (Or.inl ⟨by rfl, ?_⟩) ?_ ?_
        rotate_left
        ·intro w'
         go_simp
         with_reducible rfl
        rotate_left
        ·simp only [Act.put, List.setIfInBounds_toArray, List.set_cons_zero, List.set_cons_succ, i64_w, i32_w]
         rfl
        refine pure_ (i := 4) (N := some 39) (v := ?_) (a' := ?_) #[true, true, true, false, true, false, false] rfl rfl (by kernel_rfl) (fun _ _ _ h => h) (Or.inl ⟨by rfl, ?_⟩) ?_ ?_
        rotate_left
        ·intro w'
         go_simp
         with_reducible rfl
        rotate_left
        ·simp only [Act.put, List.setIfInBounds_toArray, List.set_cons_zero, List.set_cons_succ, i64_w, i32_w]
         rfl
        refine take_ (i := 3) (N := some 38) (v := ?_) (a' := ?_) #[true, true, true, true, true, false, false] rfl rfl (by kernel_rfl) (fun _ _ _ h => h) (Or.inl ⟨by rfl, ?_⟩) hHeld ?_ ?_
        rotate_left
        ·rintro w' ⟨s0, s1, s2, s3, s4⟩
         go_simp
         with_reducible rfl
        rotate_left
        ·simp only [Act.put, List.setIfInBounds_toArray, List.set_cons_zero, List.set_cons_succ, i64_w, i32_w]
         rfl
        refine take_ (i := 5) (N := some 40) (v := ?_) (a' := ?_) #[true, true, true, true, true, true, false] rfl rfl (by kernel_rfl) (fun _ _ _ h => h) (Or.inl ⟨by rfl, ?_⟩) hHeld ?_ ?_
        rotate_left
        ·rintro w' ⟨s0, s1, s2, s3, s4⟩
         go_simp
         with_reducible rfl
        rotate_left
        ·simp only [Act.put, List.setIfInBounds_toArray, List.set_cons_zero, List.set_cons_succ, i64_w, i32_w]
         rfl
        refine pure_ (i := 6) (N := some 41) (v := ?_) (a' := ?_) #[true, true, true, true, true, true, true] rfl rfl (by kernel_rfl) (fun _ _ _ h => h) (Or.inl ⟨by rfl, ?_⟩) ?_ ?_
        rotate_left
        ·intro w'
         go_simp
         with_reducible rfl
        rotate_left
        ·simp only [Act.put, List.setIfInBounds_toArray, List.set_cons_zero, List.set_cons_succ, i64_w, i32_w]
         rfl
        refine done_ (by kernel_rfl) ?_
        have hnb35 := NB231_222.out
        have hnc35 := NB222_231.out
        have hnb36 := NB231_228.out
        have hnc36 := NB228_231.out
        have hcz37_0 : w34.cell? ⟨gb231, 0, none⟩ = some (.int .i64 t229) := (blk_cell BK231.out 0).trans rfl
        have hcz37_1 : w34.cell? ⟨gb231, 1, none⟩ = some (.int .i64 x232001_2) := (blk_cell BK231.out 1).trans rfl
        have hcz37_2 : w34.cell? ⟨gb231, 2, none⟩ = some (.int .i64 x232002_4) := (blk_cell BK231.out 2).trans rfl
        have hcz37_3 : w34.cell? ⟨gb231, 3, none⟩ = some (.int .i64 t230) := (blk_cell BK231.out 3).trans rfl
        have hfz37_0 := blk_frozen BK231.out 0
        have hfz37_1 := blk_frozen BK231.out 1
        have hfz37_2 := blk_frozen BK231.out 2
        have hfz37_3 := blk_frozen BK231.out 3
        try go_wp2
        go_roundg k2
        case measure => have := HJ4.out; have := HK2.out; omega
        case rel => exact ⟨(wrap64 (x8_2 + 1)), (x8_2), (by first | rfl | (simp; done) | (simp [*]; done)), H', ⟨by have := HJ4.out; have := HK2.out; omega⟩, ⟨by (with_reducible repeat (first | apply Kd.R_alloc | apply Kd.R_drewN | apply Kd.R_drew)); exact Kd.R_mono (Kd.R_far (p := ⟨gb231, 1, none⟩) (Kd.R_types HO_7.out BK231.out (by decide)) (fun _ hk => hk.2) (.int .i64 x8_2)) (fun _ hk => trivial)⟩, ⟨by (with_reducible repeat (first | refine blk_drewN ?_ _ | refine blk_drew ?_ | refine blk_alloc ?_ _)); refine blk_far ?_ NB222_231.out _; (with_reducible repeat (first | refine blk_drewN ?_ _ | refine blk_drew ?_ | refine blk_alloc ?_ _)); exact BK222.out⟩, ⟨by (with_reducible repeat (first | refine blk_drewN ?_ _ | refine blk_drew ?_ | refine blk_alloc ?_ _)); refine blk_far ?_ NB228_231.out _; (with_reducible repeat (first | refine blk_drewN ?_ _ | refine blk_drew ?_ | refine blk_alloc ?_ _)); exact BK228.out⟩, ⟨by (with_reducible repeat (first | refine blk_drewN ?_ _ | refine blk_drew ?_ | refine blk_alloc ?_ _)); refine blk_put (cs := #[.int .i64 t229, .int .i64 x232001_2, .int .i64 x232002_4, .int .i64 t230]) ?_ 1 _ rfl; (with_reducible repeat (first | refine blk_drewN ?_ _ | refine blk_drew ?_ | refine blk_alloc ?_ _)); exact BK231.out⟩, ⟨by repeat (first | (with_reducible first | exact HB.out | apply below_alloc | apply pw_below_drewN | apply below_drew1 | refine below_set ?_ GE222.out | refine below_set ?_ GE228.out | refine below_set ?_ GE231.out) | exact HB.out)⟩⟩
       ·rw [if_neg c32] at H
        have c32b0 : ((rdOf ByteArray.empty t233 x8_2).toList == t224.toList) = false := beq_eq_false_iff_ne.mpr c32
        have c32b1 : ((rdOf ByteArray.empty t233 x8_2).toList != t224.toList) = true := bne_iff_ne.mpr c32
        have H' := Aside0.mk H
        clear H
        obtain ⟨Ao38, co38, eo38⟩ := Kd.R_slice HO_7.out
        subst eo38
        try go_wp2
        have n0_ := Aside0.mk (Kd.R_drew HO_7.out)
        have n1_ := Aside0.mk (blk_drew BK222.out)
        have n2_ := Aside0.mk (blk_drew BK228.out)
        have n3_ := Aside0.mk (blk_drew BK231.out)
        have n4_ := Aside0.mk (below_drew1 HB.out)
        clear HO_7
        clear BK222
        clear BK228
        clear BK231
        clear HB
        have HO_7 := n0_
        have BK222 := n1_
        have BK228 := n2_
        have BK231 := n3_
        have HB := n4_
        clear n0_ n1_ n2_ n3_ n4_
        have p236 : 0 ≤ (x8_2 : Int) := of_decide_eq_true (by first | (with_reducible assumption) | assumption)
        have q236 : x8_2 < (t233.length : Int) := of_decide_eq_true (by first | (with_reducible assumption) | assumption)
        obtain ⟨ad236, e236, hx236_0⟩ := Kd.at_string (Kd.R_reads' HO_7.out).2.2 x8_2 p236 q236
        cases e236
        replace p236 := eq_true p236
        replace q236 := eq_true q236
        refine start_ (n := 7) (S := fun w' => w'.cell? ⟨gb228, 0, none⟩ = some (.string t223) ∧ w'.cell? ⟨gb228, 1, none⟩ = some (.string t224) ∧ w'.cell? ⟨gb228, 2, none⟩ = some (.string t225) ∧ w'.cell? ⟨gb228, 3, none⟩ = some (.string t226) ∧ w'.cell? (ad236.add (x8_2).toNat) = some (.string (rdOf ByteArray.empty t233 x8_2))) (ds := []) #[false, false, false, false, false, false, false] (by kernel_rfl) rfl rfl ⟨(blk_cell BK228.out 0).trans rfl, (blk_cell BK228.out 1).trans rfl, (blk_cell BK228.out 2).trans rfl, (blk_cell BK228.out 3).trans rfl, hx236_0⟩ (fun hHeld => ?_)
        generalize wr.drew = w39 at HO_7 BK222 BK228 BK231 HB hx236_0 hHeld ⊢
        refine pure_ (i := 0) (N := some 35) (v := ?_) (a' := ?_) #[true, false, false, false, false, false, false] rfl rfl (by kernel_rfl) (fun _ _ _ h => h) (Or.inl ⟨by rfl, ?_⟩) ?_ ?_
        rotate_left
        ·intro w'
         go_simp
         with_reducible rfl
        rotate_left
        ·simp only [Act.put, List.setIfInBounds_toArray, List.set_cons_zero, List.set_cons_succ, i64_w, i32_w]
         rfl
        refine pure_ (i := 1) (N := some 36) (v := ?_) (a' := ?_) #[true, true, false, false, false, false, false] rfl rfl (by kernel_rfl) (fun _ _ _ h => h) (Or.inl ⟨by rfl, ?_⟩) ?_ ?_
        rotate_left
        ·intro w'
         go_simp
         with_reducible rfl
        rotate_left
        ·simp only [Act.put, List.setIfInBounds_toArray, List.set_cons_zero, List.set_cons_succ, i64_w, i32_w]
         rfl
        refine pure_ (i := 2) (N := some 37) (v := ?_) (a' := ?_) #[true, true, true, false, false, false, false] rfl rfl (by kernel_rfl) (fun _ _ _ h => h) (Or.inl ⟨by rfl, ?_⟩) ?_ ?_
        rotate_left
        ·intro w'
         go_simp
         with_reducible rfl
        rotate_left
        ·simp only [Act.put, List.setIfInBounds_toArray, List.set_cons_zero, List.set_cons_succ, i64_w, i32_w]
         rfl
        refine pure_ (i := 4) (N := some 39) (v := ?_) (a' := ?_) #[true, true, true, false, true, false, false] rfl rfl (by kernel_rfl) (fun _ _ _ h => h) (Or.inl ⟨by rfl, ?_⟩) ?_ ?_
        rotate_left
        ·intro w'
         go_simp
         with_reducible rfl
        rotate_left
        ·simp only [Act.put, List.setIfInBounds_toArray, List.set_cons_zero, List.set_cons_succ, i64_w, i32_w]
         rfl
        refine take_ (i := 3) (N := some 38) (v := ?_) (a' := ?_) #[true, true, true, true, true, false, false] rfl rfl (by kernel_rfl) (fun _ _ _ h => h) (Or.inl ⟨by rfl, ?_⟩) hHeld ?_ ?_
        rotate_left
        ·rintro w' ⟨s0, s1, s2, s3, s4⟩
         go_simp
         with_reducible rfl
        rotate_left
        ·simp only [Act.put, List.setIfInBounds_toArray, List.set_cons_zero, List.set_cons_succ, i64_w, i32_w]
         rfl
        refine take_ (i := 5) (N := some 40) (v := ?_) (a' := ?_) #[true, true, true, true, true, true, false] rfl rfl (by kernel_rfl) (fun _ _ _ h => h) (Or.inl ⟨by rfl, ?_⟩) hHeld ?_ ?_
        rotate_left
        ·rintro w' ⟨s0, s1, s2, s3, s4⟩
         go_simp
         with_reducible rfl
        rotate_left
        ·simp only [Act.put, List.setIfInBounds_toArray, List.set_cons_zero, List.set_cons_succ, i64_w, i32_w]
         rfl
        refine pure_ (i := 6) (N := some 41) (v := ?_) (a' := ?_) #[true, true, true, true, true, true, true] rfl rfl (by kernel_rfl) (fun _ _ _ h => h) (Or.inl ⟨by rfl, ?_⟩) ?_ ?_
        rotate_left
        ·intro w'
         go_simp
         with_reducible rfl
        rotate_left
        ·simp only [Act.put, List.setIfInBounds_toArray, List.set_cons_zero, List.set_cons_succ, i64_w, i32_w]
         rfl
        refine done_ (by kernel_rfl) ?_
        try go_wp2
        go_roundg k2
        case measure => have := HJ4.out; have := HK2.out; omega
        case rel => exact ⟨(wrap64 (x8_2 + 1)), (x232001_2), (by first | rfl | (simp; done) | (simp [*]; done)), H', ⟨by have := HJ4.out; have := HK2.out; omega⟩, ⟨by (with_reducible repeat (first | apply Kd.R_alloc | apply Kd.R_drewN | apply Kd.R_drew)); exact HO_7.out⟩, ⟨by (with_reducible repeat (first | refine blk_drewN ?_ _ | refine blk_drew ?_ | refine blk_alloc ?_ _)); exact BK222.out⟩, ⟨by (with_reducible repeat (first | refine blk_drewN ?_ _ | refine blk_drew ?_ | refine blk_alloc ?_ _)); exact BK228.out⟩, ⟨by (with_reducible repeat (first | refine blk_drewN ?_ _ | refine blk_drew ?_ | refine blk_alloc ?_ _)); exact BK231.out⟩, ⟨by repeat (first | (with_reducible first | exact HB.out | apply below_alloc | apply pw_below_drewN | apply below_drew1 | refine below_set ?_ GE222.out | refine below_set ?_ GE228.out | refine below_set ?_ GE231.out) | exact HB.out)⟩⟩
      ·rw [if_neg c31] at H
       exact absurd H (by simp)
     ·rw [if_neg c30] at H
      have c30b0 : decide (x8_2 < (t233.length : Int)) = false := decide_eq_false c30
      clear c30
      simp only [Option.some.injEq, Prod.mk.injEq] at H
      obtain ⟨rfl, rfl, rfl, rfl, rfl⟩ := H
      obtain ⟨Ao40, co40, eo40⟩ := Kd.R_slice HO_7.out
      subst eo40
      have hnb41 := NB231_222.out
      have hnc41 := NB222_231.out
      have hnb42 := NB231_228.out
      have hnc42 := NB228_231.out
      have hcz43_0 : wr.cell? ⟨gb231, 0, none⟩ = some (.int .i64 t229) := (blk_cell BK231.out 0).trans rfl
      have hcz43_1 : wr.cell? ⟨gb231, 1, none⟩ = some (.int .i64 x232001_2) := (blk_cell BK231.out 1).trans rfl
      have hcz43_2 : wr.cell? ⟨gb231, 2, none⟩ = some (.int .i64 x232002_4) := (blk_cell BK231.out 2).trans rfl
      have hcz43_3 : wr.cell? ⟨gb231, 3, none⟩ = some (.int .i64 t230) := (blk_cell BK231.out 3).trans rfl
      have hfz43_0 := blk_frozen BK231.out 0
      have hfz43_1 := blk_frozen BK231.out 1
      have hfz43_2 := blk_frozen BK231.out 2
      have hfz43_3 := blk_frozen BK231.out 3
      have hnb44 := NB222_228.out
      have hnc44 := NB228_222.out
      have hcz45_0 : wr.cell? ⟨gb222, 0, none⟩ = some (.int .i64 0) := (blk_cell BK222.out 0).trans rfl
      have hcz45_1 : wr.cell? ⟨gb222, 1, none⟩ = some (.int .i64 0) := (blk_cell BK222.out 1).trans rfl
      have hcz45_2 : wr.cell? ⟨gb222, 2, none⟩ = some (.int .i64 0) := (blk_cell BK222.out 2).trans rfl
      have hcz45_3 : wr.cell? ⟨gb222, 3, none⟩ = some (.int .i64 0) := (blk_cell BK222.out 3).trans rfl
      have hfz45_0 := blk_frozen BK222.out 0
      have hfz45_1 := blk_frozen BK222.out 1
      have hfz45_2 := blk_frozen BK222.out 2
      have hfz45_3 := blk_frozen BK222.out 3
      go_wp2
      refine bodyPost_ret (results_ct rfl _ _ gb222 44 #[.int .i64 t229, .int .i64 x232001_2, .int .i64 x232002_4, .int .i64 t230] (0, 0) _ rfl (by (with_reducible repeat (first | refine blk_drewN ?_ _ | refine blk_drew ?_ | refine blk_alloc ?_ _)); refine blk_put (cs := #[.int .i64 t229, .int .i64 x232001_2, .int .i64 x232002_4, .int .i64 0]) ?_ 3 _ rfl; (with_reducible repeat (first | refine blk_drewN ?_ _ | refine blk_drew ?_ | refine blk_alloc ?_ _)); refine blk_put (cs := #[.int .i64 t229, .int .i64 x232001_2, .int .i64 0, .int .i64 0]) ?_ 2 _ rfl; (with_reducible repeat (first | refine blk_drewN ?_ _ | refine blk_drew ?_ | refine blk_alloc ?_ _)); refine blk_put (cs := #[.int .i64 t229, .int .i64 0, .int .i64 0, .int .i64 0]) ?_ 1 _ rfl; (with_reducible repeat (first | refine blk_drewN ?_ _ | refine blk_drew ?_ | refine blk_alloc ?_ _)); refine blk_put (cs := #[.int .i64 0, .int .i64 0, .int .i64 0, .int .i64 0]) ?_ 0 _ rfl; (with_reducible repeat (first | refine blk_drewN ?_ _ | refine blk_drew ?_ | refine blk_alloc ?_ _)); exact BK222.out) Tryd.underlying44 rfl (by kernel_rfl)) rfl ?_
      exact ⟨by first | rfl | (simp [errW_none, errW_some] <;> rfl) | (simp [*, errW_none, errW_some] <;> rfl), by repeat (first | (with_reducible first | exact HB.out | apply below_alloc | apply pw_below_drewN | apply below_drew1 | refine below_set ?_ GE222.out | refine below_set ?_ GE228.out | refine below_set ?_ GE231.out) | exact HB.out)⟩
end Go.Proofs.YtkdndgclldlddaaDoor.QTr

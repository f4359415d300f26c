/- What is proved: contracts and plain facts on the way to the row RowShowBack, and, in the last text, the row itself; conditions as each theorem names them. -/
import Derived.Lib.AppendIntMem
import Derived.Test.YtkdndgclldlddaaDoorSkBack1
import Derived.Test.YtkdndgclldlddaaDoorSkBack2
namespace Go.Proofs.YtkdndgclldlddaaDoor.QSb
open Go.RowKit Go.Proofs.YtkdndgclldlddaaDoorW.PrintWords Go.Proofs.YtkdndgclldlddaaDoorW.PrintLast Go.Proofs.YtkdndgclldlddaaDoorW.PrintMore
set_option linter.unusedVariables false
set_option linter.unusedSimpArgs false
def strconv_FormatInt_49.f (a0 : Int) (a1 : Int) : Option ByteArray := if a1 = 10 ∧ -9223372036854775808 ≤ a0 ∧ a0 ≤ 9223372036854775807 then some ⟨(Lib.itoa a0).toArray⟩ else none
theorem strconv_FormatInt_49.calls (a0 : Int) (a1 : Int) (r : ByteArray) (w : World) (hT : TabW w) (h : strconv_FormatInt_49.f a0 a1 = some r) :
    Calls Tryd.prog 49 #[.int .i64 a0, .int .i64 a1] w fun e w' => e = .returned (.string r) ∧ Below w.heap.size w w' := by
  unfold strconv_FormatInt_49.f at h
  by_cases hr : a1 = 10 ∧ -9223372036854775808 ≤ a0 ∧ a0 ≤ 9223372036854775807
  · rw [if_pos hr] at h
    obtain rfl := Option.some.inj h
    obtain ⟨rfl, h0, h1⟩ := hr
    exact (Tryd.strconv_FormatInt_10 a0 h0 h1 w hT.2).mono fun e w' ⟨he, k, os, hw⟩ => ⟨he, by rw [hw]; exact Lib.below_grow _ _ (Nat.le_refl _) k os⟩
  · rw [if_neg hr] at h; cases h
def strings_Join.f (l0 : List ByteArray) (a1 : ByteArray) : Option ByteArray :=
  if 0 < l0.length ∧ l0.length ≤ 140737488355328 ∧ (Lib.join (l0.map (·.data.toList)) a1.data.toList).length ≤ 140737488355328 then some ⟨(Lib.join (l0.map (·.data.toList)) a1.data.toList).toArray⟩ else none
theorem strings_Join.calls (A0 : Option Addr) (c0 : Nat) (l0 : List ByteArray) (a1 : ByteArray) (r : ByteArray) (w : World) (hr0 : Kd.C Kd.string w A0 l0.length l0) (hc0 : l0.length ≤ c0) (h : strings_Join.f l0 a1 = some r) :
    Calls Tryd.prog 30 #[.slice A0 l0.length c0, .string a1] w fun e w' => e = .returned (.string r) ∧ Below w.heap.size w w' := by
  unfold strings_Join.f at h
  by_cases hr : 0 < l0.length ∧ l0.length ≤ 140737488355328 ∧ (Lib.join (l0.map (·.data.toList)) a1.data.toList).length ≤ 140737488355328
  · rw [if_pos hr] at h
    obtain rfl := Option.some.inj h
    obtain ⟨h0, h1, h2⟩ := hr
    obtain ⟨ad, rfl, hx⟩ := Kd.at_string hr0 0 (by omega) (by omega)
    have hsp : ad.spot = none := by
      rw [show (0 : Int).toNat = 0 from rfl, show ad.add 0 = ad from rfl] at hx
      unfold World.cell? at hx
      split at hx
      · split at hx
        · cases hx
        · next hs => simpa using hs
      · cases hx
    have hblk := World.block_lt_of_cell? w _ hx
    obtain ⟨bk, o, sp⟩ := ad
    have hsp' : sp = none := hsp
    subst hsp'
    refine Tryd.strings_Join bk o c0 l0 a1 w (fun j x hj => ?_) hblk h1 hc0 h2
    have hjl : j < l0.length := by
      rcases Nat.lt_or_ge j l0.length with q | q
      · exact q
      · rw [List.getElem?_eq_none q] at hj; cases hj
    obtain ⟨ad2, e2, hx2⟩ := Kd.at_string hr0 (j : Int) (by omega) (by omega)
    cases e2
    rw [Int.toNat_natCast] at hx2
    have hadd : (⟨bk, o, none⟩ : Addr).add j = ⟨bk, o + j, none⟩ := by unfold Addr.add; split <;> simp_all
    rw [hadd] at hx2
    rw [hx2]
    unfold rdOf
    rw [Int.toNat_natCast, List.getD_eq_getElem?_getD, hj]; rfl
  · rw [if_neg hr] at h; cases h
end Go.Proofs.YtkdndgclldlddaaDoor.QSb
namespace Go.Proofs.YtkdndgclldlddaaDoor.QSb
open Go.RowKit Go.Proofs.YtkdndgclldlddaaDoorW.PrintWords Go.Proofs.YtkdndgclldlddaaDoorW.PrintLast Go.Proofs.YtkdndgclldlddaaDoorW.PrintMore
attribute [local go_sem] max2_int min2_int max_two min_two max_three min_three max_four min_four
set_option linter.unusedVariables false
set_option linter.unusedSimpArgs false
def show_num.f (a0 : Int) : Option (ByteArray) := (strconv_FormatInt_49.f a0 10).bind fun t156 => (some t156)
set_option maxHeartbeats 8000000 in
set_option maxRecDepth 100000 in
theorem show_num.calls (a0 : Int) (r : ByteArray) (w : World) (hT : TabW w) (h : show_num.f a0 = some r) :
  Calls Tryd.prog 27 #[.int .i64 a0] w fun e w' => e = .returned (.string r) ∧ Below w.heap.size w w' := by
 have HT := Aside0.mk hT
 clear hT
 have HB := Aside0.mk (Below.refl w.heap.size w)
 have H : ((strconv_FormatInt_49.f a0 10).bind fun t156 => (some t156)) = some r := h
 clear h
 replace H := Option.bind_eq_some_iff.mp H
 obtain ⟨t156, A20, H⟩ := H
 replace H : (some t156) = some r := H
 have A2 := Aside0.mk A20
 clear A20
 obtain rfl := Option.some.inj H
 go_enter Tryd.func27, Tryd.ntmps27
 go_wp2_with (first | ((with_reducible refine gate_callee (f := 49) rfl ?_); refine goesL_ (some 4) rfl rfl Tryd.func49 (by kernel_rfl) rfl #[.int .i64 a0, .int .i64 10] rfl (by (try simp only [List.map_toArray, List.map_cons, List.map_nil]); first | done | rfl | (simp only [List.length_drop, List.length_take]; rfl)) ?_; (with_reducible refine (strconv_FormatInt_49.calls (hT := ?sideT) a0 10 t156 _ A2.out).mono ?_); (case sideT => first | with_reducible exact HT.out | refine TabW.below HT.out ?_; repeat (first | (with_reducible first | exact HB.out | apply below_alloc | apply pw_below_drewN | apply below_drew1) | exact HB.out | exact Below.refl _ _)); rintro e w3 ⟨rfl, hb⟩; refine ⟨_, rfl, ?_⟩; have n0_ := Aside0.mk (below_step (by repeat (first | (with_reducible first | exact HB.out | apply below_alloc | apply pw_below_drewN | apply below_drew1) | exact HB.out)) hb); clear HB; have HB := n0_; clear n0_; (try clear hb); (try clear hb2); (try clear hk); (try clear hi)))
 go_ret
 exact ⟨by first | rfl | (simp [errW_none, errW_some] <;> rfl) | (simp [*, errW_none, errW_some] <;> rfl), by repeat (first | (with_reducible first | exact HB.out | apply below_alloc | apply pw_below_drewN | apply below_drew1) | exact HB.out)⟩
def show_mode.f (a0_0 : ByteArray) (a0_1 : Int) (a0_2 : Int) (a0_3 : Int) (a0_4 : Int) (a0_5 : Int) (l0_6 : List Int) (a0_7 : Int) (a0_8 : Int) : Option (ByteArray) := if a0_3 = 1 then ((show_num.f a0_4).bind fun t158 => (if 6 + t158.size ≤ 9223372036854775807 then (some ((⟨#[102, 108, 111, 97, 116, 32]⟩ : ByteArray) ++ t158)) else (none))) else (if a0_3 = 2 then ((show_num.f a0_5).bind fun t159 => (if 7 + t159.size ≤ 9223372036854775807 then (some ((⟨#[116, 104, 114, 101, 115, 104, 32]⟩ : ByteArray) ++ t159)) else (none))) else (some (⟨#[102, 105, 120, 101, 100]⟩ : ByteArray)))
set_option maxHeartbeats 8000000 in
set_option maxRecDepth 100000 in
theorem show_mode.calls (a0_0 : ByteArray) (a0_1 : Int) (a0_2 : Int) (a0_3 : Int) (a0_4 : Int) (a0_5 : Int) (A0_6 : Option Addr) (c0_6 : Nat) (l0_6 : List Int) (a0_7 : Int) (a0_8 : Int) (r : ByteArray) (w : World) (hr0_6 : Kd.C (Kd.int .i64) w A0_6 l0_6.length l0_6) (hc0_6 : l0_6.length ≤ c0_6) (hT : TabW w) (h : show_mode.f a0_0 a0_1 a0_2 a0_3 a0_4 a0_5 l0_6 a0_7 a0_8 = some r) :
  Calls Tryd.prog 28 #[.agg #[.string a0_0, .int .i64 a0_1, .int .i64 a0_2, .int .i64 a0_3, .int .i64 a0_4, .int .i64 a0_5, .slice A0_6 l0_6.length c0_6, .int .u64 a0_7, .int .u64 a0_8]] w fun e w' => e = .returned (.string r) ∧ Below w.heap.size w w' := by
 have HT := Aside0.mk hT
 clear hT
 have hu30 := Tryd.underlying30
 have HR0_6 := Aside0.mk hr0_6
 have HC0_6 := Aside0.mk hc0_6
 clear hr0_6 hc0_6
 have HB := Aside0.mk (Below.refl w.heap.size w)
 have H : (if a0_3 = 1 then ((show_num.f a0_4).bind fun t158 => (if 6 + t158.size ≤ 9223372036854775807 then (some ((⟨#[102, 108, 111, 97, 116, 32]⟩ : ByteArray) ++ t158)) else (none))) else (if a0_3 = 2 then ((show_num.f a0_5).bind fun t159 => (if 7 + t159.size ≤ 9223372036854775807 then (some ((⟨#[116, 104, 114, 101, 115, 104, 32]⟩ : ByteArray) ++ t159)) else (none))) else (some (⟨#[102, 105, 120, 101, 100]⟩ : ByteArray)))) = some r := h
 clear h
 by_cases c2 : a0_3 = 1
 ·rw [if_pos c2] at H
  have c2b0 : (a0_3 == 1) = true := beq_iff_eq.mpr c2
  have c2b1 : (a0_3 != 1) = false := bne_eq_false_iff_eq.mpr c2
  clear c2
  replace H := Option.bind_eq_some_iff.mp H
  obtain ⟨t158, A30, H⟩ := H
  replace H : (if 6 + t158.size ≤ 9223372036854775807 then (some ((⟨#[102, 108, 111, 97, 116, 32]⟩ : ByteArray) ++ t158)) else (none)) = some r := H
  have A3 := Aside0.mk A30
  clear A30
  by_cases c4 : 6 + t158.size ≤ 9223372036854775807
  ·rw [if_pos c4] at H
   have c4b0 := eq_true c4
   have c4b1 : decide (6 + t158.size ≤ 9223372036854775807) = true := decide_eq_true c4
   try have c4b2 : (9223372036854775807 < 6 + t158.size) = False := eq_false (Nat.not_lt.2 c4)
   obtain rfl := Option.some.inj H
   go_enter Tryd.func28, Tryd.ntmps28
   go_wp2_with (first | ((with_reducible refine gate_dst (N := 1) rfl ?_); refine box_event ?hg (N := 1) ?hd (cs := #[.string a0_0, .int .i64 a0_1, .int .i64 a0_2, .int .i64 a0_3, .int .i64 a0_4, .int .i64 a0_5, .slice A0_6 l0_6.length c0_6, .int .u64 a0_7, .int .u64 a0_8]) (t := 30) ?hr ?_; (case hd => rfl); (case hg => rfl); (case hr => first | (go_simp; done) | (go_simp; rfl)); intro gb157 hg w5 hbox hb; have n0_ := Aside0.mk (below_step (by repeat (first | (with_reducible first | exact HB.out | apply below_alloc | apply pw_below_drewN | apply below_drew1) | exact HB.out)) hb); have n1_ := Aside0.mk (hbox); have n2_ := Aside0.mk ((by rw [hg]; exact (below_size (by repeat (first | (with_reducible first | exact HB.out | apply below_alloc | apply pw_below_drewN | apply below_drew1) | exact HB.out))) : w.heap.size ≤ gb157)); have n3_ := Aside0.mk ((by rw [hg]; exact (below_size (by repeat (first | (with_reducible first | exact HB.out | apply below_alloc | apply pw_below_drewN | apply below_drew1) | exact HB.out))) : w.heap.size ≤ gb157)); clear HB; have HB := n0_; have BK157 := n1_; have GW157 := n2_; have GE157 := n3_; clear n0_ n1_ n2_ n3_; clear hb hbox hg; have hcz6_0 : w5.cell? ⟨gb157, 0, none⟩ = some (.string a0_0) := (blk_cell BK157.out 0).trans rfl; have hcz6_1 : w5.cell? ⟨gb157, 1, none⟩ = some (.int .i64 a0_1) := (blk_cell BK157.out 1).trans rfl; have hcz6_2 : w5.cell? ⟨gb157, 2, none⟩ = some (.int .i64 a0_2) := (blk_cell BK157.out 2).trans rfl; have hcz6_3 : w5.cell? ⟨gb157, 3, none⟩ = some (.int .i64 a0_3) := (blk_cell BK157.out 3).trans rfl; have hcz6_4 : w5.cell? ⟨gb157, 4, none⟩ = some (.int .i64 a0_4) := (blk_cell BK157.out 4).trans rfl; have hcz6_5 : w5.cell? ⟨gb157, 5, none⟩ = some (.int .i64 a0_5) := (blk_cell BK157.out 5).trans rfl; have hcz6_6 : w5.cell? ⟨gb157, 6, none⟩ = some (.slice A0_6 l0_6.length c0_6) := (blk_cell BK157.out 6).trans rfl; have hcz6_7 : w5.cell? ⟨gb157, 7, none⟩ = some (.int .u64 a0_7) := (blk_cell BK157.out 7).trans rfl; have hcz6_8 : w5.cell? ⟨gb157, 8, none⟩ = some (.int .u64 a0_8) := (blk_cell BK157.out 8).trans rfl; have hfz6_0 := blk_frozen BK157.out 0; have hfz6_1 := blk_frozen BK157.out 1; have hfz6_2 := blk_frozen BK157.out 2; have hfz6_3 := blk_frozen BK157.out 3; have hfz6_4 := blk_frozen BK157.out 4; have hfz6_5 := blk_frozen BK157.out 5; have hfz6_6 := blk_frozen BK157.out 6; have hfz6_7 := blk_frozen BK157.out 7; have hfz6_8 := blk_frozen BK157.out 8) | ((with_reducible refine gate_callee (f := 27) rfl ?_); refine goesL_ (some 9) rfl rfl Tryd.func27 (by kernel_rfl) rfl #[.int .i64 a0_4] rfl (by (try simp only [List.map_toArray, List.map_cons, List.map_nil]); first | done | rfl | (simp only [List.length_drop, List.length_take]; rfl)) ?_; (with_reducible refine (show_num.calls (hT := ?sideT) a0_4 t158 _ A3.out).mono ?_); (case sideT => first | with_reducible exact HT.out | refine TabW.below HT.out ?_; repeat (first | (with_reducible first | exact HB.out | apply below_alloc | apply pw_below_drewN | apply below_drew1 | refine below_set ?_ GE157.out) | exact HB.out | exact Below.refl _ _)); rintro e w7 ⟨rfl, hb⟩; refine ⟨_, rfl, ?_⟩; have n0_ := Aside0.mk (blk_below (g := gb157) (o := .cells #[.string a0_0, .int .i64 a0_1, .int .i64 a0_2, .int .i64 a0_3, .int .i64 a0_4, .int .i64 a0_5, .slice A0_6 l0_6.length c0_6, .int .u64 a0_7, .int .u64 a0_8] 30 (0, 0)) (by (with_reducible repeat (first | refine blk_drewN ?_ _ | refine blk_drew ?_ | refine blk_alloc ?_ _)); exact BK157.out) hb); have n1_ := Aside0.mk (below_step (by repeat (first | (with_reducible first | exact HB.out | apply below_alloc | apply pw_below_drewN | apply below_drew1 | refine below_set ?_ GE157.out) | exact HB.out)) hb); clear BK157; clear HB; have BK157 := n0_; have HB := n1_; clear n0_ n1_; (try clear hb); (try clear hb2); (try clear hk); (try clear hi)))
   go_ret
   exact ⟨by first | rfl | (simp [errW_none, errW_some] <;> rfl) | (simp [*, errW_none, errW_some] <;> rfl), by repeat (first | (with_reducible first | exact HB.out | apply below_alloc | apply pw_below_drewN | apply below_drew1 | refine below_set ?_ GE157.out) | exact HB.out)⟩
  ·rw [if_neg c4] at H
   exact absurd H (by simp)
 ·rw [if_neg c2] at H
  have c2b0 : (a0_3 == 1) = false := beq_eq_false_iff_ne.mpr c2
  have c2b1 : (a0_3 != 1) = true := bne_iff_ne.mpr c2
  by_cases c8 : a0_3 = 2
  ·rw [if_pos c8] at H
   have c8b0 : (a0_3 == 2) = true := beq_iff_eq.mpr c8
   have c8b1 : (a0_3 != 2) = false := bne_eq_false_iff_eq.mpr c8
   clear c8
   replace H := Option.bind_eq_some_iff.mp H
   obtain ⟨t159, A90, H⟩ := H
   replace H : (if 7 + t159.size ≤ 9223372036854775807 then (some ((⟨#[116, 104, 114, 101, 115, 104, 32]⟩ : ByteArray) ++ t159)) else (none)) = some r := H
   have A9 := Aside0.mk A90
   clear A90
   by_cases c10 : 7 + t159.size ≤ 9223372036854775807
   ·rw [if_pos c10] at H
    have c10b0 := eq_true c10
    have c10b1 : decide (7 + t159.size ≤ 9223372036854775807) = true := decide_eq_true c10
    try have c10b2 : (9223372036854775807 < 7 + t159.size) = False := eq_false (Nat.not_lt.2 c10)
    obtain rfl := Option.some.inj H
    go_enter Tryd.func28, Tryd.ntmps28
    go_wp2_with (first | ((with_reducible refine gate_dst (N := 1) rfl ?_); refine box_event ?hg (N := 1) ?hd (cs := #[.string a0_0, .int .i64 a0_1, .int .i64 a0_2, .int .i64 a0_3, .int .i64 a0_4, .int .i64 a0_5, .slice A0_6 l0_6.length c0_6, .int .u64 a0_7, .int .u64 a0_8]) (t := 30) ?hr ?_; (case hd => rfl); (case hg => rfl); (case hr => first | (go_simp; done) | (go_simp; rfl)); intro gb157 hg w11 hbox hb; have n0_ := Aside0.mk (below_step (by repeat (first | (with_reducible first | exact HB.out | apply below_alloc | apply pw_below_drewN | apply below_drew1) | exact HB.out)) hb); have n1_ := Aside0.mk (hbox); have n2_ := Aside0.mk ((by rw [hg]; exact (below_size (by repeat (first | (with_reducible first | exact HB.out | apply below_alloc | apply pw_below_drewN | apply below_drew1) | exact HB.out))) : w.heap.size ≤ gb157)); have n3_ := Aside0.mk ((by rw [hg]; exact (below_size (by repeat (first | (with_reducible first | exact HB.out | apply below_alloc | apply pw_below_drewN | apply below_drew1) | exact HB.out))) : w.heap.size ≤ gb157)); clear HB; have HB := n0_; have BK157 := n1_; have GW157 := n2_; have GE157 := n3_; clear n0_ n1_ n2_ n3_; clear hb hbox hg; have hcz12_0 : w11.cell? ⟨gb157, 0, none⟩ = some (.string a0_0) := (blk_cell BK157.out 0).trans rfl; have hcz12_1 : w11.cell? ⟨gb157, 1, none⟩ = some (.int .i64 a0_1) := (blk_cell BK157.out 1).trans rfl; have hcz12_2 : w11.cell? ⟨gb157, 2, none⟩ = some (.int .i64 a0_2) := (blk_cell BK157.out 2).trans rfl; have hcz12_3 : w11.cell? ⟨gb157, 3, none⟩ = some (.int .i64 a0_3) := (blk_cell BK157.out 3).trans rfl; have hcz12_4 : w11.cell? ⟨gb157, 4, none⟩ = some (.int .i64 a0_4) := (blk_cell BK157.out 4).trans rfl; have hcz12_5 : w11.cell? ⟨gb157, 5, none⟩ = some (.int .i64 a0_5) := (blk_cell BK157.out 5).trans rfl; have hcz12_6 : w11.cell? ⟨gb157, 6, none⟩ = some (.slice A0_6 l0_6.length c0_6) := (blk_cell BK157.out 6).trans rfl; have hcz12_7 : w11.cell? ⟨gb157, 7, none⟩ = some (.int .u64 a0_7) := (blk_cell BK157.out 7).trans rfl; have hcz12_8 : w11.cell? ⟨gb157, 8, none⟩ = some (.int .u64 a0_8) := (blk_cell BK157.out 8).trans rfl; have hfz12_0 := blk_frozen BK157.out 0; have hfz12_1 := blk_frozen BK157.out 1; have hfz12_2 := blk_frozen BK157.out 2; have hfz12_3 := blk_frozen BK157.out 3; have hfz12_4 := blk_frozen BK157.out 4; have hfz12_5 := blk_frozen BK157.out 5; have hfz12_6 := blk_frozen BK157.out 6; have hfz12_7 := blk_frozen BK157.out 7; have hfz12_8 := blk_frozen BK157.out 8) | ((with_reducible refine gate_callee (f := 27) rfl ?_); refine goesL_ (some 15) rfl rfl Tryd.func27 (by kernel_rfl) rfl #[.int .i64 a0_5] rfl (by (try simp only [List.map_toArray, List.map_cons, List.map_nil]); first | done | rfl | (simp only [List.length_drop, List.length_take]; rfl)) ?_; (with_reducible refine (show_num.calls (hT := ?sideT) a0_5 t159 _ A9.out).mono ?_); (case sideT => first | with_reducible exact HT.out | refine TabW.below HT.out ?_; repeat (first | (with_reducible first | exact HB.out | apply below_alloc | apply pw_below_drewN | apply below_drew1 | refine below_set ?_ GE157.out) | exact HB.out | exact Below.refl _ _)); rintro e w13 ⟨rfl, hb⟩; refine ⟨_, rfl, ?_⟩; have n0_ := Aside0.mk (blk_below (g := gb157) (o := .cells #[.string a0_0, .int .i64 a0_1, .int .i64 a0_2, .int .i64 a0_3, .int .i64 a0_4, .int .i64 a0_5, .slice A0_6 l0_6.length c0_6, .int .u64 a0_7, .int .u64 a0_8] 30 (0, 0)) (by (with_reducible repeat (first | refine blk_drewN ?_ _ | refine blk_drew ?_ | refine blk_alloc ?_ _)); exact BK157.out) hb); have n1_ := Aside0.mk (below_step (by repeat (first | (with_reducible first | exact HB.out | apply below_alloc | apply pw_below_drewN | apply below_drew1 | refine below_set ?_ GE157.out) | exact HB.out)) hb); clear BK157; clear HB; have BK157 := n0_; have HB := n1_; clear n0_ n1_; (try clear hb); (try clear hb2); (try clear hk); (try clear hi)))
    go_ret
    exact ⟨by first | rfl | (simp [errW_none, errW_some] <;> rfl) | (simp [*, errW_none, errW_some] <;> rfl), by repeat (first | (with_reducible first | exact HB.out | apply below_alloc | apply pw_below_drewN | apply below_drew1 | refine below_set ?_ GE157.out) | exact HB.out)⟩
   ·rw [if_neg c10] at H
    exact absurd H (by simp)
  ·rw [if_neg c8] at H
   have c8b0 : (a0_3 == 2) = false := beq_eq_false_iff_ne.mpr c8
   have c8b1 : (a0_3 != 2) = true := bne_iff_ne.mpr c8
   obtain rfl := Option.some.inj H
   go_enter Tryd.func28, Tryd.ntmps28
   go_wp2_with (first | ((with_reducible refine gate_dst (N := 1) rfl ?_); refine box_event ?hg (N := 1) ?hd (cs := #[.string a0_0, .int .i64 a0_1, .int .i64 a0_2, .int .i64 a0_3, .int .i64 a0_4, .int .i64 a0_5, .slice A0_6 l0_6.length c0_6, .int .u64 a0_7, .int .u64 a0_8]) (t := 30) ?hr ?_; (case hd => rfl); (case hg => rfl); (case hr => first | (go_simp; done) | (go_simp; rfl)); intro gb157 hg w14 hbox hb; have n0_ := Aside0.mk (below_step (by repeat (first | (with_reducible first | exact HB.out | apply below_alloc | apply pw_below_drewN | apply below_drew1) | exact HB.out)) hb); have n1_ := Aside0.mk (hbox); have n2_ := Aside0.mk ((by rw [hg]; exact (below_size (by repeat (first | (with_reducible first | exact HB.out | apply below_alloc | apply pw_below_drewN | apply below_drew1) | exact HB.out))) : w.heap.size ≤ gb157)); have n3_ := Aside0.mk ((by rw [hg]; exact (below_size (by repeat (first | (with_reducible first | exact HB.out | apply below_alloc | apply pw_below_drewN | apply below_drew1) | exact HB.out))) : w.heap.size ≤ gb157)); clear HB; have HB := n0_; have BK157 := n1_; have GW157 := n2_; have GE157 := n3_; clear n0_ n1_ n2_ n3_; clear hb hbox hg; have hcz15_0 : w14.cell? ⟨gb157, 0, none⟩ = some (.string a0_0) := (blk_cell BK157.out 0).trans rfl; have hcz15_1 : w14.cell? ⟨gb157, 1, none⟩ = some (.int .i64 a0_1) := (blk_cell BK157.out 1).trans rfl; have hcz15_2 : w14.cell? ⟨gb157, 2, none⟩ = some (.int .i64 a0_2) := (blk_cell BK157.out 2).trans rfl; have hcz15_3 : w14.cell? ⟨gb157, 3, none⟩ = some (.int .i64 a0_3) := (blk_cell BK157.out 3).trans rfl; have hcz15_4 : w14.cell? ⟨gb157, 4, none⟩ = some (.int .i64 a0_4) := (blk_cell BK157.out 4).trans rfl; have hcz15_5 : w14.cell? ⟨gb157, 5, none⟩ = some (.int .i64 a0_5) := (blk_cell BK157.out 5).trans rfl; have hcz15_6 : w14.cell? ⟨gb157, 6, none⟩ = some (.slice A0_6 l0_6.length c0_6) := (blk_cell BK157.out 6).trans rfl; have hcz15_7 : w14.cell? ⟨gb157, 7, none⟩ = some (.int .u64 a0_7) := (blk_cell BK157.out 7).trans rfl; have hcz15_8 : w14.cell? ⟨gb157, 8, none⟩ = some (.int .u64 a0_8) := (blk_cell BK157.out 8).trans rfl; have hfz15_0 := blk_frozen BK157.out 0; have hfz15_1 := blk_frozen BK157.out 1; have hfz15_2 := blk_frozen BK157.out 2; have hfz15_3 := blk_frozen BK157.out 3; have hfz15_4 := blk_frozen BK157.out 4; have hfz15_5 := blk_frozen BK157.out 5; have hfz15_6 := blk_frozen BK157.out 6; have hfz15_7 := blk_frozen BK157.out 7; have hfz15_8 := blk_frozen BK157.out 8))
   go_ret
   exact ⟨by first | rfl | (simp [errW_none, errW_some] <;> rfl) | (simp [*, errW_none, errW_some] <;> rfl), by repeat (first | (with_reducible first | exact HB.out | apply below_alloc | apply pw_below_drewN | apply below_drew1 | refine below_set ?_ GE157.out) | exact HB.out)⟩
def bits_List.l0 : Nat → Int → List Int → Option (List Int)
 | 0, _, _ => none
 | k + 1, x0, x3 => if x0 = 0 then (some x3) else ((bits_TrailingZeros64.f x0).bind fun t160 => (if x3.length < 17592186044416 then (bits_List.l0 k (Go.bits .and .u64 x0 (IntKind.u64.wrap (x0 - 1))) (x3 ++ [t160])) else (none)))
def bits_List.f (k : Nat) (a0 : Int) : Option (List Int) := bits_List.l0 k a0 ([] : List Int)
set_option maxHeartbeats 8000000 in
set_option maxRecDepth 100000 in
theorem bits_List.calls (k : Nat) (a0 : Int) (r : List Int) (w : World) (hT : TabW w) (h : bits_List.f k a0 = some r) :
  Calls Tryd.prog 50 #[.int .u64 a0] w fun e w' => ∃ v0_ : Value, e = .returned (v0_) ∧ Kd.R (Kd.int .i64) 3 w' w.heap.size (fun _ => True) v0_ r ∧ Below w.heap.size w w' := by
 have HT := Aside0.mk hT
 clear hT
 have HB := Aside0.mk (Below.refl w.heap.size w)
 have H : (bits_List.l0 k a0 ([] : List Int)) = some r := h
 clear h
 have H' := Aside0.mk H
 clear H
 go_enter Tryd.func50, Tryd.ntmps50
 go_wp2
 go_loopg [0, 3] k (fun kq v0 v3 w' => ∃ (x0_1 : Int) (x3_1 : List Int), v0 = .int .u64 x0_1 ∧ Aside0 (bits_List.l0 kq x0_1 x3_1 = some r) ∧ Aside0 (kq ≤ k) ∧ Aside0 (Kd.R (Kd.int .i64) 3 w' w.heap.size (fun _ => True) v3 x3_1) ∧ Aside0 (Below w.heap.size w w'))
 case atStart => exact ⟨(a0), (([] : List Int)), (by first | rfl | (simp; done) | (simp [*]; done)), H', ⟨Nat.le_refl _⟩, ⟨by first | exact Kd.R_nil _ _ _ _ _ | exact Kd.N_nil _ _ _ _ _ | exact Kd.V_nil _ _ _ _ _ | exact Kd.Q_nil _ _ _ _ _ | exact Kd.S_nil _ _ _ _ _⟩, ⟨by repeat (first | (with_reducible first | exact HB.out | apply below_alloc | apply pw_below_drewN | apply below_drew1) | exact HB.out)⟩⟩
 case round =>
  clear H'
  obtain ⟨x0_1, x3_1, rfl, HA, HK1, HO_3, HB⟩ := hrel
  cases gk with
  | zero => exact absurd HA.out (by simp [bits_List.l0])
  | succ k1 =>
   have H := HA.out
   clear HA
   simp only [bits_List.l0] at H
   by_cases c2 : x0_1 = 0
   ·rw [if_pos c2] at H
    have c2b0 : (x0_1 == 0) = true := beq_iff_eq.mpr c2
    have c2b1 : (x0_1 != 0) = false := bne_eq_false_iff_eq.mpr c2
    clear c2
    obtain rfl := Option.some.inj H
    go_wp2
    go_ret
    exact ⟨_, by first | rfl | (simp [errW_none, errW_some] <;> rfl) | (simp [*, errW_none, errW_some] <;> rfl), by (with_reducible repeat (first | apply Kd.R_alloc | apply Kd.R_drewN | apply Kd.R_drew)); exact HO_3.out, by repeat (first | (with_reducible first | exact HB.out | apply below_alloc | apply pw_below_drewN | apply below_drew1) | exact HB.out)⟩
   ·rw [if_neg c2] at H
    have c2b0 : (x0_1 == 0) = false := beq_eq_false_iff_ne.mpr c2
    have c2b1 : (x0_1 != 0) = true := bne_iff_ne.mpr c2
    replace H := Option.bind_eq_some_iff.mp H
    obtain ⟨t160, A30, H⟩ := H
    replace H : (if x3_1.length < 17592186044416 then (bits_List.l0 k1 (Go.bits .and .u64 x0_1 (IntKind.u64.wrap (x0_1 - 1))) (x3_1 ++ [t160])) else (none)) = some r := H
    have A3 := Aside0.mk A30
    clear A30
    by_cases c4 : x3_1.length < 17592186044416
    ·rw [if_pos c4] at H
     have LMc4 := Aside0.mk c4
     clear c4
     obtain ⟨y161, hy161⟩ : ∃ y_ : List Int, y_ = (x3_1 ++ [t160]) := ⟨_, rfl⟩
     replace H : (bits_List.l0 k1 (Go.bits .and .u64 x0_1 (IntKind.u64.wrap (x0_1 - 1))) y161) = some r := by first | (rw [hy161]; with_reducible exact H) | (have H2_ := (Option.bind_some _ _).symm.trans H; rw [hy161]; with_reducible exact H2_) | (have H2_ := (Option.bind_some _ _).symm.trans H; with_reducible exact H2_) | with_reducible exact H | (rw [hy161]; exact H) | exact H
     have Ny161 := Aside0.mk hy161
     clear hy161
     have H' := Aside0.mk H
     clear H
     go_wp2_with (first | ((with_reducible refine gate_callee (f := 72) rfl ?_); refine goesL_ (some 12) rfl rfl Tryd.func72 (by kernel_rfl) rfl #[.int .u64 x0_1] rfl (by (try simp only [List.map_toArray, List.map_cons, List.map_nil]); first | done | rfl | (simp only [List.length_drop, List.length_take]; rfl)) ?_; (with_reducible refine (bits_TrailingZeros64.calls (hT := ?sideT) x0_1 t160 _ A3.out).mono ?_); (case sideT => first | with_reducible exact HT.out | refine TabW.below HT.out ?_; repeat (first | (with_reducible first | exact HB.out | apply below_alloc | apply pw_below_drewN | apply below_drew1) | exact HB.out | exact Below.refl _ _)); rintro e w5 ⟨rfl, hb⟩; refine ⟨_, rfl, ?_⟩; have n0_ := Aside0.mk (Kd.R_below (by (with_reducible repeat (first | apply Kd.R_alloc | apply Kd.R_drewN | apply Kd.R_drew)); exact HO_3.out) hb); have n1_ := Aside0.mk (below_step (by repeat (first | (with_reducible first | exact HB.out | apply below_alloc | apply pw_below_drewN | apply below_drew1) | exact HB.out)) hb); clear HO_3; clear HB; have HO_3 := n0_; have HB := n1_; clear n0_ n1_; (try clear hb); (try clear hb2); (try clear hk); (try clear hi)) | ((with_reducible refine gate_builtin (b := .append) (xs := #[.tmp 10, .tmp 13]) rfl ?_); at_builtin; refine Kd.R_append (Kd.int .i64) (w0 := w) w.heap.size rfl (.tmp 10) (.tmp 13) 59 3 (.int .i64 0) 8 rfl Tryd.underlying59 info3 rfl (by decide) (by omega) u3 x3_1 t160 [.int .i64 t160] (fun _ => True) (fun _ => False) rfl rfl ?aP (fun _ hk => hk.elim) ?aF ?aO ?aB ?aS ?aL ?_; (case aP => exact rfl); (case aB => exact (by repeat (first | (with_reducible first | exact HB.out | apply below_alloc | apply pw_below_drewN | apply below_drew1) | exact HB.out))); (case aF => exact (fun _ _ => trivial)); (case aO => exact (by (with_reducible repeat (first | apply Kd.R_alloc | apply Kd.R_drewN | apply Kd.R_drew)); exact HO_3.out)); (case aS => exact (below_size (by repeat (first | (with_reducible first | exact HB.out | apply below_alloc | apply pw_below_drewN | apply below_drew1) | exact HB.out)))); (case aL => have := LMc4.out; omega); intro v162 w6 ho hb hg hat; rw [← Ny161.out] at ho; have n0_ := Aside0.mk (hb); have n1_ := Aside0.mk (ho); clear HB; clear HO_3; have HB := n0_; have HO163 := n1_; clear n0_ n1_; clear ho hb hg hat))
     go_roundg k1
     case measure => have := HK1.out; omega
     case rel => exact ⟨(Go.bits .and .u64 x0_1 (IntKind.u64.wrap (x0_1 - 1))), (y161), (by first | rfl | (simp; done) | (simp [*]; done)), H', ⟨by have := HK1.out; omega⟩, ⟨by (with_reducible repeat (first | apply Kd.R_alloc | apply Kd.R_drewN | apply Kd.R_drew)); exact HO163.out⟩, ⟨by repeat (first | (with_reducible first | exact HB.out | apply below_alloc | apply pw_below_drewN | apply below_drew1) | exact HB.out)⟩⟩
    ·rw [if_neg c4] at H
     exact absurd H (by simp)
def show_sets.l0 : Nat → List ByteArray → List Int → Int → Int → Option (List ByteArray)
 | 0, _, _, _, _ => none
 | k + 1, x5, x13, x14, x15 => if x15 < x14 then (if 0 ≤ x15 then (if x15 < (x13.length : Int) then ((show_num.f (rd x13 x15)).bind fun t171 => (if x5.length < 8796093022208 then (show_sets.l0 k (x5 ++ [t171]) x13 x14 (wrap64 (x15 + 1))) else (none))) else (none)) else (none)) else (some x5)
def show_sets.f (k : Nat) (a0 : ByteArray) (a1 : Int) : Option (List ByteArray) := if a1 = 0 then (some ([] : List ByteArray)) else ((bits_List.f k a1).bind fun t167 => (show_sets.l0 k (([a0] : List ByteArray)) t167 (t167.length : Int) 0))
set_option maxHeartbeats 8000000 in
set_option maxRecDepth 100000 in
theorem show_sets.calls (k : Nat) (a0 : ByteArray) (a1 : Int) (r : List ByteArray) (w : World) (hT : TabW w) (h : show_sets.f k a0 a1 = some r) :
  Calls Tryd.prog 29 #[.string a0, .int .u64 a1] w fun e w' => ∃ v0_ : Value, e = .returned (v0_) ∧ Kd.R Kd.string 9 w' w.heap.size (fun _ => True) v0_ r ∧ Below w.heap.size w w' := by
 have HT := Aside0.mk hT
 clear hT
 have HB := Aside0.mk (Below.refl w.heap.size w)
 have H : (if a1 = 0 then (some ([] : List ByteArray)) else ((bits_List.f k a1).bind fun t167 => (show_sets.l0 k (([a0] : List ByteArray)) t167 (t167.length : Int) 0))) = some r := h
 clear h
 by_cases c3 : a1 = 0
 ·rw [if_pos c3] at H
  have c3b0 : (a1 == 0) = true := beq_iff_eq.mpr c3
  have c3b1 : (a1 != 0) = false := bne_eq_false_iff_eq.mpr c3
  clear c3
  obtain rfl := Option.some.inj H
  go_enter Tryd.func29, Tryd.ntmps29
  go_wp2
  go_ret
  exact ⟨_, by first | rfl | (simp [errW_none, errW_some] <;> rfl) | (simp [*, errW_none, errW_some] <;> rfl), by first | exact Kd.R_nil _ _ _ _ _ | exact Kd.N_nil _ _ _ _ _ | exact Kd.V_nil _ _ _ _ _ | exact Kd.Q_nil _ _ _ _ _ | exact Kd.S_nil _ _ _ _ _, by repeat (first | (with_reducible first | exact HB.out | apply below_alloc | apply pw_below_drewN | apply below_drew1) | exact HB.out)⟩
 ·rw [if_neg c3] at H
  have c3b0 : (a1 == 0) = false := beq_eq_false_iff_ne.mpr c3
  have c3b1 : (a1 != 0) = true := bne_iff_ne.mpr c3
  obtain ⟨y164, hy164⟩ : ∃ y_ : List ByteArray, y_ = (([a0] : List ByteArray)) := ⟨_, rfl⟩
  replace H : ((bits_List.f k a1).bind fun t167 => (show_sets.l0 k y164 t167 (t167.length : Int) 0)) = some r := by first | (rw [hy164]; with_reducible exact H) | (have H2_ := (Option.bind_some _ _).symm.trans H; rw [hy164]; with_reducible exact H2_) | (have H2_ := (Option.bind_some _ _).symm.trans H; with_reducible exact H2_) | with_reducible exact H | (rw [hy164]; exact H) | exact H
  have Ny164 := Aside0.mk hy164
  clear hy164
  replace H := Option.bind_eq_some_iff.mp H
  obtain ⟨t167, A40, H⟩ := H
  replace H : (show_sets.l0 k y164 t167 (t167.length : Int) 0) = some r := H
  have A4 := Aside0.mk A40
  clear A40
  have H' := Aside0.mk H
  clear H
  go_enter Tryd.func29, Tryd.ntmps29
  go_wp2_with (first | ((with_reducible refine gate_dst (N := 11) rfl ?_); refine Kd.R_lit Kd.string _ 9 ?hg (N := 11) ?hd (xs := ([a0] : List ByteArray)) (inner := [.string a0]) (ok := fun _ => True) (okp := fun _ => True) ?hr ?hp (fun _ hk => hk) trivial (Below.refl _ _) (Nat.le_refl _) (by simp) ?_; (case hd => rfl); (case hg => rfl); (case hr => first | (go_simp; done) | (go_simp; rfl)); (case hp => exact (Reps.one (show Kd.M Kd.string _ _ _ a0 [.string a0] from rfl) (Reps.none _ _))); intro v165 w5 ho6 hb hg_ hnew_; clear hg_ hnew_; (first | rw [← Ny164.out] at ho6 | (simp only [Int.reduceToNat] at ho6; rw [← Ny164.out] at ho6)); have n0_ := Aside0.mk (Kd.R_lower ho6 (below_size (by repeat (first | (with_reducible first | exact HB.out | apply below_alloc | apply pw_below_drewN | apply below_drew1) | exact HB.out)))); have n1_ := Aside0.mk (below_step (by repeat (first | (with_reducible first | exact HB.out | apply below_alloc | apply pw_below_drewN | apply below_drew1) | exact HB.out)) hb); clear HB; have HO166 := n0_; have HB := n1_; clear n0_ n1_; clear hb ho6) | ((with_reducible refine gate_callee (f := 50) rfl ?_); refine goesL_ (some 13) rfl rfl Tryd.func50 (by kernel_rfl) rfl #[.int .u64 a1] rfl (by (try simp only [List.map_toArray, List.map_cons, List.map_nil]); first | done | rfl | (simp only [List.length_drop, List.length_take]; rfl)) ?_; (with_reducible refine (bits_List.calls (hT := ?sideT) k a1 t167 _ A4.out).mono ?_); (case sideT => first | with_reducible exact HT.out | refine TabW.below HT.out ?_; repeat (first | (with_reducible first | exact HB.out | apply below_alloc | apply pw_below_drewN | apply below_drew1) | exact HB.out | exact Below.refl _ _)); rintro e w7 ⟨v168, rfl, ho0, hb⟩; refine ⟨_, rfl, ?_⟩; have n0_ := Aside0.mk (Kd.R_below (by (with_reducible repeat (first | apply Kd.R_alloc | apply Kd.R_drewN | apply Kd.R_drew)); exact HO166.out) hb); have n1_ := Aside0.mk (Kd.R_lower ho0 (below_size (by repeat (first | (with_reducible first | exact HB.out | apply below_alloc | apply pw_below_drewN | apply below_drew1) | exact HB.out)))); have n2_ := Aside0.mk (below_step (by repeat (first | (with_reducible first | exact HB.out | apply below_alloc | apply pw_below_drewN | apply below_drew1) | exact HB.out)) hb); clear HO166; clear HB; have HO166 := n0_; have HO169 := n1_; have HB := n2_; clear n0_ n1_ n2_; (try clear hb); (try clear hb2); (try clear hk); (try clear hi); (try clear ho0); obtain ⟨Ao8, co8, eo8⟩ := Kd.R_slice HO169.out; subst eo8))
  go_loopg [5, 15] k (fun kq v5 v15 w' => ∃ (x5_1 : List ByteArray) (x15_1 : Int), v15 = .int .i64 x15_1 ∧ Aside0 (show_sets.l0 kq x5_1 t167 (t167.length : Int) x15_1 = some r) ∧ Aside0 (kq ≤ k) ∧ Aside0 (Kd.R Kd.string 9 w' w.heap.size (fun _ => True) v5 x5_1) ∧ Aside0 (Kd.R (Kd.int .i64) 3 w' w.heap.size (fun _ => True) (.slice Ao8 t167.length co8) t167) ∧ Aside0 (Below w.heap.size w w'))
  case atStart => exact ⟨(y164), (0), (by first | rfl | (simp; done) | (simp [*]; done)), H', ⟨Nat.le_refl _⟩, ⟨by (with_reducible repeat (first | apply Kd.R_alloc | apply Kd.R_drewN | apply Kd.R_drew)); exact HO166.out⟩, ⟨by (with_reducible repeat (first | apply Kd.R_alloc | apply Kd.R_drewN | apply Kd.R_drew)); exact HO169.out⟩, ⟨by repeat (first | (with_reducible first | exact HB.out | apply below_alloc | apply pw_below_drewN | apply below_drew1) | exact HB.out)⟩⟩
  case round =>
   clear H'
   try clear c2
   try clear p2
   try clear c3
   try clear c3b0
   try clear c3b1
   try clear c5
   obtain ⟨x5_1, x15_1, rfl, HA, HK1, HO_5, HO_13, HB⟩ := hrel
   cases gk with
   | zero => exact absurd HA.out (by simp [show_sets.l0])
   | succ k1 =>
    have H := HA.out
    clear HA
    simp only [show_sets.l0] at H
    by_cases c9 : x15_1 < (t167.length : Int)
    ·rw [if_pos c9] at H
     have c9b0 : decide (x15_1 < (t167.length : Int)) = true := decide_eq_true c9
     clear c9
     by_cases c10 : 0 ≤ x15_1
     ·rw [if_pos c10] at H
      have c10b0 : decide (0 ≤ x15_1) = true := decide_eq_true c10
      clear c10
      by_cases c11 : x15_1 < (t167.length : Int)
      ·rw [if_pos c11] at H
       have c11b0 : decide (x15_1 < (t167.length : Int)) = true := decide_eq_true c11
       clear c11
       replace H := Option.bind_eq_some_iff.mp H
       obtain ⟨t171, A120, H⟩ := H
       replace H : (if x5_1.length < 8796093022208 then (show_sets.l0 k1 (x5_1 ++ [t171]) t167 (t167.length : Int) (wrap64 (x15_1 + 1))) else (none)) = some r := H
       have A12 := Aside0.mk A120
       clear A120
       by_cases c13 : x5_1.length < 8796093022208
       ·rw [if_pos c13] at H
        have LMc13 := Aside0.mk c13
        clear c13
        obtain ⟨y172, hy172⟩ : ∃ y_ : List ByteArray, y_ = (x5_1 ++ [t171]) := ⟨_, rfl⟩
        replace H : (show_sets.l0 k1 y172 t167 (t167.length : Int) (wrap64 (x15_1 + 1))) = some r := by first | (rw [hy172]; with_reducible exact H) | (have H2_ := (Option.bind_some _ _).symm.trans H; rw [hy172]; with_reducible exact H2_) | (have H2_ := (Option.bind_some _ _).symm.trans H; with_reducible exact H2_) | with_reducible exact H | (rw [hy172]; exact H) | exact H
        have Ny172 := Aside0.mk hy172
        clear hy172
        have H' := Aside0.mk H
        clear H
        have p170 : 0 ≤ (x15_1 : Int) := of_decide_eq_true (by first | (with_reducible assumption) | assumption)
        have q170 : x15_1 < (t167.length : Int) := of_decide_eq_true (by first | (with_reducible assumption) | assumption)
        obtain ⟨ad170, e170, hx170_0⟩ := Kd.at_int (Kd.R_reads' HO_13.out).2.2 x15_1 p170 q170
        cases e170
        replace p170 := eq_true p170
        replace q170 := eq_true q170
        go_wp2_with (first | ((with_reducible refine gate_callee (f := 27) rfl ?_); refine goesL_ (some 21) rfl rfl Tryd.func27 (by kernel_rfl) rfl #[.int .i64 (rd t167 x15_1)] rfl (by (try simp only [List.map_toArray, List.map_cons, List.map_nil]); first | done | rfl | (simp only [List.length_drop, List.length_take]; rfl)) ?_; (with_reducible refine (show_num.calls (hT := ?sideT) (rd t167 x15_1) t171 _ A12.out).mono ?_); (case sideT => first | with_reducible exact HT.out | refine TabW.below HT.out ?_; repeat (first | (with_reducible first | exact HB.out | apply below_alloc | apply pw_below_drewN | apply below_drew1) | exact HB.out | exact Below.refl _ _)); rintro e w14 ⟨rfl, hb⟩; refine ⟨_, rfl, ?_⟩; have n0_ := Aside0.mk (Kd.R_below (by (with_reducible repeat (first | apply Kd.R_alloc | apply Kd.R_drewN | apply Kd.R_drew)); exact HO_5.out) hb); have n1_ := Aside0.mk (Kd.R_below (by (with_reducible repeat (first | apply Kd.R_alloc | apply Kd.R_drewN | apply Kd.R_drew)); exact HO_13.out) hb); have n2_ := Aside0.mk (below_step (by repeat (first | (with_reducible first | exact HB.out | apply below_alloc | apply pw_below_drewN | apply below_drew1) | exact HB.out)) hb); clear HO_5; clear HO_13; clear HB; have HO_5 := n0_; have HO_13 := n1_; have HB := n2_; clear n0_ n1_ n2_; (try clear hb); (try clear hb2); (try clear hk); (try clear hi)) | ((with_reducible refine gate_builtin (b := .append) (xs := #[.tmp 19, .tmp 22]) rfl ?_); at_builtin; refine Kd.R_append Kd.string (w0 := w) w.heap.size rfl (.tmp 19) (.tmp 22) 42 9 (.string ⟨#[]⟩) 16 rfl Tryd.underlying42 info9 rfl (by decide) (by omega) u5 x5_1 t171 [.string t171] (fun _ => True) (fun _ => False) rfl rfl ?aP (fun _ hk => hk.elim) ?aF ?aO ?aB ?aS ?aL ?_; (case aP => exact rfl); (case aB => exact (by repeat (first | (with_reducible first | exact HB.out | apply below_alloc | apply pw_below_drewN | apply below_drew1) | exact HB.out))); (case aF => exact (fun _ _ => trivial)); (case aO => exact (by (with_reducible repeat (first | apply Kd.R_alloc | apply Kd.R_drewN | apply Kd.R_drew)); exact HO_5.out)); (case aS => exact (below_size (by repeat (first | (with_reducible first | exact HB.out | apply below_alloc | apply pw_below_drewN | apply below_drew1) | exact HB.out)))); (case aL => have := LMc13.out; omega); intro v173 w15 ho hb hg hat; rw [← Ny172.out] at ho; have n0_ := Aside0.mk (Kd.R_over' (by (with_reducible repeat (first | apply Kd.R_alloc | apply Kd.R_drewN | apply Kd.R_drew)); exact HO_13.out) (Kd.R_typed (by (with_reducible repeat (first | apply Kd.R_alloc | apply Kd.R_drewN | apply Kd.R_drew)); exact HO_5.out)) (by decide) hg); have n1_ := Aside0.mk (hb); have n2_ := Aside0.mk (ho); clear HO_13; clear HB; clear HO_5; have HO_13 := n0_; have HB := n1_; have HO174 := n2_; clear n0_ n1_ n2_; clear ho hb hg hat))
        go_roundg k1
        case measure => have := HK1.out; omega
        case rel => exact ⟨(y172), (wrap64 (x15_1 + 1)), (by first | rfl | (simp; done) | (simp [*]; done)), H', ⟨by have := HK1.out; omega⟩, ⟨by (with_reducible repeat (first | apply Kd.R_alloc | apply Kd.R_drewN | apply Kd.R_drew)); exact HO174.out⟩, ⟨by (with_reducible repeat (first | apply Kd.R_alloc | apply Kd.R_drewN | apply Kd.R_drew)); exact HO_13.out⟩, ⟨by repeat (first | (with_reducible first | exact HB.out | apply below_alloc | apply pw_below_drewN | apply below_drew1) | exact HB.out)⟩⟩
       ·rw [if_neg c13] at H
        exact absurd H (by simp)
      ·rw [if_neg c11] at H
       exact absurd H (by simp)
     ·rw [if_neg c10] at H
      exact absurd H (by simp)
    ·rw [if_neg c9] at H
     have c9b0 : decide (x15_1 < (t167.length : Int)) = false := decide_eq_false c9
     clear c9
     obtain rfl := Option.some.inj H
     go_wp2
     go_ret
     exact ⟨_, by first | rfl | (simp [errW_none, errW_some] <;> rfl) | (simp [*, errW_none, errW_some] <;> rfl), by (with_reducible repeat (first | apply Kd.R_alloc | apply Kd.R_drewN | apply Kd.R_drew)); exact HO_5.out, by repeat (first | (with_reducible first | exact HB.out | apply below_alloc | apply pw_below_drewN | apply below_drew1) | exact HB.out)⟩
def show_Task.l0 : Nat → List ByteArray → List Int → Int → Int → ByteArray → Int → Int → Int → Int → Int → List Int → Int → Int → Option (ByteArray)
 | 0, _, _, _, _, _, _, _, _, _, _, _, _, _ => none
 | k + 1, x3, x18, x19, x20, x176000, x176001, x176002, x176003, x176004, x176005, x176006, x176007, x176008 => if x20 < x19 then (if 0 ≤ x20 then (if x20 < (x18.length : Int) then ((show_num.f (rd x18 x20)).bind fun t183 => (if x3.length < 8796093022208 then (show_Task.l0 k (x3 ++ [t183]) x18 x19 (wrap64 (x20 + 1)) x176000 x176001 x176002 x176003 x176004 x176005 x176006 x176007 x176008) else (none))) else (none)) else (none)) else ((show_sets.f k (⟨#[101, 99, 98]⟩ : ByteArray) x176007).bind fun t187 => (if x3.length + t187.length < 8796093022208 then ((some (x3 ++ t187 : List ByteArray)).bind fun y190 => ((show_sets.f k (⟨#[117, 99, 98]⟩ : ByteArray) x176008).bind fun t193 => (if y190.length + t193.length < 8796093022208 then ((strings_Join.f (y190 ++ t193) (⟨#[32]⟩ : ByteArray)).bind fun t199 => (if t199.size + 1 ≤ 9223372036854775807 then (some (t199 ++ (⟨#[59]⟩ : ByteArray))) else (none))) else (none)))) else (none)))
def show_Task.f (k : Nat) (a0_0 : ByteArray) (a0_1 : Int) (a0_2 : Int) (a0_3 : Int) (a0_4 : Int) (a0_5 : Int) (l0_6 : List Int) (a0_7 : Int) (a0_8 : Int) : Option (ByteArray) := (show_num.f a0_1).bind fun t176 => ((show_num.f a0_2).bind fun t177 => ((show_mode.f a0_0 a0_1 a0_2 a0_3 a0_4 a0_5 l0_6 a0_7 a0_8).bind fun t178 => (show_Task.l0 k (([(⟨#[116, 97, 115, 107]⟩ : ByteArray), a0_0, (⟨#[112, 101, 114, 105, 111, 100]⟩ : ByteArray), t176, (⟨#[100, 101, 97, 100, 108, 105, 110, 101]⟩ : ByteArray), t177, t178, (⟨#[114, 101, 103, 105, 111, 110, 115]⟩ : ByteArray)] : List ByteArray)) l0_6 (l0_6.length : Int) 0 a0_0 a0_1 a0_2 a0_3 a0_4 a0_5 l0_6 a0_7 a0_8)))
def show_Task.T1 : Bool × List (List Nat × List Nat) := (true, [([], []), ([0], [0]), ([], []), ([2], [2]), ([3], [3]), ([], []), ([5], [5]), ([6, 4], [6]), ([], []), ([8, 7], [8]), ([1, 4, 7, 9], [1, 4, 7, 9]), ([10, 9, 0, 1, 2, 3, 4, 5, 6, 7, 8, 9, 10], [10])])
def show_Task.B1 : List Nat := [0, 1, 0, 4, 12, 0, 32, 124, 0, 508, 1023, 2047]
theorem show_Task.tab1 : rtab .any (opsOf Tryd.f11 1) = show_Task.T1 := by kernel_rfl
theorem show_Task.bits1 : waitsOk show_Task.T1.2 show_Task.B1 = true := by kernel_rfl
set_option maxHeartbeats 8000000 in
set_option maxRecDepth 100000 in
theorem show_Task.calls (k : Nat) (a0_0 : ByteArray) (a0_1 : Int) (a0_2 : Int) (a0_3 : Int) (a0_4 : Int) (a0_5 : Int) (A0_6 : Option Addr) (c0_6 : Nat) (l0_6 : List Int) (a0_7 : Int) (a0_8 : Int) (r : ByteArray) (w : World) (hr0_6 : Kd.C (Kd.int .i64) w A0_6 l0_6.length l0_6) (hc0_6 : l0_6.length ≤ c0_6) (hT : TabW w) (h : show_Task.f k a0_0 a0_1 a0_2 a0_3 a0_4 a0_5 l0_6 a0_7 a0_8 = some r) :
  Calls Tryd.prog 11 #[.agg #[.string a0_0, .int .i64 a0_1, .int .i64 a0_2, .int .i64 a0_3, .int .i64 a0_4, .int .i64 a0_5, .slice A0_6 l0_6.length c0_6, .int .u64 a0_7, .int .u64 a0_8]] w fun e w' => e = .returned (.string r) ∧ Below w.heap.size w w' := by
 have HT := Aside0.mk hT
 clear hT
 have hu30 := Tryd.underlying30
 have HR0_6 := Aside0.mk hr0_6
 have HC0_6 := Aside0.mk hc0_6
 clear hr0_6 hc0_6
 have HB := Aside0.mk (Below.refl w.heap.size w)
 have H : ((show_num.f a0_1).bind fun t176 => ((show_num.f a0_2).bind fun t177 => ((show_mode.f a0_0 a0_1 a0_2 a0_3 a0_4 a0_5 l0_6 a0_7 a0_8).bind fun t178 => (show_Task.l0 k (([(⟨#[116, 97, 115, 107]⟩ : ByteArray), a0_0, (⟨#[112, 101, 114, 105, 111, 100]⟩ : ByteArray), t176, (⟨#[100, 101, 97, 100, 108, 105, 110, 101]⟩ : ByteArray), t177, t178, (⟨#[114, 101, 103, 105, 111, 110, 115]⟩ : ByteArray)] : List ByteArray)) l0_6 (l0_6.length : Int) 0 a0_0 a0_1 a0_2 a0_3 a0_4 a0_5 l0_6 a0_7 a0_8)))) = some r := h
 clear h
 replace H := Option.bind_eq_some_iff.mp H
 obtain ⟨t176, A20, H⟩ := H
 replace H : ((show_num.f a0_2).bind fun t177 => ((show_mode.f a0_0 a0_1 a0_2 a0_3 a0_4 a0_5 l0_6 a0_7 a0_8).bind fun t178 => (show_Task.l0 k (([(⟨#[116, 97, 115, 107]⟩ : ByteArray), a0_0, (⟨#[112, 101, 114, 105, 111, 100]⟩ : ByteArray), t176, (⟨#[100, 101, 97, 100, 108, 105, 110, 101]⟩ : ByteArray), t177, t178, (⟨#[114, 101, 103, 105, 111, 110, 115]⟩ : ByteArray)] : List ByteArray)) l0_6 (l0_6.length : Int) 0 a0_0 a0_1 a0_2 a0_3 a0_4 a0_5 l0_6 a0_7 a0_8))) = some r := H
 have A2 := Aside0.mk A20
 clear A20
 replace H := Option.bind_eq_some_iff.mp H
 obtain ⟨t177, A30, H⟩ := H
 replace H : ((show_mode.f a0_0 a0_1 a0_2 a0_3 a0_4 a0_5 l0_6 a0_7 a0_8).bind fun t178 => (show_Task.l0 k (([(⟨#[116, 97, 115, 107]⟩ : ByteArray), a0_0, (⟨#[112, 101, 114, 105, 111, 100]⟩ : ByteArray), t176, (⟨#[100, 101, 97, 100, 108, 105, 110, 101]⟩ : ByteArray), t177, t178, (⟨#[114, 101, 103, 105, 111, 110, 115]⟩ : ByteArray)] : List ByteArray)) l0_6 (l0_6.length : Int) 0 a0_0 a0_1 a0_2 a0_3 a0_4 a0_5 l0_6 a0_7 a0_8)) = some r := H
 have A3 := Aside0.mk A30
 clear A30
 replace H := Option.bind_eq_some_iff.mp H
 obtain ⟨t178, A40, H⟩ := H
 replace H : (show_Task.l0 k (([(⟨#[116, 97, 115, 107]⟩ : ByteArray), a0_0, (⟨#[112, 101, 114, 105, 111, 100]⟩ : ByteArray), t176, (⟨#[100, 101, 97, 100, 108, 105, 110, 101]⟩ : ByteArray), t177, t178, (⟨#[114, 101, 103, 105, 111, 110, 115]⟩ : ByteArray)] : List ByteArray)) l0_6 (l0_6.length : Int) 0 a0_0 a0_1 a0_2 a0_3 a0_4 a0_5 l0_6 a0_7 a0_8) = some r := H
 have A4 := Aside0.mk A40
 clear A40
 obtain ⟨y179, hy179⟩ : ∃ y_ : List ByteArray, y_ = (([(⟨#[116, 97, 115, 107]⟩ : ByteArray), a0_0, (⟨#[112, 101, 114, 105, 111, 100]⟩ : ByteArray), t176, (⟨#[100, 101, 97, 100, 108, 105, 110, 101]⟩ : ByteArray), t177, t178, (⟨#[114, 101, 103, 105, 111, 110, 115]⟩ : ByteArray)] : List ByteArray)) := ⟨_, rfl⟩
 replace H : (show_Task.l0 k y179 l0_6 (l0_6.length : Int) 0 a0_0 a0_1 a0_2 a0_3 a0_4 a0_5 l0_6 a0_7 a0_8) = some r := by first | (rw [hy179]; with_reducible exact H) | (have H2_ := (Option.bind_some _ _).symm.trans H; rw [hy179]; with_reducible exact H2_) | (have H2_ := (Option.bind_some _ _).symm.trans H; with_reducible exact H2_) | with_reducible exact H | (rw [hy179]; exact H) | exact H
 have Ny179 := Aside0.mk hy179
 clear hy179
 have H' := Aside0.mk H
 clear H
 go_enter Tryd.func11, Tryd.ntmps11
 try go_wp2_with (first | ((with_reducible refine gate_dst (N := 1) rfl ?_); refine box_event ?hg (N := 1) ?hd (cs := #[.string a0_0, .int .i64 a0_1, .int .i64 a0_2, .int .i64 a0_3, .int .i64 a0_4, .int .i64 a0_5, .slice A0_6 l0_6.length c0_6, .int .u64 a0_7, .int .u64 a0_8]) (t := 30) ?hr ?_; (case hd => rfl); (case hg => rfl); (case hr => first | (go_simp; done) | (go_simp; rfl)); intro gb175 hg w5 hbox hb; have n0_ := Aside0.mk (below_step (by repeat (first | (with_reducible first | exact HB.out | apply below_alloc | apply pw_below_drewN | apply below_drew1) | exact HB.out)) hb); have n1_ := Aside0.mk (hbox); have n2_ := Aside0.mk ((by rw [hg]; exact (below_size (by repeat (first | (with_reducible first | exact HB.out | apply below_alloc | apply pw_below_drewN | apply below_drew1) | exact HB.out))) : w.heap.size ≤ gb175)); have n3_ := Aside0.mk ((by rw [hg]; exact (below_size (by repeat (first | (with_reducible first | exact HB.out | apply below_alloc | apply pw_below_drewN | apply below_drew1) | exact HB.out))) : w.heap.size ≤ gb175)); clear HB; have HB := n0_; have BK175 := n1_; have GW175 := n2_; have GE175 := n3_; clear n0_ n1_ n2_ n3_; clear hb hbox hg))
 have n0_ := Aside0.mk (blk_drew BK175.out)
 have n1_ := Aside0.mk (below_drew1 HB.out)
 clear BK175
 clear HB
 have BK175 := n0_
 have HB := n1_
 clear n0_ n1_
 refine start_ (n := 12) (S := fun w' => w'.cell? ⟨gb175, 0, none⟩ = some (.string a0_0) ∧ w'.cell? ⟨gb175, 1, none⟩ = some (.int .i64 a0_1) ∧ w'.cell? ⟨gb175, 2, none⟩ = some (.int .i64 a0_2) ∧ w'.cell? ⟨gb175, 3, none⟩ = some (.int .i64 a0_3) ∧ w'.cell? ⟨gb175, 4, none⟩ = some (.int .i64 a0_4) ∧ w'.cell? ⟨gb175, 5, none⟩ = some (.int .i64 a0_5) ∧ w'.cell? ⟨gb175, 6, none⟩ = some (.slice A0_6 l0_6.length c0_6) ∧ w'.cell? ⟨gb175, 7, none⟩ = some (.int .u64 a0_7) ∧ w'.cell? ⟨gb175, 8, none⟩ = some (.int .u64 a0_8)) (ds := []) #[false, false, false, false, false, false, false, false, false, false, false, false] (by kernel_rfl) rfl rfl ⟨(blk_cell BK175.out 0).trans rfl, (blk_cell BK175.out 1).trans rfl, (blk_cell BK175.out 2).trans rfl, (blk_cell BK175.out 3).trans rfl, (blk_cell BK175.out 4).trans rfl, (blk_cell BK175.out 5).trans rfl, (blk_cell BK175.out 6).trans rfl, (blk_cell BK175.out 7).trans rfl, (blk_cell BK175.out 8).trans rfl⟩ (fun hHeld => ?_); refine with_tabW show_Task.tab1 show_Task.bits1 (fun HT_ HW_ => ?_)
 generalize w5.drew = w6 at BK175 HB hHeld ⊢
 refine pure_ (i := 0) (N := some 6) (v := ?_) (a' := ?_) #[true, false, false, false, false, false, false, false, false, false, false, false] rfl rfl (any_of HT_.out (by kernel_rfl)) (fun _ _ _ h => h) (Or.inl ⟨by rfl, ?_⟩) ?_ ?_
 rotate_left
 ·intro w'
  go_simp
  with_reducible rfl
 rotate_left
 ·simp only [Act.put, List.setIfInBounds_toArray, List.set_cons_zero, List.set_cons_succ, i64_w, i32_w]
  rfl
 refine pure_ (i := 2) (N := some 8) (v := ?_) (a' := ?_) #[true, false, true, false, false, false, false, false, false, false, false, false] rfl rfl (any_of HT_.out (by kernel_rfl)) (fun _ _ _ h => h) (Or.inl ⟨by rfl, ?_⟩) ?_ ?_
 rotate_left
 ·intro w'
  go_simp
  with_reducible rfl
 rotate_left
 ·simp only [Act.put, List.setIfInBounds_toArray, List.set_cons_zero, List.set_cons_succ, i64_w, i32_w]
  rfl
 refine pure_ (i := 5) (N := some 11) (v := ?_) (a' := ?_) #[true, false, true, false, false, true, false, false, false, false, false, false] rfl rfl (any_of HT_.out (by kernel_rfl)) (fun _ _ _ h => h) (Or.inl ⟨by rfl, ?_⟩) ?_ ?_
 rotate_left
 ·intro w'
  go_simp
  with_reducible rfl
 rotate_left
 ·simp only [Act.put, List.setIfInBounds_toArray, List.set_cons_zero, List.set_cons_succ, i64_w, i32_w]
  rfl
 refine take_ (i := 1) (N := some 7) (v := ?_) (a' := ?_) #[true, true, true, false, false, true, false, false, false, false, false, false] rfl rfl (take_ofW HT_.out HW_.out (by kernel_rfl)) (fun _ _ _ h => h) (Or.inl ⟨by rfl, ?_⟩) hHeld ?_ ?_
 rotate_left
 ·rintro w' ⟨s0, s1, s2, s3, s4, s5, s6, s7, s8⟩
  go_simp
  with_reducible rfl
 rotate_left
 ·simp only [Act.put, List.setIfInBounds_toArray, List.set_cons_zero, List.set_cons_succ, i64_w, i32_w]
  rfl
 refine take_ (i := 3) (N := some 9) (v := ?_) (a' := ?_) #[true, true, true, true, false, true, false, false, false, false, false, false] rfl rfl (take_ofW HT_.out HW_.out (by kernel_rfl)) (fun _ _ _ h => h) (Or.inl ⟨by rfl, ?_⟩) hHeld ?_ ?_
 rotate_left
 ·rintro w' ⟨s0, s1, s2, s3, s4, s5, s6, s7, s8⟩
  go_simp
  with_reducible rfl
 rotate_left
 ·simp only [Act.put, List.setIfInBounds_toArray, List.set_cons_zero, List.set_cons_succ, i64_w, i32_w]
  rfl
 refine take_ (i := 6) (N := some 12) (v := ?_) (a' := ?_) #[true, true, true, true, false, true, true, false, false, false, false, false] rfl rfl (take_ofW HT_.out HW_.out (by kernel_rfl)) (fun _ _ _ h => h) (Or.inl ⟨by rfl, ?_⟩) hHeld ?_ ?_
 rotate_left
 ·rintro w' ⟨s0, s1, s2, s3, s4, s5, s6, s7, s8⟩
  go_simp
  with_reducible rfl
 rotate_left
 ·simp only [Act.put, List.setIfInBounds_toArray, List.set_cons_zero, List.set_cons_succ, i64_w, i32_w]
  rfl
 refine take_ (i := 8) (N := some 14) (v := ?_) (a' := ?_) #[true, true, true, true, false, true, true, false, true, false, false, false] rfl rfl (take_ofW HT_.out HW_.out (by kernel_rfl)) (fun _ _ _ h => h) (Or.inl ⟨by rfl, ?_⟩) hHeld ?_ ?_
 rotate_left
 ·rintro w' ⟨s0, s1, s2, s3, s4, s5, s6, s7, s8⟩
  go_simp
  with_reducible rfl
 rotate_left
 ·simp only [Act.put, List.setIfInBounds_toArray, List.set_cons_zero, List.set_cons_succ, i64_w, i32_w]
  rfl
 refine one_ (i := 4) (N := some 10) #[true, true, true, true, true, true, true, false, true, false, false, false] rfl rfl (one_of HT_.out (by kernel_rfl)) (by decide) (fun K hK => ?_)
 refine goes_ Tryd.func27 (by kernel_rfl) rfl #[.int .i64 a0_1] (by rfl) rfl rfl (by (try simp only [List.map_toArray, List.map_cons, List.map_nil]); first | done | rfl | (simp only [List.length_drop, List.length_take]; rfl)) ?_
 with_reducible refine (show_num.calls (hT := ?sideT) a0_1 t176 _ A2.out).mono ?_
 (case sideT => first | with_reducible exact HT.out | refine TabW.below HT.out ?_; repeat (first | (with_reducible first | exact HB.out | apply below_alloc | apply pw_below_drewN | apply below_drew1 | refine below_set ?_ GE175.out) | exact HB.out | exact Below.refl _ _))
 rintro e w7 ⟨rfl, hb⟩
 refine ⟨_, rfl, ?_⟩
 have n0_ := Aside0.mk (blk_below (g := gb175) (o := .cells #[.string a0_0, .int .i64 a0_1, .int .i64 a0_2, .int .i64 a0_3, .int .i64 a0_4, .int .i64 a0_5, .slice A0_6 l0_6.length c0_6, .int .u64 a0_7, .int .u64 a0_8] 30 (0, 0)) (by (with_reducible repeat (first | refine blk_drewN ?_ _ | refine blk_drew ?_ | refine blk_alloc ?_ _)); exact BK175.out) hb)
 have n1_ := Aside0.mk (below_step (by repeat (first | (with_reducible first | exact HB.out | apply below_alloc | apply pw_below_drewN | apply below_drew1 | refine below_set ?_ GE175.out) | exact HB.out)) hb)
 clear BK175
 clear HB
 have BK175 := n0_
 have HB := n1_
 clear n0_ n1_
 (try clear hb)
 (try clear hb2)
 (try clear hk)
 (try clear hi)
 refine hK.out _ _ ⟨(blk_cell BK175.out 0).trans rfl, (blk_cell BK175.out 1).trans rfl, (blk_cell BK175.out 2).trans rfl, (blk_cell BK175.out 3).trans rfl, (blk_cell BK175.out 4).trans rfl, (blk_cell BK175.out 5).trans rfl, (blk_cell BK175.out 6).trans rfl, (blk_cell BK175.out 7).trans rfl, (blk_cell BK175.out 8).trans rfl⟩ (fun hHeld => ?_)
 clear hK K
 refine norm_ (a' := ?_) ?_ ?_
 rotate_left
 ·show Act.put _ (some 10) _ = _
  simp only [Act.put, List.setIfInBounds_toArray, List.set_cons_zero, List.set_cons_succ, i64_w, i32_w]
  rfl
 refine one_ (i := 7) (N := some 13) #[true, true, true, true, true, true, true, true, true, false, false, false] rfl rfl (one_of HT_.out (by kernel_rfl)) (by decide) (fun K hK => ?_)
 refine goes_ Tryd.func27 (by kernel_rfl) rfl #[.int .i64 a0_2] (by rfl) rfl rfl (by (try simp only [List.map_toArray, List.map_cons, List.map_nil]); first | done | rfl | (simp only [List.length_drop, List.length_take]; rfl)) ?_
 with_reducible refine (show_num.calls (hT := ?sideT) a0_2 t177 _ A3.out).mono ?_
 (case sideT => first | with_reducible exact HT.out | refine TabW.below HT.out ?_; repeat (first | (with_reducible first | exact HB.out | apply below_alloc | apply pw_below_drewN | apply below_drew1 | refine below_set ?_ GE175.out) | exact HB.out | exact Below.refl _ _))
 rintro e w8 ⟨rfl, hb⟩
 refine ⟨_, rfl, ?_⟩
 have n0_ := Aside0.mk (blk_below (g := gb175) (o := .cells #[.string a0_0, .int .i64 a0_1, .int .i64 a0_2, .int .i64 a0_3, .int .i64 a0_4, .int .i64 a0_5, .slice A0_6 l0_6.length c0_6, .int .u64 a0_7, .int .u64 a0_8] 30 (0, 0)) (by (with_reducible repeat (first | refine blk_drewN ?_ _ | refine blk_drew ?_ | refine blk_alloc ?_ _)); exact BK175.out) hb)
 have n1_ := Aside0.mk (below_step (by repeat (first | (with_reducible first | exact HB.out | apply below_alloc | apply pw_below_drewN | apply below_drew1 | refine below_set ?_ GE175.out) | exact HB.out)) hb)
 clear BK175
 clear HB
 have BK175 := n0_
 have HB := n1_
 clear n0_ n1_
 (try clear hb)
 (try clear hb2)
 (try clear hk)
 (try clear hi)
 refine hK.out _ _ ⟨(blk_cell BK175.out 0).trans rfl, (blk_cell BK175.out 1).trans rfl, (blk_cell BK175.out 2).trans rfl, (blk_cell BK175.out 3).trans rfl, (blk_cell BK175.out 4).trans rfl, (blk_cell BK175.out 5).trans rfl, (blk_cell BK175.out 6).trans rfl, (blk_cell BK175.out 7).trans rfl, (blk_cell BK175.out 8).trans rfl⟩ (fun hHeld => ?_)
 clear hK K
 refine norm_ (a' := ?_) ?_ ?_
 rotate_left
 ·show Act.put _ (some 13) _ = _
  simp only [Act.put, List.setIfInBounds_toArray, List.set_cons_zero, List.set_cons_succ, i64_w, i32_w]
  rfl
 refine one_ (i := 9) (N := some 15) #[true, true, true, true, true, true, true, true, true, true, false, false] rfl rfl (one_of HT_.out (by kernel_rfl)) (by decide) (fun K hK => ?_)
 refine goes_ Tryd.func28 (by kernel_rfl) rfl #[.agg #[.string a0_0, .int .i64 a0_1, .int .i64 a0_2, .int .i64 a0_3, .int .i64 a0_4, .int .i64 a0_5, .slice A0_6 l0_6.length c0_6, .int .u64 a0_7, .int .u64 a0_8]] (by rfl) rfl rfl (by (try simp only [List.map_toArray, List.map_cons, List.map_nil]); first | done | rfl | (simp only [List.length_drop, List.length_take]; rfl)) ?_
 with_reducible refine (show_mode.calls (hT := ?sideT) a0_0 a0_1 a0_2 a0_3 a0_4 a0_5 _ _ l0_6 a0_7 a0_8 t178 _ ?side1 ?side2 A4.out).mono ?_
 (case sideT => first | with_reducible exact HT.out | refine TabW.below HT.out ?_; repeat (first | (with_reducible first | exact HB.out | apply below_alloc | apply pw_below_drewN | apply below_drew1 | refine below_set ?_ GE175.out) | exact HB.out | exact Below.refl _ _))
 (case side1 => repeat (first | exact (Kd.C_below HR0_6.out HB.out) | (with_reducible refine Kd.C_alloc ?_ _) | (with_reducible refine Kd.C_drewN ?_ _) | (with_reducible refine Kd.C_drew ?_)))
 (case side2 => exact HC0_6.out)
 rintro e w9 ⟨rfl, hb⟩
 refine ⟨_, rfl, ?_⟩
 have n0_ := Aside0.mk (blk_below (g := gb175) (o := .cells #[.string a0_0, .int .i64 a0_1, .int .i64 a0_2, .int .i64 a0_3, .int .i64 a0_4, .int .i64 a0_5, .slice A0_6 l0_6.length c0_6, .int .u64 a0_7, .int .u64 a0_8] 30 (0, 0)) (by (with_reducible repeat (first | refine blk_drewN ?_ _ | refine blk_drew ?_ | refine blk_alloc ?_ _)); exact BK175.out) hb)
 have n1_ := Aside0.mk (below_step (by repeat (first | (with_reducible first | exact HB.out | apply below_alloc | apply pw_below_drewN | apply below_drew1 | refine below_set ?_ GE175.out) | exact HB.out)) hb)
 clear BK175
 clear HB
 have BK175 := n0_
 have HB := n1_
 clear n0_ n1_
 (try clear hb)
 (try clear hb2)
 (try clear hk)
 (try clear hi)
 refine hK.out _ _ ⟨(blk_cell BK175.out 0).trans rfl, (blk_cell BK175.out 1).trans rfl, (blk_cell BK175.out 2).trans rfl, (blk_cell BK175.out 3).trans rfl, (blk_cell BK175.out 4).trans rfl, (blk_cell BK175.out 5).trans rfl, (blk_cell BK175.out 6).trans rfl, (blk_cell BK175.out 7).trans rfl, (blk_cell BK175.out 8).trans rfl⟩ (fun hHeld => ?_)
 clear hK K
 refine norm_ (a' := ?_) ?_ ?_
 rotate_left
 ·show Act.put _ (some 15) _ = _
  simp only [Act.put, List.setIfInBounds_toArray, List.set_cons_zero, List.set_cons_succ, i64_w, i32_w]
  rfl
 refine one_ (i := 10) (N := some 16) #[true, true, true, true, true, true, true, true, true, true, true, false] rfl rfl (one_of HT_.out (by kernel_rfl)) (by decide) (fun K hK => ?_)
 refine Kd.R_lit_step Kd.string _ 9 ?hg (N := 16) ?hd (xs := ([(⟨#[116, 97, 115, 107]⟩ : ByteArray), a0_0, (⟨#[112, 101, 114, 105, 111, 100]⟩ : ByteArray), t176, (⟨#[100, 101, 97, 100, 108, 105, 110, 101]⟩ : ByteArray), t177, t178, (⟨#[114, 101, 103, 105, 111, 110, 115]⟩ : ByteArray)] : List ByteArray)) (inner := [.string (⟨#[116, 97, 115, 107]⟩ : ByteArray), .string a0_0, .string (⟨#[112, 101, 114, 105, 111, 100]⟩ : ByteArray), .string t176, .string (⟨#[100, 101, 97, 100, 108, 105, 110, 101]⟩ : ByteArray), .string t177, .string t178, .string (⟨#[114, 101, 103, 105, 111, 110, 115]⟩ : ByteArray)]) (ok := fun _ => True) (okp := fun _ => True) ?hr ?hp (fun _ hk => hk) trivial (Below.refl _ _) (Nat.le_refl _) (by simp) ?_; (case hd => rfl); (case hg => rfl); (case hr => first | (go_simp; done) | (go_simp; rfl)); (case hp => exact (Reps.one (show Kd.M Kd.string _ _ _ (⟨#[116, 97, 115, 107]⟩ : ByteArray) [.string (⟨#[116, 97, 115, 107]⟩ : ByteArray)] from rfl) (Reps.one (show Kd.M Kd.string _ _ _ a0_0 [.string a0_0] from rfl) (Reps.one (show Kd.M Kd.string _ _ _ (⟨#[112, 101, 114, 105, 111, 100]⟩ : ByteArray) [.string (⟨#[112, 101, 114, 105, 111, 100]⟩ : ByteArray)] from rfl) (Reps.one (show Kd.M Kd.string _ _ _ t176 [.string t176] from rfl) (Reps.one (show Kd.M Kd.string _ _ _ (⟨#[100, 101, 97, 100, 108, 105, 110, 101]⟩ : ByteArray) [.string (⟨#[100, 101, 97, 100, 108, 105, 110, 101]⟩ : ByteArray)] from rfl) (Reps.one (show Kd.M Kd.string _ _ _ t177 [.string t177] from rfl) (Reps.one (show Kd.M Kd.string _ _ _ t178 [.string t178] from rfl) (Reps.one (show Kd.M Kd.string _ _ _ (⟨#[114, 101, 103, 105, 111, 110, 115]⟩ : ByteArray) [.string (⟨#[114, 101, 103, 105, 111, 110, 115]⟩ : ByteArray)] from rfl) (Reps.none _ _))))))))))
 intro v180 w10 ho11 hb hg_ hnew_
 clear hg_ hnew_
 (first | rw [← Ny179.out] at ho11 | (simp only [Int.reduceToNat] at ho11; rw [← Ny179.out] at ho11))
 have n0_ := Aside0.mk (Kd.R_lower ho11 (below_size (by repeat (first | (with_reducible first | exact HB.out | apply below_alloc | apply pw_below_drewN | apply below_drew1 | refine below_set ?_ GE175.out) | exact HB.out))))
 have n1_ := Aside0.mk (blk_below (g := gb175) (o := .cells #[.string a0_0, .int .i64 a0_1, .int .i64 a0_2, .int .i64 a0_3, .int .i64 a0_4, .int .i64 a0_5, .slice A0_6 l0_6.length c0_6, .int .u64 a0_7, .int .u64 a0_8] 30 (0, 0)) (by (with_reducible repeat (first | refine blk_drewN ?_ _ | refine blk_drew ?_ | refine blk_alloc ?_ _)); exact BK175.out) hb)
 have n2_ := Aside0.mk (below_step (by repeat (first | (with_reducible first | exact HB.out | apply below_alloc | apply pw_below_drewN | apply below_drew1 | refine below_set ?_ GE175.out) | exact HB.out)) hb)
 clear BK175
 clear HB
 have HO181 := n0_
 have BK175 := n1_
 have HB := n2_
 clear n0_ n1_ n2_
 clear hb ho11
 refine hK.out _ _ ⟨(blk_cell BK175.out 0).trans rfl, (blk_cell BK175.out 1).trans rfl, (blk_cell BK175.out 2).trans rfl, (blk_cell BK175.out 3).trans rfl, (blk_cell BK175.out 4).trans rfl, (blk_cell BK175.out 5).trans rfl, (blk_cell BK175.out 6).trans rfl, (blk_cell BK175.out 7).trans rfl, (blk_cell BK175.out 8).trans rfl⟩ (fun hHeld => ?_)
 clear hK K
 refine norm_ (a' := ?_) ?_ ?_
 rotate_left
 ·show Act.put _ (some 16) _ = _
  simp only [Act.put, List.setIfInBounds_toArray, List.set_cons_zero, List.set_cons_succ, i64_w, i32_w]
  rfl
 refine pure_ (i := 11) (N := some 3) (v := ?_) (a' := ?_) #[true, true, true, true, true, true, true, true, true, true, true, true] rfl rfl (any_of HT_.out (by kernel_rfl)) (fun _ _ _ h => h) (Or.inl ⟨by rfl, ?_⟩) ?_ ?_
 rotate_left
 ·intro w'
  go_simp
  with_reducible rfl
 rotate_left
 ·simp only [Act.put, List.setIfInBounds_toArray, List.set_cons_zero, List.set_cons_succ, i64_w, i32_w]
  rfl
 refine done_ (done_of HT_.out (by kernel_rfl)) ?_
 have hcz12_0 : w10.cell? ⟨gb175, 0, none⟩ = some (.string a0_0) := (blk_cell BK175.out 0).trans rfl
 have hcz12_1 : w10.cell? ⟨gb175, 1, none⟩ = some (.int .i64 a0_1) := (blk_cell BK175.out 1).trans rfl
 have hcz12_2 : w10.cell? ⟨gb175, 2, none⟩ = some (.int .i64 a0_2) := (blk_cell BK175.out 2).trans rfl
 have hcz12_3 : w10.cell? ⟨gb175, 3, none⟩ = some (.int .i64 a0_3) := (blk_cell BK175.out 3).trans rfl
 have hcz12_4 : w10.cell? ⟨gb175, 4, none⟩ = some (.int .i64 a0_4) := (blk_cell BK175.out 4).trans rfl
 have hcz12_5 : w10.cell? ⟨gb175, 5, none⟩ = some (.int .i64 a0_5) := (blk_cell BK175.out 5).trans rfl
 have hcz12_6 : w10.cell? ⟨gb175, 6, none⟩ = some (.slice A0_6 l0_6.length c0_6) := (blk_cell BK175.out 6).trans rfl
 have hcz12_7 : w10.cell? ⟨gb175, 7, none⟩ = some (.int .u64 a0_7) := (blk_cell BK175.out 7).trans rfl
 have hcz12_8 : w10.cell? ⟨gb175, 8, none⟩ = some (.int .u64 a0_8) := (blk_cell BK175.out 8).trans rfl
 have hfz12_0 := blk_frozen BK175.out 0
 have hfz12_1 := blk_frozen BK175.out 1
 have hfz12_2 := blk_frozen BK175.out 2
 have hfz12_3 := blk_frozen BK175.out 3
 have hfz12_4 := blk_frozen BK175.out 4
 have hfz12_5 := blk_frozen BK175.out 5
 have hfz12_6 := blk_frozen BK175.out 6
 have hfz12_7 := blk_frozen BK175.out 7
 have hfz12_8 := blk_frozen BK175.out 8
 try go_wp2
 go_loopg [3, 20] k (fun kq v3 v20 w' => ∃ (x3_1 : List ByteArray) (x20_1 : Int), v20 = .int .i64 x20_1 ∧ Aside0 (show_Task.l0 kq x3_1 l0_6 (l0_6.length : Int) x20_1 a0_0 a0_1 a0_2 a0_3 a0_4 a0_5 l0_6 a0_7 a0_8 = some r) ∧ Aside0 (kq ≤ k) ∧ Aside0 (Kd.R Kd.string 9 w' w.heap.size (fun _ => True) v3 x3_1) ∧ Aside0 (w'.heap[gb175]? = some (.cells #[.string a0_0, .int .i64 a0_1, .int .i64 a0_2, .int .i64 a0_3, .int .i64 a0_4, .int .i64 a0_5, (.slice A0_6 l0_6.length c0_6), .int .u64 a0_7, .int .u64 a0_8] 30 (0, 0))) ∧ Aside0 (Below w.heap.size w w'))
 case atStart => exact ⟨(y179), (0), (by first | rfl | (simp; done) | (simp [*]; done)), H', ⟨Nat.le_refl _⟩, ⟨by (with_reducible repeat (first | apply Kd.R_alloc | apply Kd.R_drewN | apply Kd.R_drew)); exact HO181.out⟩, ⟨by (with_reducible repeat (first | refine blk_drewN ?_ _ | refine blk_drew ?_ | refine blk_alloc ?_ _)); exact BK175.out⟩, ⟨by repeat (first | (with_reducible first | exact HB.out | apply below_alloc | apply pw_below_drewN | apply below_drew1 | refine below_set ?_ GE175.out) | exact HB.out)⟩⟩
 case round =>
  clear H'
  try clear c1
  try clear c2
  try clear p2
  try clear c11
  try clear hcz12_0
  try clear hcz12_1
  try clear hcz12_2
  try clear hcz12_3
  try clear hcz12_4
  try clear hcz12_5
  try clear hcz12_6
  try clear hcz12_7
  try clear hcz12_8
  try clear hfz12_0
  try clear hfz12_1
  try clear hfz12_2
  try clear hfz12_3
  try clear hfz12_4
  try clear hfz12_5
  try clear hfz12_6
  try clear hfz12_7
  try clear hfz12_8
  obtain ⟨x3_1, x20_1, rfl, HA, HK1, HO_3, BK175, HB⟩ := hrel
  cases gk with
  | zero => exact absurd HA.out (by simp [show_Task.l0])
  | succ k1 =>
   have H := HA.out
   clear HA
   simp only [show_Task.l0] at H
   by_cases c13 : x20_1 < (l0_6.length : Int)
   ·rw [if_pos c13] at H
    have c13b0 : decide (x20_1 < (l0_6.length : Int)) = true := decide_eq_true c13
    clear c13
    by_cases c14 : 0 ≤ x20_1
    ·rw [if_pos c14] at H
     have c14b0 : decide (0 ≤ x20_1) = true := decide_eq_true c14
     clear c14
     by_cases c15 : x20_1 < (l0_6.length : Int)
     ·rw [if_pos c15] at H
      have c15b0 : decide (x20_1 < (l0_6.length : Int)) = true := decide_eq_true c15
      clear c15
      replace H := Option.bind_eq_some_iff.mp H
      obtain ⟨t183, A160, H⟩ := H
      replace H : (if x3_1.length < 8796093022208 then (show_Task.l0 k1 (x3_1 ++ [t183]) l0_6 (l0_6.length : Int) (wrap64 (x20_1 + 1)) a0_0 a0_1 a0_2 a0_3 a0_4 a0_5 l0_6 a0_7 a0_8) else (none)) = some r := H
      have A16 := Aside0.mk A160
      clear A160
      by_cases c17 : x3_1.length < 8796093022208
      ·rw [if_pos c17] at H
       have LMc17 := Aside0.mk c17
       clear c17
       obtain ⟨y184, hy184⟩ : ∃ y_ : List ByteArray, y_ = (x3_1 ++ [t183]) := ⟨_, rfl⟩
       replace H : (show_Task.l0 k1 y184 l0_6 (l0_6.length : Int) (wrap64 (x20_1 + 1)) a0_0 a0_1 a0_2 a0_3 a0_4 a0_5 l0_6 a0_7 a0_8) = some r := by first | (rw [hy184]; with_reducible exact H) | (have H2_ := (Option.bind_some _ _).symm.trans H; rw [hy184]; with_reducible exact H2_) | (have H2_ := (Option.bind_some _ _).symm.trans H; with_reducible exact H2_) | with_reducible exact H | (rw [hy184]; exact H) | exact H
       have Ny184 := Aside0.mk hy184
       clear hy184
       have H' := Aside0.mk H
       clear H
       have p182 : 0 ≤ (x20_1 : Int) := of_decide_eq_true (by first | (with_reducible assumption) | assumption)
       have q182 : x20_1 < (l0_6.length : Int) := of_decide_eq_true (by first | (with_reducible assumption) | assumption)
       obtain ⟨ad182, e182, hx182_0⟩ := Kd.at_int HR0_6.out x20_1 p182 q182
       cases e182
       replace hx182_0 := (HB.out.cell (World.block_lt_of_cell? w _ hx182_0)).trans hx182_0
       replace p182 := eq_true p182
       replace q182 := eq_true q182
       go_wp2_with (first | ((with_reducible refine gate_callee (f := 27) rfl ?_); refine goesL_ (some 26) rfl rfl Tryd.func27 (by kernel_rfl) rfl #[.int .i64 (rd l0_6 x20_1)] rfl (by (try simp only [List.map_toArray, List.map_cons, List.map_nil]); first | done | rfl | (simp only [List.length_drop, List.length_take]; rfl)) ?_; (with_reducible refine (show_num.calls (hT := ?sideT) (rd l0_6 x20_1) t183 _ A16.out).mono ?_); (case sideT => first | with_reducible exact HT.out | refine TabW.below HT.out ?_; repeat (first | (with_reducible first | exact HB.out | apply below_alloc | apply pw_below_drewN | apply below_drew1 | refine below_set ?_ GE175.out) | exact HB.out | exact Below.refl _ _)); rintro e w18 ⟨rfl, hb⟩; refine ⟨_, rfl, ?_⟩; have n0_ := Aside0.mk (Kd.R_below (by (with_reducible repeat (first | apply Kd.R_alloc | apply Kd.R_drewN | apply Kd.R_drew)); exact HO_3.out) hb); have n1_ := Aside0.mk (blk_below (g := gb175) (o := .cells #[.string a0_0, .int .i64 a0_1, .int .i64 a0_2, .int .i64 a0_3, .int .i64 a0_4, .int .i64 a0_5, .slice (some ad182) l0_6.length c0_6, .int .u64 a0_7, .int .u64 a0_8] 30 (0, 0)) (by (with_reducible repeat (first | refine blk_drewN ?_ _ | refine blk_drew ?_ | refine blk_alloc ?_ _)); exact BK175.out) hb); have n2_ := Aside0.mk (below_step (by repeat (first | (with_reducible first | exact HB.out | apply below_alloc | apply pw_below_drewN | apply below_drew1 | refine below_set ?_ GE175.out) | exact HB.out)) hb); clear HO_3; clear BK175; clear HB; have HO_3 := n0_; have BK175 := n1_; have HB := n2_; clear n0_ n1_ n2_; (try clear hb); (try clear hb2); (try clear hk); (try clear hi)) | ((with_reducible refine gate_builtin (b := .append) (xs := #[.tmp 24, .tmp 27]) rfl ?_); at_builtin; refine Kd.R_append Kd.string (w0 := w) w.heap.size rfl (.tmp 24) (.tmp 27) 42 9 (.string ⟨#[]⟩) 16 rfl Tryd.underlying42 info9 rfl (by decide) (by omega) u3 x3_1 t183 [.string t183] (fun _ => True) (fun _ => False) rfl rfl ?aP (fun _ hk => hk.elim) ?aF ?aO ?aB ?aS ?aL ?_; (case aP => exact rfl); (case aB => exact (by repeat (first | (with_reducible first | exact HB.out | apply below_alloc | apply pw_below_drewN | apply below_drew1 | refine below_set ?_ GE175.out) | exact HB.out))); (case aF => exact (fun _ _ => trivial)); (case aO => exact (by (with_reducible repeat (first | apply Kd.R_alloc | apply Kd.R_drewN | apply Kd.R_drew)); exact HO_3.out)); (case aS => exact (below_size (by repeat (first | (with_reducible first | exact HB.out | apply below_alloc | apply pw_below_drewN | apply below_drew1 | refine below_set ?_ GE175.out) | exact HB.out)))); (case aL => have := LMc17.out; omega); intro v185 w19 ho hb hg hat; rw [← Ny184.out] at ho; have n0_ := Aside0.mk (blk_grown (g := gb175) (o := .cells #[.string a0_0, .int .i64 a0_1, .int .i64 a0_2, .int .i64 a0_3, .int .i64 a0_4, .int .i64 a0_5, .slice (some ad182) l0_6.length c0_6, .int .u64 a0_7, .int .u64 a0_8] 30 (0, 0)) (by (with_reducible repeat (first | refine blk_drewN ?_ _ | refine blk_drew ?_ | refine blk_alloc ?_ _)); exact BK175.out) hg (Kd.R_ne HO_3.out BK175.out (by decide))); have n1_ := Aside0.mk (hb); have n2_ := Aside0.mk (ho); clear BK175; clear HB; clear HO_3; have BK175 := n0_; have HB := n1_; have HO186 := n2_; clear n0_ n1_ n2_; clear ho hb hg hat))
       go_roundg k1
       case measure => have := HK1.out; omega
       case rel => exact ⟨(y184), (wrap64 (x20_1 + 1)), (by first | rfl | (simp; done) | (simp [*]; done)), H', ⟨by have := HK1.out; omega⟩, ⟨by (with_reducible repeat (first | apply Kd.R_alloc | apply Kd.R_drewN | apply Kd.R_drew)); exact HO186.out⟩, ⟨by (with_reducible repeat (first | refine blk_drewN ?_ _ | refine blk_drew ?_ | refine blk_alloc ?_ _)); exact BK175.out⟩, ⟨by repeat (first | (with_reducible first | exact HB.out | apply below_alloc | apply pw_below_drewN | apply below_drew1 | refine below_set ?_ GE175.out) | exact HB.out)⟩⟩
      ·rw [if_neg c17] at H
       exact absurd H (by simp)
     ·rw [if_neg c15] at H
      exact absurd H (by simp)
    ·rw [if_neg c14] at H
     exact absurd H (by simp)
   ·rw [if_neg c13] at H
    have c13b0 : decide (x20_1 < (l0_6.length : Int)) = false := decide_eq_false c13
    clear c13
    replace H := Option.bind_eq_some_iff.mp H
    obtain ⟨t187, A200, H⟩ := H
    replace H : (if x3_1.length + t187.length < 8796093022208 then ((some (x3_1 ++ t187 : List ByteArray)).bind fun y190 => ((show_sets.f k1 (⟨#[117, 99, 98]⟩ : ByteArray) a0_8).bind fun t193 => (if y190.length + t193.length < 8796093022208 then ((strings_Join.f (y190 ++ t193) (⟨#[32]⟩ : ByteArray)).bind fun t199 => (if t199.size + 1 ≤ 9223372036854775807 then (some (t199 ++ (⟨#[59]⟩ : ByteArray))) else (none))) else (none)))) else (none)) = some r := H
    have A20 := Aside0.mk A200
    clear A200
    by_cases c21 : x3_1.length + t187.length < 8796093022208
    ·rw [if_pos c21] at H
     have LMc21 := Aside0.mk c21
     clear c21
     obtain ⟨y190, hy190⟩ : ∃ y_ : List ByteArray, y_ = (x3_1 ++ t187) := ⟨_, rfl⟩
     replace H : ((show_sets.f k1 (⟨#[117, 99, 98]⟩ : ByteArray) a0_8).bind fun t193 => (if y190.length + t193.length < 8796093022208 then ((strings_Join.f (y190 ++ t193) (⟨#[32]⟩ : ByteArray)).bind fun t199 => (if t199.size + 1 ≤ 9223372036854775807 then (some (t199 ++ (⟨#[59]⟩ : ByteArray))) else (none))) else (none))) = some r := by first | (rw [hy190]; with_reducible exact H) | (have H2_ := (Option.bind_some _ _).symm.trans H; rw [hy190]; with_reducible exact H2_) | (have H2_ := (Option.bind_some _ _).symm.trans H; with_reducible exact H2_) | with_reducible exact H | (rw [hy190]; exact H) | exact H
     have Ny190 := Aside0.mk hy190
     clear hy190
     replace H := Option.bind_eq_some_iff.mp H
     obtain ⟨t193, A220, H⟩ := H
     replace H : (if y190.length + t193.length < 8796093022208 then ((strings_Join.f (y190 ++ t193) (⟨#[32]⟩ : ByteArray)).bind fun t199 => (if t199.size + 1 ≤ 9223372036854775807 then (some (t199 ++ (⟨#[59]⟩ : ByteArray))) else (none))) else (none)) = some r := H
     have A22 := Aside0.mk A220
     clear A220
     by_cases c23 : y190.length + t193.length < 8796093022208
     ·rw [if_pos c23] at H
      have LMc23 := Aside0.mk c23
      clear c23
      obtain ⟨y196, hy196⟩ : ∃ y_ : List ByteArray, y_ = (y190 ++ t193) := ⟨_, rfl⟩
      replace H : ((strings_Join.f y196 (⟨#[32]⟩ : ByteArray)).bind fun t199 => (if t199.size + 1 ≤ 9223372036854775807 then (some (t199 ++ (⟨#[59]⟩ : ByteArray))) else (none))) = some r := by first | (rw [hy196]; with_reducible exact H) | (have H2_ := (Option.bind_some _ _).symm.trans H; rw [hy196]; with_reducible exact H2_) | (have H2_ := (Option.bind_some _ _).symm.trans H; with_reducible exact H2_) | with_reducible exact H | (rw [hy196]; exact H) | exact H
      have Ny196 := Aside0.mk hy196
      clear hy196
      replace H := Option.bind_eq_some_iff.mp H
      obtain ⟨t199, A240, H⟩ := H
      replace H : (if t199.size + 1 ≤ 9223372036854775807 then (some (t199 ++ (⟨#[59]⟩ : ByteArray))) else (none)) = some r := H
      have A24 := Aside0.mk A240
      clear A240
      by_cases c25 : t199.size + 1 ≤ 9223372036854775807
      ·rw [if_pos c25] at H
       have c25b0 := eq_true c25
       have c25b1 : decide (t199.size + 1 ≤ 9223372036854775807) = true := decide_eq_true c25
       try have c25b2 : (9223372036854775807 < t199.size + 1) = False := eq_false (Nat.not_lt.2 c25)
       obtain rfl := Option.some.inj H
       have hcz26_0 : wr.cell? ⟨gb175, 0, none⟩ = some (.string a0_0) := (blk_cell BK175.out 0).trans rfl
       have hcz26_1 : wr.cell? ⟨gb175, 1, none⟩ = some (.int .i64 a0_1) := (blk_cell BK175.out 1).trans rfl
       have hcz26_2 : wr.cell? ⟨gb175, 2, none⟩ = some (.int .i64 a0_2) := (blk_cell BK175.out 2).trans rfl
       have hcz26_3 : wr.cell? ⟨gb175, 3, none⟩ = some (.int .i64 a0_3) := (blk_cell BK175.out 3).trans rfl
       have hcz26_4 : wr.cell? ⟨gb175, 4, none⟩ = some (.int .i64 a0_4) := (blk_cell BK175.out 4).trans rfl
       have hcz26_5 : wr.cell? ⟨gb175, 5, none⟩ = some (.int .i64 a0_5) := (blk_cell BK175.out 5).trans rfl
       have hcz26_6 : wr.cell? ⟨gb175, 6, none⟩ = some (.slice A0_6 l0_6.length c0_6) := (blk_cell BK175.out 6).trans rfl
       have hcz26_7 : wr.cell? ⟨gb175, 7, none⟩ = some (.int .u64 a0_7) := (blk_cell BK175.out 7).trans rfl
       have hcz26_8 : wr.cell? ⟨gb175, 8, none⟩ = some (.int .u64 a0_8) := (blk_cell BK175.out 8).trans rfl
       have hfz26_0 := blk_frozen BK175.out 0
       have hfz26_1 := blk_frozen BK175.out 1
       have hfz26_2 := blk_frozen BK175.out 2
       have hfz26_3 := blk_frozen BK175.out 3
       have hfz26_4 := blk_frozen BK175.out 4
       have hfz26_5 := blk_frozen BK175.out 5
       have hfz26_6 := blk_frozen BK175.out 6
       have hfz26_7 := blk_frozen BK175.out 7
       have hfz26_8 := blk_frozen BK175.out 8
       go_wp2_with (first | ((with_reducible refine gate_callee (f := 29) rfl ?_); refine goesL_ (some 33) rfl rfl Tryd.func29 (by kernel_rfl) rfl #[.string (⟨#[101, 99, 98]⟩ : ByteArray), .int .u64 a0_7] rfl (by (try simp only [List.map_toArray, List.map_cons, List.map_nil]); first | done | rfl | (simp only [List.length_drop, List.length_take]; rfl)) ?_; (with_reducible refine (show_sets.calls (hT := ?sideT) k1 (⟨#[101, 99, 98]⟩ : ByteArray) a0_7 t187 _ A20.out).mono ?_); (case sideT => first | with_reducible exact HT.out | refine TabW.below HT.out ?_; repeat (first | (with_reducible first | exact HB.out | apply below_alloc | apply pw_below_drewN | apply below_drew1 | refine below_set ?_ GE175.out) | exact HB.out | exact Below.refl _ _)); rintro e w27 ⟨v188, rfl, ho0, hb⟩; refine ⟨_, rfl, ?_⟩; have n0_ := Aside0.mk (Kd.R_elder' (by (with_reducible repeat (first | apply Kd.R_alloc | apply Kd.R_drewN | apply Kd.R_drew)); exact HO_3.out) (Kd.R_base ho0) hb); have n1_ := Aside0.mk (Kd.R_lower (Kd.R_new' ho0 (Kd.R_lt (by (with_reducible repeat (first | apply Kd.R_alloc | apply Kd.R_drewN | apply Kd.R_drew)); exact HO_3.out))) (below_size (by repeat (first | (with_reducible first | exact HB.out | apply below_alloc | apply pw_below_drewN | apply below_drew1 | refine below_set ?_ GE175.out) | exact HB.out)))); have n2_ := Aside0.mk (blk_below (g := gb175) (o := .cells #[.string a0_0, .int .i64 a0_1, .int .i64 a0_2, .int .i64 a0_3, .int .i64 a0_4, .int .i64 a0_5, .slice A0_6 l0_6.length c0_6, .int .u64 a0_7, .int .u64 a0_8] 30 (0, 0)) (by (with_reducible repeat (first | refine blk_drewN ?_ _ | refine blk_drew ?_ | refine blk_alloc ?_ _)); exact BK175.out) hb); have n3_ := Aside0.mk (below_step (by repeat (first | (with_reducible first | exact HB.out | apply below_alloc | apply pw_below_drewN | apply below_drew1 | refine below_set ?_ GE175.out) | exact HB.out)) hb); clear HO_3; clear BK175; clear HB; have HO_3 := n0_; have HO189 := n1_; have BK175 := n2_; have HB := n3_; clear n0_ n1_ n2_ n3_; (try clear hb); (try clear hb2); (try clear hk); (try clear hi); (try clear ho0); obtain ⟨Ao29, co29, eo29⟩ := Kd.R_slice HO189.out; subst eo29) | ((with_reducible refine gate_builtin (b := .append) (xs := #[.tmp 30, .tmp 33]) rfl ?_); at_builtin; refine Kd.R_append_rows Kd.string (w0 := w) w.heap.size rfl (.tmp 30) (.tmp 33) 42 9 (.string ⟨#[]⟩) 16 rfl Tryd.underlying42 info9 rfl (by decide) (by omega) u3 x3_1 t187 _ _ _ (fun k_ => some k_ ≠ (.slice Ao29 t187.length co29 : Value).ownBlock) (fun _ => False) rfl rfl ?aO ?aR (fun _ _ h => h) (fun _ h => h.elim) ?aF ?aB ?aS ?aL ?_; (case aR => repeat (first | exact (Kd.R_reads' HO189.out).2.2 | (with_reducible refine Kd.C_alloc ?_ _) | (with_reducible refine Kd.C_drewN ?_ _) | (with_reducible refine Kd.C_drew ?_))); (case aB => exact (by repeat (first | (with_reducible first | exact HB.out | apply below_alloc | apply pw_below_drewN | apply below_drew1 | refine below_set ?_ GE175.out) | exact HB.out))); (case aF => exact (fun k_ hk => Kd.fresh' (Kd.R_lt (by (with_reducible repeat (first | apply Kd.R_alloc | apply Kd.R_drewN | apply Kd.R_drew)); exact HO189.out)) k_ hk)); (case aO => exact (by (with_reducible repeat (first | apply Kd.R_alloc | apply Kd.R_drewN | apply Kd.R_drew)); exact Kd.R_mono HO_3.out (fun _ hk => hk.2))); (case aS => exact (below_size (by repeat (first | (with_reducible first | exact HB.out | apply below_alloc | apply pw_below_drewN | apply below_drew1 | refine below_set ?_ GE175.out) | exact HB.out)))); (case aL => have := LMc21.out; omega); intro v191 w28 ho hb hg hat; rw [← Ny190.out] at ho; have n0_ := Aside0.mk (blk_grown (g := gb175) (o := .cells #[.string a0_0, .int .i64 a0_1, .int .i64 a0_2, .int .i64 a0_3, .int .i64 a0_4, .int .i64 a0_5, .slice A0_6 l0_6.length c0_6, .int .u64 a0_7, .int .u64 a0_8] 30 (0, 0)) (by (with_reducible repeat (first | refine blk_drewN ?_ _ | refine blk_drew ?_ | refine blk_alloc ?_ _)); exact BK175.out) hg (Kd.R_ne HO_3.out BK175.out (by decide))); have n1_ := Aside0.mk (Kd.R_after (ok := (fun _ => True)) (by (with_reducible repeat (first | apply Kd.R_alloc | apply Kd.R_drewN | apply Kd.R_drew)); exact HO189.out) hg hat); have n2_ := Aside0.mk (hb); have n3_ := Aside0.mk (ho); clear BK175; clear HO189; clear HB; clear HO_3; have BK175 := n0_; have HO189 := n1_; have HB := n2_; have HO192 := n3_; clear n0_ n1_ n2_ n3_; clear ho hb hg hat; have hcz30_0 : w28.cell? ⟨gb175, 0, none⟩ = some (.string a0_0) := (blk_cell BK175.out 0).trans rfl; have hcz30_1 : w28.cell? ⟨gb175, 1, none⟩ = some (.int .i64 a0_1) := (blk_cell BK175.out 1).trans rfl; have hcz30_2 : w28.cell? ⟨gb175, 2, none⟩ = some (.int .i64 a0_2) := (blk_cell BK175.out 2).trans rfl; have hcz30_3 : w28.cell? ⟨gb175, 3, none⟩ = some (.int .i64 a0_3) := (blk_cell BK175.out 3).trans rfl; have hcz30_4 : w28.cell? ⟨gb175, 4, none⟩ = some (.int .i64 a0_4) := (blk_cell BK175.out 4).trans rfl; have hcz30_5 : w28.cell? ⟨gb175, 5, none⟩ = some (.int .i64 a0_5) := (blk_cell BK175.out 5).trans rfl; have hcz30_6 : w28.cell? ⟨gb175, 6, none⟩ = some (.slice A0_6 l0_6.length c0_6) := (blk_cell BK175.out 6).trans rfl; have hcz30_7 : w28.cell? ⟨gb175, 7, none⟩ = some (.int .u64 a0_7) := (blk_cell BK175.out 7).trans rfl; have hcz30_8 : w28.cell? ⟨gb175, 8, none⟩ = some (.int .u64 a0_8) := (blk_cell BK175.out 8).trans rfl; have hfz30_0 := blk_frozen BK175.out 0; have hfz30_1 := blk_frozen BK175.out 1; have hfz30_2 := blk_frozen BK175.out 2; have hfz30_3 := blk_frozen BK175.out 3; have hfz30_4 := blk_frozen BK175.out 4; have hfz30_5 := blk_frozen BK175.out 5; have hfz30_6 := blk_frozen BK175.out 6; have hfz30_7 := blk_frozen BK175.out 7; have hfz30_8 := blk_frozen BK175.out 8) | ((with_reducible refine gate_callee (f := 29) rfl ?_); refine goesL_ (some 38) rfl rfl Tryd.func29 (by kernel_rfl) rfl #[.string (⟨#[117, 99, 98]⟩ : ByteArray), .int .u64 a0_8] rfl (by (try simp only [List.map_toArray, List.map_cons, List.map_nil]); first | done | rfl | (simp only [List.length_drop, List.length_take]; rfl)) ?_; (with_reducible refine (show_sets.calls (hT := ?sideT) k1 (⟨#[117, 99, 98]⟩ : ByteArray) a0_8 t193 _ A22.out).mono ?_); (case sideT => first | with_reducible exact HT.out | refine TabW.below HT.out ?_; repeat (first | (with_reducible first | exact HB.out | apply below_alloc | apply pw_below_drewN | apply below_drew1 | refine below_set ?_ GE175.out) | exact HB.out | exact Below.refl _ _)); rintro e w31 ⟨v194, rfl, ho0, hb⟩; refine ⟨_, rfl, ?_⟩; have n0_ := Aside0.mk (Kd.R_elder' (by (with_reducible repeat (first | apply Kd.R_alloc | apply Kd.R_drewN | apply Kd.R_drew)); exact HO189.out) (Kd.R_base ho0) hb); have n1_ := Aside0.mk (Kd.R_elder' (by (with_reducible repeat (first | apply Kd.R_alloc | apply Kd.R_drewN | apply Kd.R_drew)); exact HO192.out) (Kd.R_base ho0) hb); have n2_ := Aside0.mk (Kd.R_lower (Kd.R_new' (Kd.R_new' ho0 (Kd.R_lt (by (with_reducible repeat (first | apply Kd.R_alloc | apply Kd.R_drewN | apply Kd.R_drew)); exact HO189.out))) (Kd.R_lt (by (with_reducible repeat (first | apply Kd.R_alloc | apply Kd.R_drewN | apply Kd.R_drew)); exact HO192.out))) (below_size (by repeat (first | (with_reducible first | exact HB.out | apply below_alloc | apply pw_below_drewN | apply below_drew1 | refine below_set ?_ GE175.out) | exact HB.out)))); have n3_ := Aside0.mk (blk_below (g := gb175) (o := .cells #[.string a0_0, .int .i64 a0_1, .int .i64 a0_2, .int .i64 a0_3, .int .i64 a0_4, .int .i64 a0_5, .slice A0_6 l0_6.length c0_6, .int .u64 a0_7, .int .u64 a0_8] 30 (0, 0)) (by (with_reducible repeat (first | refine blk_drewN ?_ _ | refine blk_drew ?_ | refine blk_alloc ?_ _)); exact BK175.out) hb); have n4_ := Aside0.mk (below_step (by repeat (first | (with_reducible first | exact HB.out | apply below_alloc | apply pw_below_drewN | apply below_drew1 | refine below_set ?_ GE175.out) | exact HB.out)) hb); clear HO189; clear HO192; clear BK175; clear HB; have HO189 := n0_; have HO192 := n1_; have HO195 := n2_; have BK175 := n3_; have HB := n4_; clear n0_ n1_ n2_ n3_ n4_; (try clear hb); (try clear hb2); (try clear hk); (try clear hi); (try clear ho0); obtain ⟨Ao33, co33, eo33⟩ := Kd.R_slice HO195.out; subst eo33) | ((with_reducible refine gate_builtin (b := .append) (xs := #[.tmp 35, .tmp 38]) rfl ?_); at_builtin; refine Kd.R_append_rows Kd.string (w0 := w) w.heap.size rfl (.tmp 35) (.tmp 38) 42 9 (.string ⟨#[]⟩) 16 rfl Tryd.underlying42 info9 rfl (by decide) (by omega) v191 y190 t193 _ _ _ (fun k_ => some k_ ≠ (.slice Ao29 t187.length co29 : Value).ownBlock ∧ some k_ ≠ (.slice Ao33 t193.length co33 : Value).ownBlock) (fun _ => False) rfl rfl ?aO ?aR (fun _ _ h => h) (fun _ h => h.elim) ?aF ?aB ?aS ?aL ?_; (case aR => repeat (first | exact (Kd.R_reads' HO195.out).2.2 | (with_reducible refine Kd.C_alloc ?_ _) | (with_reducible refine Kd.C_drewN ?_ _) | (with_reducible refine Kd.C_drew ?_))); (case aB => exact (by repeat (first | (with_reducible first | exact HB.out | apply below_alloc | apply pw_below_drewN | apply below_drew1 | refine below_set ?_ GE175.out) | exact HB.out))); (case aF => exact (fun k_ hk => ⟨Kd.fresh' (Kd.R_lt (by (with_reducible repeat (first | apply Kd.R_alloc | apply Kd.R_drewN | apply Kd.R_drew)); exact HO189.out)) k_ hk, Kd.fresh' (Kd.R_lt (by (with_reducible repeat (first | apply Kd.R_alloc | apply Kd.R_drewN | apply Kd.R_drew)); exact HO195.out)) k_ hk⟩)); (case aO => exact (by (with_reducible repeat (first | apply Kd.R_alloc | apply Kd.R_drewN | apply Kd.R_drew)); exact HO192.out)); (case aS => exact (below_size (by repeat (first | (with_reducible first | exact HB.out | apply below_alloc | apply pw_below_drewN | apply below_drew1 | refine below_set ?_ GE175.out) | exact HB.out)))); (case aL => have := LMc23.out; omega); intro v197 w32 ho hb hg hat; rw [← Ny196.out] at ho; have n0_ := Aside0.mk (blk_grown (g := gb175) (o := .cells #[.string a0_0, .int .i64 a0_1, .int .i64 a0_2, .int .i64 a0_3, .int .i64 a0_4, .int .i64 a0_5, .slice A0_6 l0_6.length c0_6, .int .u64 a0_7, .int .u64 a0_8] 30 (0, 0)) (by (with_reducible repeat (first | refine blk_drewN ?_ _ | refine blk_drew ?_ | refine blk_alloc ?_ _)); exact BK175.out) hg (Kd.R_ne HO192.out BK175.out (by decide))); have n1_ := Aside0.mk (Kd.R_after (ok := (fun k_ => some k_ ≠ (.slice Ao33 t193.length co33 : Value).ownBlock)) (by (with_reducible repeat (first | apply Kd.R_alloc | apply Kd.R_drewN | apply Kd.R_drew)); exact Kd.R_mono HO189.out (fun _ hk => ⟨hk.2, hk.1.2⟩)) hg hat); have n2_ := Aside0.mk (Kd.R_after (ok := (fun k_ => some k_ ≠ (.slice Ao29 t187.length co29 : Value).ownBlock)) (by (with_reducible repeat (first | apply Kd.R_alloc | apply Kd.R_drewN | apply Kd.R_drew)); exact Kd.R_mono HO195.out (fun _ hk => ⟨hk.1.2, hk.2⟩)) hg hat); have n3_ := Aside0.mk (hb); have n4_ := Aside0.mk (ho); clear BK175; clear HO189; clear HO195; clear HB; clear HO192; have BK175 := n0_; have HO189 := n1_; have HO195 := n2_; have HB := n3_; have HO198 := n4_; clear n0_ n1_ n2_ n3_ n4_; clear ho hb hg hat; obtain ⟨Ao34, co34, eo34⟩ := Kd.R_slice HO198.out; subst eo34) | ((with_reducible refine gate_callee (f := 30) rfl ?_); refine goesL_ (some 41) rfl rfl Tryd.func30 (by kernel_rfl) rfl #[.slice Ao34 y196.length co34, .string (⟨#[32]⟩ : ByteArray)] rfl (by (try simp only [List.map_toArray, List.map_cons, List.map_nil]); first | done | rfl | (simp only [List.length_drop, List.length_take]; rfl)) ?_; (with_reducible refine (strings_Join.calls _ _ y196 (⟨#[32]⟩ : ByteArray) t199 _ ?side1 ?side2 A24.out).mono ?_); (case side1 => repeat (first | exact (Kd.R_reads' HO198.out).2.2 | (with_reducible refine Kd.C_alloc ?_ _) | (with_reducible refine Kd.C_drewN ?_ _) | (with_reducible refine Kd.C_drew ?_))); (case side2 => exact (Kd.R_reads' HO198.out).2.1); rintro e w35 ⟨rfl, hb⟩; refine ⟨_, rfl, ?_⟩; have n0_ := Aside0.mk (Kd.R_below (by (with_reducible repeat (first | apply Kd.R_alloc | apply Kd.R_drewN | apply Kd.R_drew)); exact HO189.out) hb); have n1_ := Aside0.mk (Kd.R_below (by (with_reducible repeat (first | apply Kd.R_alloc | apply Kd.R_drewN | apply Kd.R_drew)); exact HO195.out) hb); have n2_ := Aside0.mk (Kd.R_below (by (with_reducible repeat (first | apply Kd.R_alloc | apply Kd.R_drewN | apply Kd.R_drew)); exact HO198.out) hb); have n3_ := Aside0.mk (blk_below (g := gb175) (o := .cells #[.string a0_0, .int .i64 a0_1, .int .i64 a0_2, .int .i64 a0_3, .int .i64 a0_4, .int .i64 a0_5, .slice A0_6 l0_6.length c0_6, .int .u64 a0_7, .int .u64 a0_8] 30 (0, 0)) (by (with_reducible repeat (first | refine blk_drewN ?_ _ | refine blk_drew ?_ | refine blk_alloc ?_ _)); exact BK175.out) hb); have n4_ := Aside0.mk (below_step (by repeat (first | (with_reducible first | exact HB.out | apply below_alloc | apply pw_below_drewN | apply below_drew1 | refine below_set ?_ GE175.out) | exact HB.out)) hb); clear HO189; clear HO195; clear HO198; clear BK175; clear HB; have HO189 := n0_; have HO195 := n1_; have HO198 := n2_; have BK175 := n3_; have HB := n4_; clear n0_ n1_ n2_ n3_ n4_; (try clear hb); (try clear hb2); (try clear hk); (try clear hi)))
       go_ret
       exact ⟨by first | rfl | (simp [errW_none, errW_some] <;> rfl) | (simp [*, errW_none, errW_some] <;> rfl), by repeat (first | (with_reducible first | exact HB.out | apply below_alloc | apply pw_below_drewN | apply below_drew1 | refine below_set ?_ GE175.out) | exact HB.out)⟩
      ·rw [if_neg c25] at H
       exact absurd H (by simp)
     ·rw [if_neg c23] at H
      exact absurd H (by simp)
    ·rw [if_neg c21] at H
     exact absurd H (by simp)
def show_Text.l0 : Nat → ByteArray → List (S30) → Int → Int → Option (ByteArray)
 | 0, _, _, _, _ => none
 | k + 1, x3, x12, x13, x14 => if x14 < x13 then (if 0 ≤ x14 then (if x14 < (x12.length : Int) then ((show_Task.f k ((rd_T30 x12 x14).f0) ((rd_T30 x12 x14).f1) ((rd_T30 x12 x14).f2) ((rd_T30 x12 x14).f3) ((rd_T30 x12 x14).f4) ((rd_T30 x12 x14).f5) ((rd_T30 x12 x14).f6) ((rd_T30 x12 x14).f7) ((rd_T30 x12 x14).f8)).bind fun t204 => (if t204.size + 1 ≤ 9223372036854775807 then (if x3.size + (t204 ++ (⟨#[10]⟩ : ByteArray)).size ≤ 9223372036854775807 then (show_Text.l0 k (x3 ++ (t204 ++ (⟨#[10]⟩ : ByteArray))) x12 x13 (wrap64 (x14 + 1))) else (none)) else (none))) else (none)) else (none)) else (some x3)
def show_Text.f (k : Nat) (a0_0 : Int) (l0_1 : List (S30)) : Option (ByteArray) := (show_num.f a0_0).bind fun t201 => (if 7 + t201.size ≤ 9223372036854775807 then (if ((⟨#[114, 101, 108, 111, 97, 100, 32]⟩ : ByteArray) ++ t201).size + 2 ≤ 9223372036854775807 then (show_Text.l0 k (((⟨#[114, 101, 108, 111, 97, 100, 32]⟩ : ByteArray) ++ t201) ++ (⟨#[59, 10]⟩ : ByteArray)) l0_1 (l0_1.length : Int) 0) else (none)) else (none))
set_option maxHeartbeats 8000000 in
set_option maxRecDepth 100000 in
theorem show_Text.calls (k : Nat) (a0_0 : Int) (A0_1 : Option Addr) (c0_1 : Nat) (l0_1 : List (S30)) (r : ByteArray) (w : World) (hr0_1 : Kd.C k30 w A0_1 l0_1.length l0_1) (hc0_1 : l0_1.length ≤ c0_1) (hT : TabW w) (h : show_Text.f k a0_0 l0_1 = some r) :
  Calls Tryd.prog 13 #[.agg #[.int .i64 a0_0, .slice A0_1 l0_1.length c0_1]] w fun e w' => e = .returned (.string r) ∧ Below w.heap.size w w' := by
 have HT := Aside0.mk hT
 clear hT
 have hu24 := Tryd.underlying24
 have hu30 := Tryd.underlying30
 have HR0_1 := Aside0.mk hr0_1
 have HC0_1 := Aside0.mk hc0_1
 clear hr0_1 hc0_1
 have HB := Aside0.mk (Below.refl w.heap.size w)
 have H : ((show_num.f a0_0).bind fun t201 => (if 7 + t201.size ≤ 9223372036854775807 then (if ((⟨#[114, 101, 108, 111, 97, 100, 32]⟩ : ByteArray) ++ t201).size + 2 ≤ 9223372036854775807 then (show_Text.l0 k (((⟨#[114, 101, 108, 111, 97, 100, 32]⟩ : ByteArray) ++ t201) ++ (⟨#[59, 10]⟩ : ByteArray)) l0_1 (l0_1.length : Int) 0) else (none)) else (none))) = some r := h
 clear h
 replace H := Option.bind_eq_some_iff.mp H
 obtain ⟨t201, A20, H⟩ := H
 replace H : (if 7 + t201.size ≤ 9223372036854775807 then (if ((⟨#[114, 101, 108, 111, 97, 100, 32]⟩ : ByteArray) ++ t201).size + 2 ≤ 9223372036854775807 then (show_Text.l0 k (((⟨#[114, 101, 108, 111, 97, 100, 32]⟩ : ByteArray) ++ t201) ++ (⟨#[59, 10]⟩ : ByteArray)) l0_1 (l0_1.length : Int) 0) else (none)) else (none)) = some r := H
 have A2 := Aside0.mk A20
 clear A20
 by_cases c3 : 7 + t201.size ≤ 9223372036854775807
 ·rw [if_pos c3] at H
  have c3b0 := eq_true c3
  have c3b1 : decide (7 + t201.size ≤ 9223372036854775807) = true := decide_eq_true c3
  try have c3b2 : (9223372036854775807 < 7 + t201.size) = False := eq_false (Nat.not_lt.2 c3)
  by_cases c4 : ((⟨#[114, 101, 108, 111, 97, 100, 32]⟩ : ByteArray) ++ t201).size + 2 ≤ 9223372036854775807
  ·rw [if_pos c4] at H
   have c4b0 := eq_true c4
   have c4b1 : decide (((⟨#[114, 101, 108, 111, 97, 100, 32]⟩ : ByteArray) ++ t201).size + 2 ≤ 9223372036854775807) = true := decide_eq_true c4
   try have c4b2 : (9223372036854775807 < ((⟨#[114, 101, 108, 111, 97, 100, 32]⟩ : ByteArray) ++ t201).size + 2) = False := eq_false (Nat.not_lt.2 c4)
   try have c4b3z : (9223372036854775807 < 7 + t201.size + 2) = False := eq_false (Nat.not_lt.2 (by have h_ := c4; simp only [ByteArray.size_append] at h_; exact h_))
   have H' := Aside0.mk H
   clear H
   go_enter Tryd.func13, Tryd.ntmps13
   go_wp2_with (first | ((with_reducible refine gate_dst (N := 1) rfl ?_); refine box_event ?hg (N := 1) ?hd (cs := #[.int .i64 a0_0, .slice A0_1 l0_1.length c0_1]) (t := 24) ?hr ?_; (case hd => rfl); (case hg => rfl); (case hr => first | (go_simp; done) | (go_simp; rfl)); intro gb200 hg w5 hbox hb; have n0_ := Aside0.mk (below_step (by repeat (first | (with_reducible first | exact HB.out | apply below_alloc | apply pw_below_drewN | apply below_drew1) | exact HB.out)) hb); have n1_ := Aside0.mk (hbox); have n2_ := Aside0.mk ((by rw [hg]; exact (below_size (by repeat (first | (with_reducible first | exact HB.out | apply below_alloc | apply pw_below_drewN | apply below_drew1) | exact HB.out))) : w.heap.size ≤ gb200)); have n3_ := Aside0.mk ((by rw [hg]; exact (below_size (by repeat (first | (with_reducible first | exact HB.out | apply below_alloc | apply pw_below_drewN | apply below_drew1) | exact HB.out))) : w.heap.size ≤ gb200)); clear HB; have HB := n0_; have BK200 := n1_; have GW200 := n2_; have GE200 := n3_; clear n0_ n1_ n2_ n3_; clear hb hbox hg; have hcz6_0 : w5.cell? ⟨gb200, 0, none⟩ = some (.int .i64 a0_0) := (blk_cell BK200.out 0).trans rfl; have hcz6_1 : w5.cell? ⟨gb200, 1, none⟩ = some (.slice A0_1 l0_1.length c0_1) := (blk_cell BK200.out 1).trans rfl; have hfz6_0 := blk_frozen BK200.out 0; have hfz6_1 := blk_frozen BK200.out 1) | ((with_reducible refine gate_callee (f := 27) rfl ?_); refine goesL_ (some 8) rfl rfl Tryd.func27 (by kernel_rfl) rfl #[.int .i64 a0_0] rfl (by (try simp only [List.map_toArray, List.map_cons, List.map_nil]); first | done | rfl | (simp only [List.length_drop, List.length_take]; rfl)) ?_; (with_reducible refine (show_num.calls (hT := ?sideT) a0_0 t201 _ A2.out).mono ?_); (case sideT => first | with_reducible exact HT.out | refine TabW.below HT.out ?_; repeat (first | (with_reducible first | exact HB.out | apply below_alloc | apply pw_below_drewN | apply below_drew1 | refine below_set ?_ GE200.out | refine below_set ?_ GE203.out) | exact HB.out | exact Below.refl _ _)); rintro e w7 ⟨rfl, hb⟩; refine ⟨_, rfl, ?_⟩; have n0_ := Aside0.mk (blk_below (g := gb200) (o := .cells #[.int .i64 a0_0, .slice A0_1 l0_1.length c0_1] 24 (0, 0)) (by (with_reducible repeat (first | refine blk_drewN ?_ _ | refine blk_drew ?_ | refine blk_alloc ?_ _)); exact BK200.out) hb); have n1_ := Aside0.mk (below_step (by repeat (first | (with_reducible first | exact HB.out | apply below_alloc | apply pw_below_drewN | apply below_drew1 | refine below_set ?_ GE200.out) | exact HB.out)) hb); clear BK200; clear HB; have BK200 := n0_; have HB := n1_; clear n0_ n1_; (try clear hb); (try clear hb2); (try clear hk); (try clear hi); have hcz8_0 : w7.cell? ⟨gb200, 0, none⟩ = some (.int .i64 a0_0) := (blk_cell BK200.out 0).trans rfl; have hcz8_1 : w7.cell? ⟨gb200, 1, none⟩ = some (.slice A0_1 l0_1.length c0_1) := (blk_cell BK200.out 1).trans rfl; have hfz8_0 := blk_frozen BK200.out 0; have hfz8_1 := blk_frozen BK200.out 1))
   go_loopg [3, 14] k (fun kq v3 v14 w' => ∃ (x3_1 : ByteArray) (x14_1 : Int), v3 = .string x3_1 ∧ v14 = .int .i64 x14_1 ∧ Aside0 (show_Text.l0 kq x3_1 l0_1 (l0_1.length : Int) x14_1 = some r) ∧ Aside0 (kq ≤ k) ∧ Aside0 (w'.heap[gb200]? = some (.cells #[.int .i64 a0_0, (.slice A0_1 l0_1.length c0_1)] 24 (0, 0))) ∧ Aside0 (Below w.heap.size w w'))
   case atStart => exact ⟨(((⟨#[114, 101, 108, 111, 97, 100, 32]⟩ : ByteArray) ++ t201) ++ (⟨#[59, 10]⟩ : ByteArray)), (0), (by first | rfl | (simp; done) | (simp [*]; done)), (by first | rfl | (simp; done) | (simp [*]; done)), H', ⟨Nat.le_refl _⟩, ⟨by (with_reducible repeat (first | refine blk_drewN ?_ _ | refine blk_drew ?_ | refine blk_alloc ?_ _)); exact BK200.out⟩, ⟨by repeat (first | (with_reducible first | exact HB.out | apply below_alloc | apply pw_below_drewN | apply below_drew1 | refine below_set ?_ GE200.out) | exact HB.out)⟩⟩
   case round =>
    clear H'
    try clear c1
    try clear c2
    try clear p2
    try clear c3
    try clear c3b0
    try clear c3b1
    try clear c3b2
    try clear c4
    try clear c4b0
    try clear c4b1
    try clear c4b2
    try clear hcz6_0
    try clear hcz6_1
    try clear hcz8_0
    try clear hcz8_1
    try clear hfz6_0
    try clear hfz6_1
    try clear hfz8_0
    try clear hfz8_1
    obtain ⟨x3_1, x14_1, rfl, rfl, HA, HK1, BK200, HB⟩ := hrel
    cases gk with
    | zero => exact absurd HA.out (by simp [show_Text.l0])
    | succ k1 =>
     have H := HA.out
     clear HA
     simp only [show_Text.l0] at H
     by_cases c9 : x14_1 < (l0_1.length : Int)
     ·rw [if_pos c9] at H
      have c9b0 : decide (x14_1 < (l0_1.length : Int)) = true := decide_eq_true c9
      clear c9
      by_cases c10 : 0 ≤ x14_1
      ·rw [if_pos c10] at H
       have c10b0 : decide (0 ≤ x14_1) = true := decide_eq_true c10
       clear c10
       by_cases c11 : x14_1 < (l0_1.length : Int)
       ·rw [if_pos c11] at H
        have c11b0 : decide (x14_1 < (l0_1.length : Int)) = true := decide_eq_true c11
        clear c11
        replace H := Option.bind_eq_some_iff.mp H
        obtain ⟨t204, A120, H⟩ := H
        replace H : (if t204.size + 1 ≤ 9223372036854775807 then (if x3_1.size + (t204 ++ (⟨#[10]⟩ : ByteArray)).size ≤ 9223372036854775807 then (show_Text.l0 k1 (x3_1 ++ (t204 ++ (⟨#[10]⟩ : ByteArray))) l0_1 (l0_1.length : Int) (wrap64 (x14_1 + 1))) else (none)) else (none)) = some r := H
        have A12 := Aside0.mk A120
        clear A120
        by_cases c13 : t204.size + 1 ≤ 9223372036854775807
        ·rw [if_pos c13] at H
         have c13b0 := eq_true c13
         have c13b1 : decide (t204.size + 1 ≤ 9223372036854775807) = true := decide_eq_true c13
         try have c13b2 : (9223372036854775807 < t204.size + 1) = False := eq_false (Nat.not_lt.2 c13)
         by_cases c14 : x3_1.size + (t204 ++ (⟨#[10]⟩ : ByteArray)).size ≤ 9223372036854775807
         ·rw [if_pos c14] at H
          have c14b0 := eq_true c14
          have c14b1 : decide (x3_1.size + (t204 ++ (⟨#[10]⟩ : ByteArray)).size ≤ 9223372036854775807) = true := decide_eq_true c14
          try have c14b2 : (9223372036854775807 < x3_1.size + (t204 ++ (⟨#[10]⟩ : ByteArray)).size) = False := eq_false (Nat.not_lt.2 c14)
          try have c14b3z : (9223372036854775807 < x3_1.size + t204.size + 1) = False := eq_false (Nat.not_lt.2 (by have h_ := c14; simp only [ByteArray.size_append] at h_; exact h_))
          have H' := Aside0.mk H
          clear H
          have p202 : 0 ≤ (x14_1 : Int) := of_decide_eq_true (by first | (with_reducible assumption) | assumption)
          have q202 : x14_1 < (l0_1.length : Int) := of_decide_eq_true (by first | (with_reducible assumption) | assumption)
          obtain ⟨ad202, A202_6, c202_6, e202, hx202_0, hx202_1, hx202_2, hx202_3, hx202_4, hx202_5, hx202_6, hx202_7, hx202_8, hl202_6, hi202_6⟩ := at_T30 HR0_1.out x14_1 p202 q202
          cases e202
          replace hx202_0 := (HB.out.cell (World.block_lt_of_cell? w _ hx202_0)).trans hx202_0
          replace hx202_1 := (HB.out.cell (World.block_lt_of_cell? w _ hx202_1)).trans hx202_1
          replace hx202_2 := (HB.out.cell (World.block_lt_of_cell? w _ hx202_2)).trans hx202_2
          replace hx202_3 := (HB.out.cell (World.block_lt_of_cell? w _ hx202_3)).trans hx202_3
          replace hx202_4 := (HB.out.cell (World.block_lt_of_cell? w _ hx202_4)).trans hx202_4
          replace hx202_5 := (HB.out.cell (World.block_lt_of_cell? w _ hx202_5)).trans hx202_5
          replace hx202_6 := (HB.out.cell (World.block_lt_of_cell? w _ hx202_6)).trans hx202_6
          replace hx202_7 := (HB.out.cell (World.block_lt_of_cell? w _ hx202_7)).trans hx202_7
          replace hx202_8 := (HB.out.cell (World.block_lt_of_cell? w _ hx202_8)).trans hx202_8
          have HR202_6 := Aside0.mk hi202_6
          have HC202_6 := Aside0.mk hl202_6
          clear hi202_6 hl202_6
          replace p202 := eq_true p202
          replace q202 := eq_true q202
          go_wp2_with (first | ((with_reducible refine gate_dst (N := 5) rfl ?_); refine box_event ?hg (N := 5) ?hd (cs := #[.string (⟨#[]⟩ : ByteArray), .int .i64 0, .int .i64 0, .int .i64 0, .int .i64 0, .int .i64 0, .slice none 0 0, .int .u64 0, .int .u64 0]) (t := 30) ?hr ?_; (case hd => rfl); (case hg => rfl); (case hr => first | (go_simp; done) | (go_simp; rfl)); intro gb203 hg w15 hbox hb; have n0_ := Aside0.mk (blk_below (g := gb200) (o := .cells #[.int .i64 a0_0, .slice (some ad202) l0_1.length c0_1] 24 (0, 0)) (by (with_reducible repeat (first | refine blk_drewN ?_ _ | refine blk_drew ?_ | refine blk_alloc ?_ _)); exact BK200.out) hb); have n1_ := Aside0.mk (below_step (by repeat (first | (with_reducible first | exact HB.out | apply below_alloc | apply pw_below_drewN | apply below_drew1 | refine below_set ?_ GE200.out) | exact HB.out)) hb); have n2_ := Aside0.mk (hbox); have n3_ := Aside0.mk ((by rw [hg]; exact (below_size (by repeat (first | (with_reducible first | exact HB.out | apply below_alloc | apply pw_below_drewN | apply below_drew1 | refine below_set ?_ GE200.out) | exact HB.out))) : w.heap.size ≤ gb203)); have n4_ := Aside0.mk ((by rw [hg]; exact (below_size (by repeat (first | (with_reducible first | exact HB.out | apply below_alloc | apply pw_below_drewN | apply below_drew1 | refine below_set ?_ GE200.out) | exact HB.out))) : w.heap.size ≤ gb203)); have n5_ := Aside0.mk ((by rw [hg]; exact Nat.ne_of_lt (blk_lt (g := gb200) (o := .cells #[.int .i64 a0_0, .slice (some ad202) l0_1.length c0_1] 24 (0, 0)) (by (with_reducible repeat (first | refine blk_drewN ?_ _ | refine blk_drew ?_ | refine blk_alloc ?_ _)); exact BK200.out)) : gb200 ≠ gb203)); have n6_ := Aside0.mk ((by rw [hg]; exact Nat.ne_of_gt (blk_lt (g := gb200) (o := .cells #[.int .i64 a0_0, .slice (some ad202) l0_1.length c0_1] 24 (0, 0)) (by (with_reducible repeat (first | refine blk_drewN ?_ _ | refine blk_drew ?_ | refine blk_alloc ?_ _)); exact BK200.out)) : gb203 ≠ gb200)); clear BK200; clear HB; have BK200 := n0_; have HB := n1_; have BK203 := n2_; have GW203 := n3_; have GE203 := n4_; have NB200_203 := n5_; have NB203_200 := n6_; clear n0_ n1_ n2_ n3_ n4_ n5_ n6_; clear hb hbox hg; have hnb16 := NB203_200.out; have hnc16 := NB200_203.out; have hcz17_0 : w15.cell? ⟨gb203, 0, none⟩ = some (.string (⟨#[]⟩ : ByteArray)) := (blk_cell BK203.out 0).trans rfl; have hcz17_1 : w15.cell? ⟨gb203, 1, none⟩ = some (.int .i64 0) := (blk_cell BK203.out 1).trans rfl; have hcz17_2 : w15.cell? ⟨gb203, 2, none⟩ = some (.int .i64 0) := (blk_cell BK203.out 2).trans rfl; have hcz17_3 : w15.cell? ⟨gb203, 3, none⟩ = some (.int .i64 0) := (blk_cell BK203.out 3).trans rfl; have hcz17_4 : w15.cell? ⟨gb203, 4, none⟩ = some (.int .i64 0) := (blk_cell BK203.out 4).trans rfl; have hcz17_5 : w15.cell? ⟨gb203, 5, none⟩ = some (.int .i64 0) := (blk_cell BK203.out 5).trans rfl; have hcz17_6 : w15.cell? ⟨gb203, 6, none⟩ = some (.slice none 0 0) := (blk_cell BK203.out 6).trans rfl; have hcz17_7 : w15.cell? ⟨gb203, 7, none⟩ = some (.int .u64 0) := (blk_cell BK203.out 7).trans rfl; have hcz17_8 : w15.cell? ⟨gb203, 8, none⟩ = some (.int .u64 0) := (blk_cell BK203.out 8).trans rfl; have hfz17_0 := blk_frozen BK203.out 0; have hfz17_1 := blk_frozen BK203.out 1; have hfz17_2 := blk_frozen BK203.out 2; have hfz17_3 := blk_frozen BK203.out 3; have hfz17_4 := blk_frozen BK203.out 4; have hfz17_5 := blk_frozen BK203.out 5; have hfz17_6 := blk_frozen BK203.out 6; have hfz17_7 := blk_frozen BK203.out 7; have hfz17_8 := blk_frozen BK203.out 8) | ((with_reducible refine gate_callee (f := 11) rfl ?_); refine goesL_ (some 20) rfl rfl Tryd.func11 (by kernel_rfl) rfl #[.agg #[.string ((rd_T30 l0_1 x14_1).f0), .int .i64 ((rd_T30 l0_1 x14_1).f1), .int .i64 ((rd_T30 l0_1 x14_1).f2), .int .i64 ((rd_T30 l0_1 x14_1).f3), .int .i64 ((rd_T30 l0_1 x14_1).f4), .int .i64 ((rd_T30 l0_1 x14_1).f5), .slice A202_6 ((rd_T30 l0_1 x14_1).f6).length c202_6, .int .u64 ((rd_T30 l0_1 x14_1).f7), .int .u64 ((rd_T30 l0_1 x14_1).f8)]] rfl (by (try simp only [List.map_toArray, List.map_cons, List.map_nil]); first | done | rfl | (simp only [List.length_drop, List.length_take]; rfl)) ?_; (with_reducible refine (show_Task.calls (hT := ?sideT) k1 ((rd_T30 l0_1 x14_1).f0) ((rd_T30 l0_1 x14_1).f1) ((rd_T30 l0_1 x14_1).f2) ((rd_T30 l0_1 x14_1).f3) ((rd_T30 l0_1 x14_1).f4) ((rd_T30 l0_1 x14_1).f5) _ _ ((rd_T30 l0_1 x14_1).f6) ((rd_T30 l0_1 x14_1).f7) ((rd_T30 l0_1 x14_1).f8) t204 _ ?side1 ?side2 A12.out).mono ?_); (case sideT => first | with_reducible exact HT.out | refine TabW.below HT.out ?_; repeat (first | (with_reducible first | exact HB.out | apply below_alloc | apply pw_below_drewN | apply below_drew1 | refine below_set ?_ GE200.out | refine below_set ?_ GE203.out) | exact HB.out | exact Below.refl _ _)); (case side1 => exact Kd.C_below HR202_6.out (by repeat (first | (with_reducible first | exact HB.out | apply below_alloc | apply pw_below_drewN | apply below_drew1 | refine below_set ?_ GE200.out | refine below_set ?_ GE203.out) | exact HB.out))); (case side2 => exact HC202_6.out); rintro e w18 ⟨rfl, hb⟩; refine ⟨_, rfl, ?_⟩; have n0_ := Aside0.mk (blk_below (g := gb200) (o := .cells #[.int .i64 a0_0, .slice (some ad202) l0_1.length c0_1] 24 (0, 0)) (by (with_reducible repeat (first | refine blk_drewN ?_ _ | refine blk_drew ?_ | refine blk_alloc ?_ _)); refine blk_far ?_ NB200_203.out _; (with_reducible repeat (first | refine blk_drewN ?_ _ | refine blk_drew ?_ | refine blk_alloc ?_ _)); refine blk_far ?_ NB200_203.out _; (with_reducible repeat (first | refine blk_drewN ?_ _ | refine blk_drew ?_ | refine blk_alloc ?_ _)); refine blk_far ?_ NB200_203.out _; (with_reducible repeat (first | refine blk_drewN ?_ _ | refine blk_drew ?_ | refine blk_alloc ?_ _)); refine blk_far ?_ NB200_203.out _; (with_reducible repeat (first | refine blk_drewN ?_ _ | refine blk_drew ?_ | refine blk_alloc ?_ _)); refine blk_far ?_ NB200_203.out _; (with_reducible repeat (first | refine blk_drewN ?_ _ | refine blk_drew ?_ | refine blk_alloc ?_ _)); refine blk_far ?_ NB200_203.out _; (with_reducible repeat (first | refine blk_drewN ?_ _ | refine blk_drew ?_ | refine blk_alloc ?_ _)); refine blk_far ?_ NB200_203.out _; (with_reducible repeat (first | refine blk_drewN ?_ _ | refine blk_drew ?_ | refine blk_alloc ?_ _)); refine blk_far ?_ NB200_203.out _; (with_reducible repeat (first | refine blk_drewN ?_ _ | refine blk_drew ?_ | refine blk_alloc ?_ _)); refine blk_far ?_ NB200_203.out _; (with_reducible repeat (first | refine blk_drewN ?_ _ | refine blk_drew ?_ | refine blk_alloc ?_ _)); exact BK200.out) hb); have n1_ := Aside0.mk (blk_below (g := gb203) (o := .cells #[.string ((rd_T30 l0_1 x14_1).f0), .int .i64 ((rd_T30 l0_1 x14_1).f1), .int .i64 ((rd_T30 l0_1 x14_1).f2), .int .i64 ((rd_T30 l0_1 x14_1).f3), .int .i64 ((rd_T30 l0_1 x14_1).f4), .int .i64 ((rd_T30 l0_1 x14_1).f5), .slice A202_6 ((rd_T30 l0_1 x14_1).f6).length c202_6, .int .u64 ((rd_T30 l0_1 x14_1).f7), .int .u64 ((rd_T30 l0_1 x14_1).f8)] 30 (0, 0)) (by (with_reducible repeat (first | refine blk_drewN ?_ _ | refine blk_drew ?_ | refine blk_alloc ?_ _)); refine blk_put (cs := #[.string ((rd_T30 l0_1 x14_1).f0), .int .i64 ((rd_T30 l0_1 x14_1).f1), .int .i64 ((rd_T30 l0_1 x14_1).f2), .int .i64 ((rd_T30 l0_1 x14_1).f3), .int .i64 ((rd_T30 l0_1 x14_1).f4), .int .i64 ((rd_T30 l0_1 x14_1).f5), .slice A202_6 ((rd_T30 l0_1 x14_1).f6).length c202_6, .int .u64 ((rd_T30 l0_1 x14_1).f7), .int .u64 0]) ?_ 8 _ rfl; (with_reducible repeat (first | refine blk_drewN ?_ _ | refine blk_drew ?_ | refine blk_alloc ?_ _)); refine blk_put (cs := #[.string ((rd_T30 l0_1 x14_1).f0), .int .i64 ((rd_T30 l0_1 x14_1).f1), .int .i64 ((rd_T30 l0_1 x14_1).f2), .int .i64 ((rd_T30 l0_1 x14_1).f3), .int .i64 ((rd_T30 l0_1 x14_1).f4), .int .i64 ((rd_T30 l0_1 x14_1).f5), .slice A202_6 ((rd_T30 l0_1 x14_1).f6).length c202_6, .int .u64 0, .int .u64 0]) ?_ 7 _ rfl; (with_reducible repeat (first | refine blk_drewN ?_ _ | refine blk_drew ?_ | refine blk_alloc ?_ _)); refine blk_put (cs := #[.string ((rd_T30 l0_1 x14_1).f0), .int .i64 ((rd_T30 l0_1 x14_1).f1), .int .i64 ((rd_T30 l0_1 x14_1).f2), .int .i64 ((rd_T30 l0_1 x14_1).f3), .int .i64 ((rd_T30 l0_1 x14_1).f4), .int .i64 ((rd_T30 l0_1 x14_1).f5), .slice none 0 0, .int .u64 0, .int .u64 0]) ?_ 6 _ rfl; (with_reducible repeat (first | refine blk_drewN ?_ _ | refine blk_drew ?_ | refine blk_alloc ?_ _)); refine blk_put (cs := #[.string ((rd_T30 l0_1 x14_1).f0), .int .i64 ((rd_T30 l0_1 x14_1).f1), .int .i64 ((rd_T30 l0_1 x14_1).f2), .int .i64 ((rd_T30 l0_1 x14_1).f3), .int .i64 ((rd_T30 l0_1 x14_1).f4), .int .i64 0, .slice none 0 0, .int .u64 0, .int .u64 0]) ?_ 5 _ rfl; (with_reducible repeat (first | refine blk_drewN ?_ _ | refine blk_drew ?_ | refine blk_alloc ?_ _)); refine blk_put (cs := #[.string ((rd_T30 l0_1 x14_1).f0), .int .i64 ((rd_T30 l0_1 x14_1).f1), .int .i64 ((rd_T30 l0_1 x14_1).f2), .int .i64 ((rd_T30 l0_1 x14_1).f3), .int .i64 0, .int .i64 0, .slice none 0 0, .int .u64 0, .int .u64 0]) ?_ 4 _ rfl; (with_reducible repeat (first | refine blk_drewN ?_ _ | refine blk_drew ?_ | refine blk_alloc ?_ _)); refine blk_put (cs := #[.string ((rd_T30 l0_1 x14_1).f0), .int .i64 ((rd_T30 l0_1 x14_1).f1), .int .i64 ((rd_T30 l0_1 x14_1).f2), .int .i64 0, .int .i64 0, .int .i64 0, .slice none 0 0, .int .u64 0, .int .u64 0]) ?_ 3 _ rfl; (with_reducible repeat (first | refine blk_drewN ?_ _ | refine blk_drew ?_ | refine blk_alloc ?_ _)); refine blk_put (cs := #[.string ((rd_T30 l0_1 x14_1).f0), .int .i64 ((rd_T30 l0_1 x14_1).f1), .int .i64 0, .int .i64 0, .int .i64 0, .int .i64 0, .slice none 0 0, .int .u64 0, .int .u64 0]) ?_ 2 _ rfl; (with_reducible repeat (first | refine blk_drewN ?_ _ | refine blk_drew ?_ | refine blk_alloc ?_ _)); refine blk_put (cs := #[.string ((rd_T30 l0_1 x14_1).f0), .int .i64 0, .int .i64 0, .int .i64 0, .int .i64 0, .int .i64 0, .slice none 0 0, .int .u64 0, .int .u64 0]) ?_ 1 _ rfl; (with_reducible repeat (first | refine blk_drewN ?_ _ | refine blk_drew ?_ | refine blk_alloc ?_ _)); refine blk_put (cs := #[.string (⟨#[]⟩ : ByteArray), .int .i64 0, .int .i64 0, .int .i64 0, .int .i64 0, .int .i64 0, .slice none 0 0, .int .u64 0, .int .u64 0]) ?_ 0 _ rfl; (with_reducible repeat (first | refine blk_drewN ?_ _ | refine blk_drew ?_ | refine blk_alloc ?_ _)); exact BK203.out) hb); have n2_ := Aside0.mk (below_step (by repeat (first | (with_reducible first | exact HB.out | apply below_alloc | apply pw_below_drewN | apply below_drew1 | refine below_set ?_ GE200.out | refine below_set ?_ GE203.out) | exact HB.out)) hb); clear BK200; clear BK203; clear HB; have BK200 := n0_; have BK203 := n1_; have HB := n2_; clear n0_ n1_ n2_; (try clear hb); (try clear hb2); (try clear hk); (try clear hi)))
          go_roundg k1
          case measure => have := HK1.out; omega
          case rel => exact ⟨(x3_1 ++ (t204 ++ (⟨#[10]⟩ : ByteArray))), (wrap64 (x14_1 + 1)), (by first | rfl | (simp; done) | (simp [*]; done)), (by first | rfl | (simp; done) | (simp [*]; done)), H', ⟨by have := HK1.out; omega⟩, ⟨by (with_reducible repeat (first | refine blk_drewN ?_ _ | refine blk_drew ?_ | refine blk_alloc ?_ _)); exact BK200.out⟩, ⟨by repeat (first | (with_reducible first | exact HB.out | apply below_alloc | apply pw_below_drewN | apply below_drew1 | refine below_set ?_ GE200.out | refine below_set ?_ GE203.out) | exact HB.out)⟩⟩
         ·rw [if_neg c14] at H
          exact absurd H (by simp)
        ·rw [if_neg c13] at H
         exact absurd H (by simp)
       ·rw [if_neg c11] at H
        exact absurd H (by simp)
      ·rw [if_neg c10] at H
       exact absurd H (by simp)
     ·rw [if_neg c9] at H
      have c9b0 : decide (x14_1 < (l0_1.length : Int)) = false := decide_eq_false c9
      clear c9
      obtain rfl := Option.some.inj H
      go_wp2
      go_ret
      exact ⟨by first | rfl | (simp [errW_none, errW_some] <;> rfl) | (simp [*, errW_none, errW_some] <;> rfl), by repeat (first | (with_reducible first | exact HB.out | apply below_alloc | apply pw_below_drewN | apply below_drew1 | refine below_set ?_ GE200.out) | exact HB.out)⟩
  ·rw [if_neg c4] at H
   exact absurd H (by simp)
 ·rw [if_neg c3] at H
  exact absurd H (by simp)
def taskmasterlaw7_known.f (k : Nat)  : Option (Bool) := (show_Task.f k (⟨#[97]⟩ : ByteArray) 5 5 0 0 0 (([2, 1] : List Int)) 0 0).bind fun t208 => (some (t208.toList == ([116, 97, 115, 107, 32, 97, 32, 112, 101, 114, 105, 111, 100, 32, 53, 32, 100, 101, 97, 100, 108, 105, 110, 101, 32, 53, 32, 102, 105, 120, 101, 100, 32, 114, 101, 103, 105, 111, 110, 115, 32, 50, 32, 49, 59] : List UInt8)))
set_option maxHeartbeats 8000000 in
set_option maxRecDepth 100000 in
theorem taskmasterlaw7_known.calls (k : Nat)  (r : Bool) (w : World) (hT : TabW w) (h : taskmasterlaw7_known.f k  = some r) :
  Calls Tryd.prog 15 #[] w fun e w' => e = .returned (.bool r) ∧ Below w.heap.size w w' := by
 have HT := Aside0.mk hT
 clear hT
 have hu30 := Tryd.underlying30
 have HB := Aside0.mk (Below.refl w.heap.size w)
 have H : ((show_Task.f k (⟨#[97]⟩ : ByteArray) 5 5 0 0 0 (([2, 1] : List Int)) 0 0).bind fun t208 => (some (t208.toList == ([116, 97, 115, 107, 32, 97, 32, 112, 101, 114, 105, 111, 100, 32, 53, 32, 100, 101, 97, 100, 108, 105, 110, 101, 32, 53, 32, 102, 105, 120, 101, 100, 32, 114, 101, 103, 105, 111, 110, 115, 32, 50, 32, 49, 59] : List UInt8)))) = some r := h
 clear h
 obtain ⟨y205, hy205⟩ : ∃ y_ : List Int, y_ = (([2, 1] : List Int)) := ⟨_, rfl⟩
 replace H : ((show_Task.f k (⟨#[97]⟩ : ByteArray) 5 5 0 0 0 y205 0 0).bind fun t208 => (some (t208.toList == ([116, 97, 115, 107, 32, 97, 32, 112, 101, 114, 105, 111, 100, 32, 53, 32, 100, 101, 97, 100, 108, 105, 110, 101, 32, 53, 32, 102, 105, 120, 101, 100, 32, 114, 101, 103, 105, 111, 110, 115, 32, 50, 32, 49, 59] : List UInt8)))) = some r := by first | (rw [hy205]; with_reducible exact H) | (have H2_ := (Option.bind_some _ _).symm.trans H; rw [hy205]; with_reducible exact H2_) | (have H2_ := (Option.bind_some _ _).symm.trans H; with_reducible exact H2_) | with_reducible exact H | (rw [hy205]; exact H) | exact H
 have Ny205 := Aside0.mk hy205
 clear hy205
 replace H := Option.bind_eq_some_iff.mp H
 obtain ⟨t208, A10, H⟩ := H
 replace H : (some (t208.toList == ([116, 97, 115, 107, 32, 97, 32, 112, 101, 114, 105, 111, 100, 32, 53, 32, 100, 101, 97, 100, 108, 105, 110, 101, 32, 53, 32, 102, 105, 120, 101, 100, 32, 114, 101, 103, 105, 111, 110, 115, 32, 50, 32, 49, 59] : List UInt8))) = some r := H
 have A1 := Aside0.mk A10
 clear A10
 obtain rfl := Option.some.inj H
 go_enter Tryd.func15, Tryd.ntmps15
 go_wp2_with (first | ((with_reducible refine gate_dst (N := 1) rfl ?_); refine Kd.R_lit (Kd.int .i64) _ 2 ?hg (N := 1) ?hd (xs := ([2, 1] : List Int)) (inner := [.int .i64 2, .int .i64 1]) (ok := fun _ => True) (okp := fun _ => True) ?hr ?hp (fun _ hk => hk) trivial (Below.refl _ _) (Nat.le_refl _) (by simp) ?_; (case hd => rfl); (case hg => rfl); (case hr => first | (go_simp; done) | (go_simp; rfl)); (case hp => exact (Reps.one (show Kd.M (Kd.int .i64) _ _ _ 2 [.int .i64 2] from rfl) (Reps.one (show Kd.M (Kd.int .i64) _ _ _ 1 [.int .i64 1] from rfl) (Reps.none _ _)))); intro v206 w2 ho3 hb hg_ hnew_; clear hg_ hnew_; (first | rw [← Ny205.out] at ho3 | (simp only [Int.reduceToNat] at ho3; rw [← Ny205.out] at ho3)); have n0_ := Aside0.mk (Kd.R_lower ho3 (below_size (by repeat (first | (with_reducible first | exact HB.out | apply below_alloc | apply pw_below_drewN | apply below_drew1) | exact HB.out)))); have n1_ := Aside0.mk (below_step (by repeat (first | (with_reducible first | exact HB.out | apply below_alloc | apply pw_below_drewN | apply below_drew1) | exact HB.out)) hb); clear HB; have HO207 := n0_; have HB := n1_; clear n0_ n1_; clear hb ho3; obtain ⟨Ao4, co4, eo4⟩ := Kd.R_slice HO207.out; subst eo4) | ((with_reducible refine gate_callee (f := 11) rfl ?_); refine goesL_ (some 3) rfl rfl Tryd.func11 (by kernel_rfl) rfl #[.agg #[.string (⟨#[97]⟩ : ByteArray), .int .i64 5, .int .i64 5, .int .i64 0, .int .i64 0, .int .i64 0, .slice Ao4 y205.length co4, .int .u64 0, .int .u64 0]] rfl (by (try simp only [List.map_toArray, List.map_cons, List.map_nil]); first | done | rfl | (simp only [List.length_drop, List.length_take]; rfl)) ?_; (with_reducible refine (show_Task.calls (hT := ?sideT) k (⟨#[97]⟩ : ByteArray) 5 5 0 0 0 _ _ y205 0 0 t208 _ ?side1 ?side2 A1.out).mono ?_); (case sideT => first | with_reducible exact HT.out | refine TabW.below HT.out ?_; repeat (first | (with_reducible first | exact HB.out | apply below_alloc | apply pw_below_drewN | apply below_drew1) | exact HB.out | exact Below.refl _ _)); (case side1 => repeat (first | exact (Kd.R_reads' HO207.out).2.2 | (with_reducible refine Kd.C_alloc ?_ _) | (with_reducible refine Kd.C_drewN ?_ _) | (with_reducible refine Kd.C_drew ?_))); (case side2 => exact (Kd.R_reads' HO207.out).2.1); rintro e w5 ⟨rfl, hb⟩; refine ⟨_, rfl, ?_⟩; have n0_ := Aside0.mk (Kd.R_below (by (with_reducible repeat (first | apply Kd.R_alloc | apply Kd.R_drewN | apply Kd.R_drew)); exact HO207.out) hb); have n1_ := Aside0.mk (below_step (by repeat (first | (with_reducible first | exact HB.out | apply below_alloc | apply pw_below_drewN | apply below_drew1) | exact HB.out)) hb); clear HO207; clear HB; have HO207 := n0_; have HB := n1_; clear n0_ n1_; (try clear hb); (try clear hb2); (try clear hk); (try clear hi)))
 go_ret
 exact ⟨by first | rfl | (simp [errW_none, errW_some] <;> rfl) | (simp [*, errW_none, errW_some] <;> rfl), by repeat (first | (with_reducible first | exact HB.out | apply below_alloc | apply pw_below_drewN | apply below_drew1) | exact HB.out)⟩
def taskmasterref5_Nums.l0 : Nat → List Int → List Int → Int → Option (Bool)
 | 0, _, _, _ => none
 | k + 1, x0, x1, x5 => if x5 < (x0.length : Int) then (if 0 ≤ x5 then (if x5 < (x1.length : Int) then (if (rd x0 x5) = (rd x1 x5) then (taskmasterref5_Nums.l0 k x0 x1 (wrap64 (x5 + 1))) else (some false)) else (none)) else (none)) else (some true)
def taskmasterref5_Nums.f (k : Nat) (l0 : List Int) (l1 : List Int) : Option (Bool) := if (l0.length : Int) = (l1.length : Int) then (taskmasterref5_Nums.l0 k l0 l1 0) else (some false)
set_option maxHeartbeats 8000000 in
set_option maxRecDepth 100000 in
theorem taskmasterref5_Nums.calls (k : Nat) (A0 : Option Addr) (c0 : Nat) (l0 : List Int) (A1 : Option Addr) (c1 : Nat) (l1 : List Int) (r : Bool) (w : World) (hr0 : Kd.C (Kd.int .i64) w A0 l0.length l0) (hc0 : l0.length ≤ c0) (hr1 : Kd.C (Kd.int .i64) w A1 l1.length l1) (hc1 : l1.length ≤ c1) (h : taskmasterref5_Nums.f k l0 l1 = some r) :
  Calls Tryd.prog 38 #[.slice A0 l0.length c0, .slice A1 l1.length c1] w fun e w' => e = .returned (.bool r) ∧ Drawn0 w w' := by
 have HR0 := Aside0.mk hr0
 have HC0 := Aside0.mk hc0
 clear hr0 hc0
 have HR1 := Aside0.mk hr1
 have HC1 := Aside0.mk hc1
 clear hr1 hc1
 have H : (if (l0.length : Int) = (l1.length : Int) then (taskmasterref5_Nums.l0 k l0 l1 0) else (some false)) = some r := h
 clear h
 by_cases c3 : (l0.length : Int) = (l1.length : Int)
 ·rw [if_pos c3] at H
  have c3b0 : ((l0.length : Int) == (l1.length : Int)) = true := beq_iff_eq.mpr c3
  have c3b1 : ((l0.length : Int) != (l1.length : Int)) = false := bne_eq_false_iff_eq.mpr c3
  have c3b2 : (l0.length == l1.length) = true := by first | simpa using c3 | (simp at c3 ⊢; omega)
  clear c3
  have H' := Aside0.mk H
  clear H
  go_enter Tryd.func38, Tryd.ntmps38
  go_wp2
  repeat (go_quiet (fail); try go_wp2)
  go_loopg [5] k (fun kq v5 w' => ∃ (x5_1 : Int), v5 = .int .i64 x5_1 ∧ Aside0 (taskmasterref5_Nums.l0 kq l0 l1 x5_1 = some r) ∧ Aside0 (kq ≤ k) ∧ Drawn0 w w')
  case atStart => exact ⟨(0), (by first | rfl | (simp; done) | (simp [*]; done)), H', ⟨Nat.le_refl _⟩, by repeat (first | exact Drawn0.refl _ | apply Drawn0.step)⟩
  case round =>
   clear H'
   try clear c1
   try clear p2
   try clear c3
   try clear c3b0
   try clear c3b1
   try clear c3b2
   obtain ⟨x5_1, rfl, HA, HK1, ⟨m1, rfl⟩⟩ := hrel
   cases gk with
   | zero => exact absurd HA.out (by simp [taskmasterref5_Nums.l0])
   | succ k1 =>
    have H := HA.out
    clear HA
    simp only [taskmasterref5_Nums.l0] at H
    by_cases c4 : x5_1 < (l0.length : Int)
    ·rw [if_pos c4] at H
     have c4b0 : decide (x5_1 < (l0.length : Int)) = true := decide_eq_true c4
     clear c4
     by_cases c5 : 0 ≤ x5_1
     ·rw [if_pos c5] at H
      have c5b0 : decide (0 ≤ x5_1) = true := decide_eq_true c5
      clear c5
      by_cases c6 : x5_1 < (l1.length : Int)
      ·rw [if_pos c6] at H
       have c6b0 : decide (x5_1 < (l1.length : Int)) = true := decide_eq_true c6
       clear c6
       by_cases c7 : (rd l0 x5_1) = (rd l1 x5_1)
       ·rw [if_pos c7] at H
        have c7b0 : ((rd l0 x5_1) == (rd l1 x5_1)) = true := beq_iff_eq.mpr c7
        have c7b1 : ((rd l0 x5_1) != (rd l1 x5_1)) = false := bne_eq_false_iff_eq.mpr c7
        clear c7
        have H' := Aside0.mk H
        clear H
        have p366 : 0 ≤ (x5_1 : Int) := of_decide_eq_true (by first | (with_reducible assumption) | assumption)
        have q366 : x5_1 < (l0.length : Int) := of_decide_eq_true (by first | (with_reducible assumption) | assumption)
        obtain ⟨ad366, e366, hx366_0⟩ := Kd.at_int HR0.out x5_1 p366 q366
        cases e366
        replace p366 := eq_true p366
        replace q366 := eq_true q366
        have p367 : 0 ≤ (x5_1 : Int) := of_decide_eq_true (by first | (with_reducible assumption) | assumption)
        have q367 : x5_1 < (l1.length : Int) := of_decide_eq_true (by first | (with_reducible assumption) | assumption)
        obtain ⟨ad367, e367, hx367_0⟩ := Kd.at_int HR1.out x5_1 p367 q367
        cases e367
        replace p367 := eq_true p367
        replace q367 := eq_true q367
        go_wp2
        repeat (go_quiet (fail); try go_wp2)
        go_roundg k1
        case measure => have := HK1.out; omega
        case rel => exact ⟨(wrap64 (x5_1 + 1)), (by first | rfl | (simp; done) | (simp [*]; done)), H', ⟨by have := HK1.out; omega⟩, by repeat (first | exact Drawn0.refl _ | apply Drawn0.step)⟩
       ·rw [if_neg c7] at H
        have c7b0 : ((rd l0 x5_1) == (rd l1 x5_1)) = false := beq_eq_false_iff_ne.mpr c7
        have c7b1 : ((rd l0 x5_1) != (rd l1 x5_1)) = true := bne_iff_ne.mpr c7
        obtain rfl := Option.some.inj H
        have p366 : 0 ≤ (x5_1 : Int) := of_decide_eq_true (by first | (with_reducible assumption) | assumption)
        have q366 : x5_1 < (l0.length : Int) := of_decide_eq_true (by first | (with_reducible assumption) | assumption)
        obtain ⟨ad366, e366, hx366_0⟩ := Kd.at_int HR0.out x5_1 p366 q366
        cases e366
        replace p366 := eq_true p366
        replace q366 := eq_true q366
        have p367 : 0 ≤ (x5_1 : Int) := of_decide_eq_true (by first | (with_reducible assumption) | assumption)
        have q367 : x5_1 < (l1.length : Int) := of_decide_eq_true (by first | (with_reducible assumption) | assumption)
        obtain ⟨ad367, e367, hx367_0⟩ := Kd.at_int HR1.out x5_1 p367 q367
        cases e367
        replace p367 := eq_true p367
        replace q367 := eq_true q367
        go_wp2
        repeat (go_quiet (fail); try go_wp2)
        go_ret
        exact ⟨by first | rfl | (simp; done) | (simp [*]; done), by repeat (first | exact Drawn0.refl _ | apply Drawn0.step)⟩
      ·rw [if_neg c6] at H
       exact absurd H (by simp)
     ·rw [if_neg c5] at H
      exact absurd H (by simp)
    ·rw [if_neg c4] at H
     have c4b0 : decide (x5_1 < (l0.length : Int)) = false := decide_eq_false c4
     clear c4
     obtain rfl := Option.some.inj H
     go_wp2
     repeat (go_quiet (fail); try go_wp2)
     go_ret
     exact ⟨by first | rfl | (simp; done) | (simp [*]; done), by repeat (first | exact Drawn0.refl _ | apply Drawn0.step)⟩
 ·rw [if_neg c3] at H
  have c3b0 : ((l0.length : Int) == (l1.length : Int)) = false := beq_eq_false_iff_ne.mpr c3
  have c3b1 : ((l0.length : Int) != (l1.length : Int)) = true := bne_iff_ne.mpr c3
  have c3b2 : (l0.length == l1.length) = false := by first | simpa using c3 | (simp at c3 ⊢; omega)
  obtain rfl := Option.some.inj H
  go_enter Tryd.func38, Tryd.ntmps38
  go_wp2
  repeat (go_quiet (fail); try go_wp2)
  go_ret
  exact ⟨by first | rfl | (simp; done) | (simp [*]; done), by repeat (first | exact Drawn0.refl _ | apply Drawn0.step)⟩
end Go.Proofs.YtkdndgclldlddaaDoor.QSb
namespace Go.Proofs.YtkdndgclldlddaaDoor.QSb
open Go.RowKit Go.Proofs.YtkdndgclldlddaaDoorW.PrintWords Go.Proofs.YtkdndgclldlddaaDoorW.PrintLast Go.Proofs.YtkdndgclldlddaaDoorW.PrintMore
set_option linter.unusedVariables false
def ref5_differ.f (a0 : ByteArray) (a1 a2 a3 a4 a5 : Int) (a6 : List Int) (a7 a8 : Int) (b0 : ByteArray) (b1 b2 b3 b4 b5 : Int) (b6 : List Int) (b7 b8 : Int) : Option Bool :=
  if a6.length ≤ 1000 ∧ b6.length ≤ 1000 then
    some (if a0.toList = b0.toList then if a1 = b1 then if a2 = b2 then if a3 = b3 then if a4 = b4 then if a5 = b5 then if a7 = b7 then if a8 = b8 then !decide (a6 = b6) else true else true else true else true else true else true else true else true)
  else none
theorem far9 {w : World} {g : Nat} {p : Addr} {v : Value} {u0 u1 u2 u3 u4 u5 u6 u7 u8 : Value} (hg : p.block ≠ g) (h : w.cell? p = some v) :
    (((((((((w.setCell ⟨g, 0, none⟩ u0).setCell ⟨g, 1, none⟩ u1).setCell ⟨g, 2, none⟩ u2).setCell ⟨g, 3, none⟩ u3).setCell ⟨g, 4, none⟩ u4).setCell ⟨g, 5, none⟩ u5).setCell ⟨g, 6, none⟩ u6).setCell ⟨g, 7, none⟩ u7).setCell ⟨g, 8, none⟩ u8).cell? p = some v := by
  rw [cell_far (p := ⟨g, 8, none⟩) hg, cell_far (p := ⟨g, 7, none⟩) hg, cell_far (p := ⟨g, 6, none⟩) hg, cell_far (p := ⟨g, 5, none⟩) hg, cell_far (p := ⟨g, 4, none⟩) hg, cell_far (p := ⟨g, 3, none⟩) hg, cell_far (p := ⟨g, 2, none⟩) hg, cell_far (p := ⟨g, 1, none⟩) hg, cell_far (p := ⟨g, 0, none⟩) hg]
  exact h
def NumsAre (a b : List Int) (v : Bool) : Prop := a.length ≤ 1000 ∧ b.length ≤ 1000 ∧ decide (a = b) = v
theorem rdD {l : List Int} {i : Nat} (h : i < l.length) : l.drop i = rd l (i : Int) :: l.drop (i + 1) := by
  rw [List.drop_eq_getElem_cons h]; unfold rd
  rw [Int.toNat_natCast, List.getD_eq_getElem?_getD, List.getElem?_eq_getElem h]; rfl
theorem nums_loop (a b : List Int) (hl : a.length = b.length) (h : a.length ≤ 1000) (d : Nat) : ∀ i k : Nat, i + d = a.length → d < k → taskmasterref5_Nums.l0 k a b (i : Int) = some (decide (a.drop i = b.drop i)) := by
  induction d with
  | zero =>
    intro i k hi hk
    obtain ⟨k, rfl⟩ : ∃ m, k = m + 1 := ⟨k - 1, by omega⟩
    rw [taskmasterref5_Nums.l0, if_neg (by omega), List.drop_eq_nil_of_le (by omega), List.drop_eq_nil_of_le (by omega)]; rfl
  | succ d ih =>
    intro i k hi hk
    obtain ⟨k, rfl⟩ : ∃ m, k = m + 1 := ⟨k - 1, by omega⟩
    have e : wrap64 ((i : Int) + 1) = ((i + 1 : Nat) : Int) := by unfold wrap64; omega
    rw [taskmasterref5_Nums.l0, if_pos (by omega), if_pos (by omega), if_pos (by omega), rdD (l := a) (by omega), rdD (l := b) (by omega)]
    by_cases q : rd a (i : Int) = rd b (i : Int)
    · rw [if_pos q, e, ih (i + 1) k (by omega) (by omega), q]
      congr 1
      simp
    · rw [if_neg q]
      simp [q]
theorem nums_at {a b : List Int} {v : Bool} (h : NumsAre a b v) : ∃ k, taskmasterref5_Nums.f k a b = some v := by
  obtain ⟨h1, h2, rfl⟩ := h
  refine ⟨1001, ?_⟩
  unfold taskmasterref5_Nums.f
  by_cases q : (a.length : Int) = (b.length : Int)
  · rw [if_pos q]
    have := nums_loop a b (by omega) h1 a.length 0 1001 (by omega) (by omega)
    rw [List.drop_zero, List.drop_zero] at this
    exact this
  · rw [if_neg q]
    have : a ≠ b := fun e => q (by rw [e])
    rw [decide_eq_false this]
theorem differ_true {a0 b0 : ByteArray} {a1 a2 a3 a4 a5 a7 a8 b1 b2 b3 b4 b5 b7 b8 : Int} {a6 b6 : List Int} (h : ref5_differ.f a0 a1 a2 a3 a4 a5 a6 a7 a8 b0 b1 b2 b3 b4 b5 b6 b7 b8 = some true) :
    a0.toList ≠ b0.toList ∨ (a0.toList = b0.toList ∧ a1 ≠ b1) ∨ (a0.toList = b0.toList ∧ a1 = b1 ∧ a2 ≠ b2) ∨ (a0.toList = b0.toList ∧ a1 = b1 ∧ a2 = b2 ∧ a3 ≠ b3) ∨ (a0.toList = b0.toList ∧ a1 = b1 ∧ a2 = b2 ∧ a3 = b3 ∧ a4 ≠ b4) ∨
    (a0.toList = b0.toList ∧ a1 = b1 ∧ a2 = b2 ∧ a3 = b3 ∧ a4 = b4 ∧ a5 ≠ b5) ∨ (a0.toList = b0.toList ∧ a1 = b1 ∧ a2 = b2 ∧ a3 = b3 ∧ a4 = b4 ∧ a5 = b5 ∧ a7 ≠ b7) ∨ (a0.toList = b0.toList ∧ a1 = b1 ∧ a2 = b2 ∧ a3 = b3 ∧ a4 = b4 ∧ a5 = b5 ∧ a7 = b7 ∧ a8 ≠ b8) ∨
    (a0.toList = b0.toList ∧ a1 = b1 ∧ a2 = b2 ∧ a3 = b3 ∧ a4 = b4 ∧ a5 = b5 ∧ a7 = b7 ∧ a8 = b8 ∧ NumsAre a6 b6 false) := by
  unfold ref5_differ.f at h
  by_cases hl : a6.length ≤ 1000 ∧ b6.length ≤ 1000
  · rw [if_pos hl] at h
    have h := Option.some.inj h
    by_cases c0 : a0.toList = b0.toList
    · by_cases c1 : a1 = b1
      · by_cases c2 : a2 = b2
        · by_cases c3 : a3 = b3
          · by_cases c4 : a4 = b4
            · by_cases c5 : a5 = b5
              · by_cases c7 : a7 = b7
                · by_cases c8 : a8 = b8
                  · rw [if_pos c0, if_pos c1, if_pos c2, if_pos c3, if_pos c4, if_pos c5, if_pos c7, if_pos c8] at h
                    exact Or.inr (Or.inr (Or.inr (Or.inr (Or.inr (Or.inr (Or.inr (Or.inr ⟨c0, c1, c2, c3, c4, c5, c7, c8, hl.1, hl.2, by simpa using h⟩)))))))
                  · exact Or.inr (Or.inr (Or.inr (Or.inr (Or.inr (Or.inr (Or.inr (Or.inl ⟨c0, c1, c2, c3, c4, c5, c7, c8⟩)))))))
                · exact Or.inr (Or.inr (Or.inr (Or.inr (Or.inr (Or.inr (Or.inl ⟨c0, c1, c2, c3, c4, c5, c7⟩))))))
              · exact Or.inr (Or.inr (Or.inr (Or.inr (Or.inr (Or.inl ⟨c0, c1, c2, c3, c4, c5⟩)))))
            · exact Or.inr (Or.inr (Or.inr (Or.inr (Or.inl ⟨c0, c1, c2, c3, c4⟩))))
          · exact Or.inr (Or.inr (Or.inr (Or.inl ⟨c0, c1, c2, c3⟩)))
        · exact Or.inr (Or.inr (Or.inl ⟨c0, c1, c2⟩))
      · exact Or.inr (Or.inl ⟨c0, c1⟩)
    · exact Or.inl c0
  · rw [if_neg hl] at h; cases h
theorem differ_false {a0 b0 : ByteArray} {a1 a2 a3 a4 a5 a7 a8 b1 b2 b3 b4 b5 b7 b8 : Int} {a6 b6 : List Int} (h : ref5_differ.f a0 a1 a2 a3 a4 a5 a6 a7 a8 b0 b1 b2 b3 b4 b5 b6 b7 b8 = some false) :
    a0.toList = b0.toList ∧ a1 = b1 ∧ a2 = b2 ∧ a3 = b3 ∧ a4 = b4 ∧ a5 = b5 ∧ a7 = b7 ∧ a8 = b8 ∧ NumsAre a6 b6 true := by
  unfold ref5_differ.f at h
  by_cases hl : a6.length ≤ 1000 ∧ b6.length ≤ 1000
  · rw [if_pos hl] at h
    have h := Option.some.inj h
    by_cases c0 : a0.toList = b0.toList
    · by_cases c1 : a1 = b1
      · by_cases c2 : a2 = b2
        · by_cases c3 : a3 = b3
          · by_cases c4 : a4 = b4
            · by_cases c5 : a5 = b5
              · by_cases c7 : a7 = b7
                · by_cases c8 : a8 = b8
                  · rw [if_pos c0, if_pos c1, if_pos c2, if_pos c3, if_pos c4, if_pos c5, if_pos c7, if_pos c8] at h
                    exact ⟨c0, c1, c2, c3, c4, c5, c7, c8, hl.1, hl.2, by simpa using h⟩
                  · rw [if_pos c0, if_pos c1, if_pos c2, if_pos c3, if_pos c4, if_pos c5, if_pos c7, if_neg c8] at h; cases h
                · rw [if_pos c0, if_pos c1, if_pos c2, if_pos c3, if_pos c4, if_pos c5, if_neg c7] at h; cases h
              · rw [if_pos c0, if_pos c1, if_pos c2, if_pos c3, if_pos c4, if_neg c5] at h; cases h
            · rw [if_pos c0, if_pos c1, if_pos c2, if_pos c3, if_neg c4] at h; cases h
          · rw [if_pos c0, if_pos c1, if_pos c2, if_neg c3] at h; cases h
        · rw [if_pos c0, if_pos c1, if_neg c2] at h; cases h
      · rw [if_pos c0, if_neg c1] at h; cases h
    · rw [if_neg c0] at h; cases h
  · rw [if_neg hl] at h; cases h
end Go.Proofs.YtkdndgclldlddaaDoor.QSb
namespace Go.Proofs.YtkdndgclldlddaaDoor.QSb
open Go.RowKit Go.Proofs.YtkdndgclldlddaaDoorW.PrintWords Go.Proofs.YtkdndgclldlddaaDoorW.PrintLast Go.Proofs.YtkdndgclldlddaaDoorW.PrintMore
attribute [local go_sem] max2_int min2_int max_two min_two max_three min_three max_four min_four
set_option linter.unusedVariables false
set_option linter.unusedSimpArgs false
mutual
def taskmasterref5_Same.j0 : Nat → Bool → Int → List (S30) → Int → List (S30) → Option (Bool)
 | 0, _, _, _, _, _ => none
 | k + 1, x21, x212000, x212001, x213000, x213001 => if x21 = true then (some false) else (taskmasterref5_Same.l0 k 0 x212000 x212001 x213000 x213001)
def taskmasterref5_Same.l0 : Nat → Int → Int → List (S30) → Int → List (S30) → Option (Bool)
 | 0, _, _, _, _, _ => none
 | k + 1, x5, x212000, x212001, x213000, x213001 => if x5 < (x212001.length : Int) then (if 0 ≤ x5 then (if x5 < (x213001.length : Int) then ((ref5_differ.f ((rd_T30 x212001 x5).f0) ((rd_T30 x212001 x5).f1) ((rd_T30 x212001 x5).f2) ((rd_T30 x212001 x5).f3) ((rd_T30 x212001 x5).f4) ((rd_T30 x212001 x5).f5) ((rd_T30 x212001 x5).f6) ((rd_T30 x212001 x5).f7) ((rd_T30 x212001 x5).f8) ((rd_T30 x213001 x5).f0) ((rd_T30 x213001 x5).f1) ((rd_T30 x213001 x5).f2) ((rd_T30 x213001 x5).f3) ((rd_T30 x213001 x5).f4) ((rd_T30 x213001 x5).f5) ((rd_T30 x213001 x5).f6) ((rd_T30 x213001 x5).f7) ((rd_T30 x213001 x5).f8)).bind fun t217 => (if t217 = true then (some false) else (taskmasterref5_Same.l0 k (wrap64 (x5 + 1)) x212000 x212001 x213000 x213001))) else (none)) else (none)) else (some true)
end
def taskmasterref5_Same.f (k : Nat) (a0_0 : Int) (l0_1 : List (S30)) (a1_0 : Int) (l1_1 : List (S30)) : Option (Bool) := if a0_0 = a1_0 then (taskmasterref5_Same.j0 k ((l0_1.length : Int) != (l1_1.length : Int)) a0_0 l0_1 a1_0 l1_1) else (taskmasterref5_Same.j0 k true a0_0 l0_1 a1_0 l1_1)
def taskmasterref5_Same.T6 : Bool × List (List Nat × List Nat) := (true, [([], []), ([0], [0]), ([], []), ([1, 2], [1, 2]), ([3], [3]), ([], []), ([5], [5]), ([], []), ([6, 7], [6, 7]), ([8], [8]), ([], []), ([], []), ([10, 4, 0, 1, 2, 3, 4, 10, 11], [4, 10]), ([11, 9, 12, 0, 1, 2, 3, 4, 5, 6, 7, 8, 9, 10, 11, 12], [9, 11])])
def taskmasterref5_Same.B6 : List Nat := [0, 1, 0, 7, 15, 0, 32, 0, 224, 480, 0, 0, 3103, 8191]
theorem taskmasterref5_Same.tab6 : rtab .any (opsOf Tryd.f17 6) = taskmasterref5_Same.T6 := by kernel_rfl
theorem taskmasterref5_Same.bits6 : waitsOk taskmasterref5_Same.T6.2 taskmasterref5_Same.B6 = true := by kernel_rfl
set_option maxHeartbeats 8000000 in
set_option maxRecDepth 100000 in
theorem taskmasterref5_Same.calls (k : Nat) (a0_0 : Int) (A0_1 : Option Addr) (c0_1 : Nat) (l0_1 : List (S30)) (a1_0 : Int) (A1_1 : Option Addr) (c1_1 : Nat) (l1_1 : List (S30)) (r : Bool) (w : World) (hr0_1 : Kd.C k30 w A0_1 l0_1.length l0_1) (hc0_1 : l0_1.length ≤ c0_1) (hr1_1 : Kd.C k30 w A1_1 l1_1.length l1_1) (hc1_1 : l1_1.length ≤ c1_1) (h : taskmasterref5_Same.f k a0_0 l0_1 a1_0 l1_1 = some r) :
  Calls Tryd.prog 17 #[.agg #[.int .i64 a0_0, .slice A0_1 l0_1.length c0_1], .agg #[.int .i64 a1_0, .slice A1_1 l1_1.length c1_1]] w fun e w' => e = .returned (.bool r) ∧ Below w.heap.size w w' := by
 have hu24 := Tryd.underlying24
 have hu30 := Tryd.underlying30
 have HR0_1 := Aside0.mk hr0_1
 have HC0_1 := Aside0.mk hc0_1
 clear hr0_1 hc0_1
 have HR1_1 := Aside0.mk hr1_1
 have HC1_1 := Aside0.mk hc1_1
 clear hr1_1 hc1_1
 have HB := Aside0.mk (Below.refl w.heap.size w)
 have H : (if a0_0 = a1_0 then (taskmasterref5_Same.j0 k ((l0_1.length : Int) != (l1_1.length : Int)) a0_0 l0_1 a1_0 l1_1) else (taskmasterref5_Same.j0 k true a0_0 l0_1 a1_0 l1_1)) = some r := h
 clear h
 have HC3 := Aside0.mk H
 clear H
 go_enter Tryd.func17, Tryd.ntmps17
 go_upto_region 1 with (first | ((with_reducible refine gate_dst (N := 2) rfl ?_); (try (refine gate_guard (by rfl) ?_; dsimp only)); refine box_event ?hg (N := 2) ?hd (cs := #[.int .i64 a0_0, .slice A0_1 l0_1.length c0_1]) (t := 24) ?hr ?_; (case hd => rfl); (case hg => rfl); (case hr => first | (go_simp; done) | (go_simp; rfl)); intro gb211 hg w4 hbox hb; have n0_ := Aside0.mk (below_step (by repeat (first | (with_reducible first | exact HB.out | apply below_alloc | apply pw_below_drewN | apply below_drew1) | exact HB.out)) hb); have n1_ := Aside0.mk (hbox); have n2_ := Aside0.mk ((by rw [hg]; exact (below_size (by repeat (first | (with_reducible first | exact HB.out | apply below_alloc | apply pw_below_drewN | apply below_drew1) | exact HB.out))) : w.heap.size ≤ gb211)); have n3_ := Aside0.mk ((by rw [hg]; exact (below_size (by repeat (first | (with_reducible first | exact HB.out | apply below_alloc | apply pw_below_drewN | apply below_drew1) | exact HB.out))) : w.heap.size ≤ gb211)); clear HB; have HB := n0_; have BK211 := n1_; have GW211 := n2_; have GE211 := n3_; clear n0_ n1_ n2_ n3_; clear hb hbox hg) | ((with_reducible refine gate_dst (N := 3) rfl ?_); (try (refine gate_guard (by rfl) ?_; dsimp only)); refine box_event ?hg (N := 3) ?hd (cs := #[.int .i64 a1_0, .slice A1_1 l1_1.length c1_1]) (t := 24) ?hr ?_; (case hd => rfl); (case hg => rfl); (case hr => first | (go_simp; done) | (go_simp; rfl)); intro gb212 hg w5 hbox hb; have n0_ := Aside0.mk (blk_below (g := gb211) (o := .cells #[.int .i64 a0_0, .slice A0_1 l0_1.length c0_1] 24 (0, 0)) (by (with_reducible repeat (first | refine blk_drewN ?_ _ | refine blk_drew ?_ | refine blk_alloc ?_ _)); exact BK211.out) hb); have n1_ := Aside0.mk (below_step (by repeat (first | (with_reducible first | exact HB.out | apply below_alloc | apply pw_below_drewN | apply below_drew1 | refine below_set ?_ GE211.out) | exact HB.out)) hb); have n2_ := Aside0.mk (hbox); have n3_ := Aside0.mk ((by rw [hg]; exact (below_size (by repeat (first | (with_reducible first | exact HB.out | apply below_alloc | apply pw_below_drewN | apply below_drew1 | refine below_set ?_ GE211.out) | exact HB.out))) : w.heap.size ≤ gb212)); have n4_ := Aside0.mk ((by rw [hg]; exact (below_size (by repeat (first | (with_reducible first | exact HB.out | apply below_alloc | apply pw_below_drewN | apply below_drew1 | refine below_set ?_ GE211.out) | exact HB.out))) : w.heap.size ≤ gb212)); have n5_ := Aside0.mk ((by rw [hg]; exact Nat.ne_of_lt (blk_lt (g := gb211) (o := .cells #[.int .i64 a0_0, .slice A0_1 l0_1.length c0_1] 24 (0, 0)) (by (with_reducible repeat (first | refine blk_drewN ?_ _ | refine blk_drew ?_ | refine blk_alloc ?_ _)); exact BK211.out)) : gb211 ≠ gb212)); have n6_ := Aside0.mk ((by rw [hg]; exact Nat.ne_of_gt (blk_lt (g := gb211) (o := .cells #[.int .i64 a0_0, .slice A0_1 l0_1.length c0_1] 24 (0, 0)) (by (with_reducible repeat (first | refine blk_drewN ?_ _ | refine blk_drew ?_ | refine blk_alloc ?_ _)); exact BK211.out)) : gb212 ≠ gb211)); clear BK211; clear HB; have BK211 := n0_; have HB := n1_; have BK212 := n2_; have GW212 := n3_; have GE212 := n4_; have NB211_212 := n5_; have NB212_211 := n6_; clear n0_ n1_ n2_ n3_ n4_ n5_ n6_; clear hb hbox hg))
 (try simp only [Act.put, List.setIfInBounds_toArray, List.set_cons_zero, List.set_cons_succ])
 go_cut [21] (fun v21 wc => ∃ (kq : Nat) (x21_2 : Bool), v21 = .bool x21_2 ∧ Aside0 (taskmasterref5_Same.j0 kq x21_2 a0_0 l0_1 a1_0 l1_1 = some r) ∧ Aside0 (kq ≤ k) ∧ Aside0 (wc.heap[gb211]? = some (.cells #[.int .i64 a0_0, (.slice A0_1 l0_1.length c0_1)] 24 (0, 0))) ∧ Aside0 (wc.heap[gb212]? = some (.cells #[.int .i64 a1_0, (.slice A1_1 l1_1.length c1_1)] 24 (0, 0))) ∧ Aside0 (Below w.heap.size w wc))
 case first =>
  have H := HC3.out
  clear HC3
  by_cases c6 : a0_0 = a1_0
  ·rw [if_pos c6] at H
   have c6b0 : (a0_0 == a1_0) = true := beq_iff_eq.mpr c6
   have c6b1 : (a0_0 != a1_0) = false := bne_eq_false_iff_eq.mpr c6
   clear c6
   (first | rw [c6b0] | (simp only [i64_w, i32_w]; rw [c6b0]) | skip)
   have H' := Aside0.mk H
   clear H
   have hnb7 := NB211_212.out
   have hnc7 := NB212_211.out
   have hcz8_0 : w5.cell? ⟨gb211, 0, none⟩ = some (.int .i64 a0_0) := (blk_cell BK211.out 0).trans rfl
   have hcz8_1 : w5.cell? ⟨gb211, 1, none⟩ = some (.slice A0_1 l0_1.length c0_1) := (blk_cell BK211.out 1).trans rfl
   have hfz8_0 := blk_frozen BK211.out 0
   have hfz8_1 := blk_frozen BK211.out 1
   have hcz9_0 : w5.cell? ⟨gb212, 0, none⟩ = some (.int .i64 a1_0) := (blk_cell BK212.out 0).trans rfl
   have hcz9_1 : w5.cell? ⟨gb212, 1, none⟩ = some (.slice A1_1 l1_1.length c1_1) := (blk_cell BK212.out 1).trans rfl
   have hfz9_0 := blk_frozen BK212.out 0
   have hfz9_1 := blk_frozen BK212.out 1
   go_wp2
   go_meet
   case rel => exact ⟨_, (((l0_1.length : Int) != (l1_1.length : Int))), (by first | rfl | (simp; done) | (simp [*]; done)), H', ⟨by first | omega | exact Nat.le_refl _⟩, ⟨by (with_reducible repeat (first | refine blk_drewN ?_ _ | refine blk_drew ?_ | refine blk_alloc ?_ _)); exact BK211.out⟩, ⟨by (with_reducible repeat (first | refine blk_drewN ?_ _ | refine blk_drew ?_ | refine blk_alloc ?_ _)); exact BK212.out⟩, ⟨by repeat (first | (with_reducible first | exact HB.out | apply below_alloc | apply pw_below_drewN | apply below_drew1 | refine below_set ?_ GE211.out | refine below_set ?_ GE212.out) | exact HB.out)⟩⟩
  ·rw [if_neg c6] at H
   have c6b0 : (a0_0 == a1_0) = false := beq_eq_false_iff_ne.mpr c6
   have c6b1 : (a0_0 != a1_0) = true := bne_iff_ne.mpr c6
   (first | rw [c6b0] | (simp only [i64_w, i32_w]; rw [c6b0]) | skip)
   have H' := Aside0.mk H
   clear H
   have hnb10 := NB211_212.out
   have hnc10 := NB212_211.out
   have hcz11_0 : w5.cell? ⟨gb211, 0, none⟩ = some (.int .i64 a0_0) := (blk_cell BK211.out 0).trans rfl
   have hcz11_1 : w5.cell? ⟨gb211, 1, none⟩ = some (.slice A0_1 l0_1.length c0_1) := (blk_cell BK211.out 1).trans rfl
   have hfz11_0 := blk_frozen BK211.out 0
   have hfz11_1 := blk_frozen BK211.out 1
   have hcz12_0 : w5.cell? ⟨gb212, 0, none⟩ = some (.int .i64 a1_0) := (blk_cell BK212.out 0).trans rfl
   have hcz12_1 : w5.cell? ⟨gb212, 1, none⟩ = some (.slice A1_1 l1_1.length c1_1) := (blk_cell BK212.out 1).trans rfl
   have hfz12_0 := blk_frozen BK212.out 0
   have hfz12_1 := blk_frozen BK212.out 1
   go_wp2
   go_meet
   case rel => exact ⟨_, (true), (by first | rfl | (simp; done) | (simp [*]; done)), H', ⟨by first | omega | exact Nat.le_refl _⟩, ⟨by (with_reducible repeat (first | refine blk_drewN ?_ _ | refine blk_drew ?_ | refine blk_alloc ?_ _)); exact BK211.out⟩, ⟨by (with_reducible repeat (first | refine blk_drewN ?_ _ | refine blk_drew ?_ | refine blk_alloc ?_ _)); exact BK212.out⟩, ⟨by repeat (first | (with_reducible first | exact HB.out | apply below_alloc | apply pw_below_drewN | apply below_drew1 | refine below_set ?_ GE211.out | refine below_set ?_ GE212.out) | exact HB.out)⟩⟩
 case rest =>
  clear HC3
  try clear c1
  try clear p2
  try clear c6
  try clear c6b0
  try clear c6b1
  try clear c7
  try clear c10
  try clear hcz11_0
  try clear hcz11_1
  try clear hcz12_0
  try clear hcz12_1
  try clear hcz8_0
  try clear hcz8_1
  try clear hcz9_0
  try clear hcz9_1
  try clear hfz11_0
  try clear hfz11_1
  try clear hfz12_0
  try clear hfz12_1
  try clear hfz8_0
  try clear hfz8_1
  try clear hfz9_0
  try clear hfz9_1
  obtain ⟨kq, x21_2, rfl, HA, HJ2, BK211, BK212, HB⟩ := hcut
  cases kq with
  | zero => exact absurd HA.out (by simp [taskmasterref5_Same.j0])
  | succ kj2 =>
   have H := HA.out
   clear HA
   simp only [taskmasterref5_Same.j0] at H
   by_cases c13 : x21_2 = true
   ·subst c13
    have H1 : (some false) = some r := by rw [if_pos rfl] at H; exact H
    clear H
    have H := H1
    clear H1
    obtain rfl := Option.some.inj H
    go_wp2; go_ret
    exact ⟨by first | rfl | (simp [errW_none, errW_some] <;> rfl) | (simp [*, errW_none, errW_some] <;> rfl), by repeat (first | (with_reducible first | exact HB.out | apply below_alloc | apply pw_below_drewN | apply below_drew1 | refine below_set ?_ GE211.out | refine below_set ?_ GE212.out) | exact HB.out)⟩
   ·replace c13 := Bool.eq_false_iff.mpr c13
    subst c13
    have H1 : (taskmasterref5_Same.l0 kj2 0 a0_0 l0_1 a1_0 l1_1) = some r := by rw [if_neg (show ¬ (false = true) by decide)] at H; exact H
    clear H
    have H := H1
    clear H1
    have H' := Aside0.mk H
    clear H; go_wp2
    go_loopg [5] kj2 (fun kq v5 w' => ∃ (x5_2 : Int), v5 = .int .i64 x5_2 ∧ Aside0 (taskmasterref5_Same.l0 kq x5_2 a0_0 l0_1 a1_0 l1_1 = some r) ∧ Aside0 (kq ≤ kj2) ∧ Aside0 (w'.heap[gb211]? = some (.cells #[.int .i64 a0_0, (.slice A0_1 l0_1.length c0_1)] 24 (0, 0))) ∧ Aside0 (w'.heap[gb212]? = some (.cells #[.int .i64 a1_0, (.slice A1_1 l1_1.length c1_1)] 24 (0, 0))) ∧ Aside0 (Below w.heap.size w w'))
    case atStart => exact ⟨(0), (by first | rfl | (simp; done) | (simp [*]; done)), H', ⟨Nat.le_refl _⟩, ⟨by (with_reducible repeat (first | refine blk_drewN ?_ _ | refine blk_drew ?_ | refine blk_alloc ?_ _)); exact BK211.out⟩, ⟨by (with_reducible repeat (first | refine blk_drewN ?_ _ | refine blk_drew ?_ | refine blk_alloc ?_ _)); exact BK212.out⟩, ⟨by repeat (first | (with_reducible first | exact HB.out | apply below_alloc | apply pw_below_drewN | apply below_drew1 | refine below_set ?_ GE211.out | refine below_set ?_ GE212.out) | exact HB.out)⟩⟩
    case round =>
     clear H'
     try clear c1
     try clear p2
     try clear c6
     try clear c6b0
     try clear c6b1
     try clear c7
     try clear c10
     try clear c13
     try clear hcz11_0
     try clear hcz11_1
     try clear hcz12_0
     try clear hcz12_1
     try clear hcz8_0
     try clear hcz8_1
     try clear hcz9_0
     try clear hcz9_1
     try clear hfz11_0
     try clear hfz11_1
     try clear hfz12_0
     try clear hfz12_1
     try clear hfz8_0
     try clear hfz8_1
     try clear hfz9_0
     try clear hfz9_1
     try clear p2
     obtain ⟨x5_2, rfl, HA, HK2, BK211, BK212, HB⟩ := hrel
     cases gk with
     | zero => exact absurd HA.out (by simp [taskmasterref5_Same.l0])
     | succ k2 =>
      have H := HA.out
      clear HA
      simp only [taskmasterref5_Same.l0] at H
      by_cases c14 : x5_2 < (l0_1.length : Int)
      ·rw [if_pos c14] at H
       have c14b0 : decide (x5_2 < (l0_1.length : Int)) = true := decide_eq_true c14
       clear c14
       by_cases c15 : 0 ≤ x5_2
       ·rw [if_pos c15] at H
        have c15b0 : decide (0 ≤ x5_2) = true := decide_eq_true c15
        clear c15
        by_cases c16 : x5_2 < (l1_1.length : Int)
        ·rw [if_pos c16] at H
         have c16b0 : decide (x5_2 < (l1_1.length : Int)) = true := decide_eq_true c16
         clear c16
         replace H := Option.bind_eq_some_iff.mp H
         obtain ⟨t217, A170, H⟩ := H
         replace H : (if t217 = true then (some false) else (taskmasterref5_Same.l0 k2 (wrap64 (x5_2 + 1)) a0_0 l0_1 a1_0 l1_1)) = some r := H
         have A17 := Aside0.mk A170
         clear A170
         have hcyA_0 : wr.cell? ⟨gb211, 0, none⟩ = some (.int .i64 a0_0) := (blk_cell BK211.out 0).trans rfl
         have hcyA_1 : wr.cell? ⟨gb211, 1, none⟩ = some (.slice A0_1 l0_1.length c0_1) := (blk_cell BK211.out 1).trans rfl
         have hcyB_0 : wr.cell? ⟨gb212, 0, none⟩ = some (.int .i64 a1_0) := (blk_cell BK212.out 0).trans rfl
         have hcyB_1 : wr.cell? ⟨gb212, 1, none⟩ = some (.slice A1_1 l1_1.length c1_1) := (blk_cell BK212.out 1).trans rfl
         try go_wp2
         clear hcyA_0 hcyA_1 hcyB_0 hcyB_1
         have n0_ := Aside0.mk (blk_drew BK211.out)
         have n1_ := Aside0.mk (blk_drew BK212.out)
         have n2_ := Aside0.mk (below_drew1 HB.out)
         clear BK211; clear BK212; clear HB
         have BK211 := n0_
         have BK212 := n1_
         have HB := n2_
         clear n0_ n1_ n2_
         have p213 : 0 ≤ (x5_2 : Int) := of_decide_eq_true (by first | (with_reducible assumption) | assumption)
         have q213 : x5_2 < (l0_1.length : Int) := of_decide_eq_true (by first | (with_reducible assumption) | assumption)
         obtain ⟨ad213, A213_6, c213_6, e213, hx213_0, hx213_1, hx213_2, hx213_3, hx213_4, hx213_5, hx213_6, hx213_7, hx213_8, hl213_6, hi213_6⟩ := at_T30 HR0_1.out x5_2 p213 q213
         have hw213_8 := hx213_8
         have hw213_7 := hx213_7
         have hw213_6 := hx213_6
         have hw213_5 := hx213_5
         have hw213_4 := hx213_4
         have hw213_3 := hx213_3
         have hw213_2 := hx213_2
         have hw213_1 := hx213_1
         have hw213_0 := hx213_0
         cases e213
         replace hx213_0 := (HB.out.cell (World.block_lt_of_cell? w _ hx213_0)).trans hx213_0
         replace hx213_1 := (HB.out.cell (World.block_lt_of_cell? w _ hx213_1)).trans hx213_1
         replace hx213_2 := (HB.out.cell (World.block_lt_of_cell? w _ hx213_2)).trans hx213_2
         replace hx213_3 := (HB.out.cell (World.block_lt_of_cell? w _ hx213_3)).trans hx213_3
         replace hx213_4 := (HB.out.cell (World.block_lt_of_cell? w _ hx213_4)).trans hx213_4
         replace hx213_5 := (HB.out.cell (World.block_lt_of_cell? w _ hx213_5)).trans hx213_5
         replace hx213_6 := (HB.out.cell (World.block_lt_of_cell? w _ hx213_6)).trans hx213_6
         replace hx213_7 := (HB.out.cell (World.block_lt_of_cell? w _ hx213_7)).trans hx213_7
         replace hx213_8 := (HB.out.cell (World.block_lt_of_cell? w _ hx213_8)).trans hx213_8
         have HR213_6 := Aside0.mk hi213_6
         have HC213_6 := Aside0.mk hl213_6
         clear hi213_6 hl213_6
         replace p213 := eq_true p213
         replace q213 := eq_true q213
         have p214 : 0 ≤ (x5_2 : Int) := of_decide_eq_true (by first | (with_reducible assumption) | assumption)
         have q214 : x5_2 < (l1_1.length : Int) := of_decide_eq_true (by first | (with_reducible assumption) | assumption)
         obtain ⟨ad214, A214_6, c214_6, e214, hx214_0, hx214_1, hx214_2, hx214_3, hx214_4, hx214_5, hx214_6, hx214_7, hx214_8, hl214_6, hi214_6⟩ := at_T30 HR1_1.out x5_2 p214 q214
         have hw214_8 := hx214_8
         have hw214_7 := hx214_7
         have hw214_6 := hx214_6
         have hw214_5 := hx214_5
         have hw214_4 := hx214_4
         have hw214_3 := hx214_3
         have hw214_2 := hx214_2
         have hw214_1 := hx214_1
         have hw214_0 := hx214_0
         cases e214
         replace hx214_0 := (HB.out.cell (World.block_lt_of_cell? w _ hx214_0)).trans hx214_0
         replace hx214_1 := (HB.out.cell (World.block_lt_of_cell? w _ hx214_1)).trans hx214_1
         replace hx214_2 := (HB.out.cell (World.block_lt_of_cell? w _ hx214_2)).trans hx214_2
         replace hx214_3 := (HB.out.cell (World.block_lt_of_cell? w _ hx214_3)).trans hx214_3
         replace hx214_4 := (HB.out.cell (World.block_lt_of_cell? w _ hx214_4)).trans hx214_4
         replace hx214_5 := (HB.out.cell (World.block_lt_of_cell? w _ hx214_5)).trans hx214_5
         replace hx214_6 := (HB.out.cell (World.block_lt_of_cell? w _ hx214_6)).trans hx214_6
         replace hx214_7 := (HB.out.cell (World.block_lt_of_cell? w _ hx214_7)).trans hx214_7
         replace hx214_8 := (HB.out.cell (World.block_lt_of_cell? w _ hx214_8)).trans hx214_8
         have HR214_6 := Aside0.mk hi214_6
         have HC214_6 := Aside0.mk hl214_6
         clear hi214_6 hl214_6
         replace p214 := eq_true p214
         replace q214 := eq_true q214
         refine start_ (n := 14) (S := fun w' => w'.cell? ⟨gb211, 0, none⟩ = some (.int .i64 a0_0) ∧ w'.cell? ⟨gb211, 1, none⟩ = some (.slice (some ad213) l0_1.length c0_1) ∧ w'.cell? ⟨gb212, 0, none⟩ = some (.int .i64 a1_0) ∧ w'.cell? ⟨gb212, 1, none⟩ = some (.slice (some ad214) l1_1.length c1_1) ∧ w'.cell? (ad213.add ((x5_2).toNat * 9)) = some (.string ((rd_T30 l0_1 x5_2).f0)) ∧ w'.cell? ⟨(ad213.add ((x5_2).toNat * 9)).block, (ad213.add ((x5_2).toNat * 9)).off + 1, none⟩ = some (.int .i64 ((rd_T30 l0_1 x5_2).f1)) ∧ w'.cell? ⟨(ad213.add ((x5_2).toNat * 9)).block, (ad213.add ((x5_2).toNat * 9)).off + 2, none⟩ = some (.int .i64 ((rd_T30 l0_1 x5_2).f2)) ∧ w'.cell? ⟨(ad213.add ((x5_2).toNat * 9)).block, (ad213.add ((x5_2).toNat * 9)).off + 3, none⟩ = some (.int .i64 ((rd_T30 l0_1 x5_2).f3)) ∧ w'.cell? ⟨(ad213.add ((x5_2).toNat * 9)).block, (ad213.add ((x5_2).toNat * 9)).off + 4, none⟩ = some (.int .i64 ((rd_T30 l0_1 x5_2).f4)) ∧ w'.cell? ⟨(ad213.add ((x5_2).toNat * 9)).block, (ad213.add ((x5_2).toNat * 9)).off + 5, none⟩ = some (.int .i64 ((rd_T30 l0_1 x5_2).f5)) ∧ w'.cell? ⟨(ad213.add ((x5_2).toNat * 9)).block, (ad213.add ((x5_2).toNat * 9)).off + 6, none⟩ = some (.slice A213_6 ((rd_T30 l0_1 x5_2).f6).length c213_6) ∧ w'.cell? ⟨(ad213.add ((x5_2).toNat * 9)).block, (ad213.add ((x5_2).toNat * 9)).off + 7, none⟩ = some (.int .u64 ((rd_T30 l0_1 x5_2).f7)) ∧ w'.cell? ⟨(ad213.add ((x5_2).toNat * 9)).block, (ad213.add ((x5_2).toNat * 9)).off + 8, none⟩ = some (.int .u64 ((rd_T30 l0_1 x5_2).f8)) ∧ w'.cell? (ad214.add ((x5_2).toNat * 9)) = some (.string ((rd_T30 l1_1 x5_2).f0)) ∧ w'.cell? ⟨(ad214.add ((x5_2).toNat * 9)).block, (ad214.add ((x5_2).toNat * 9)).off + 1, none⟩ = some (.int .i64 ((rd_T30 l1_1 x5_2).f1)) ∧ w'.cell? ⟨(ad214.add ((x5_2).toNat * 9)).block, (ad214.add ((x5_2).toNat * 9)).off + 2, none⟩ = some (.int .i64 ((rd_T30 l1_1 x5_2).f2)) ∧ w'.cell? ⟨(ad214.add ((x5_2).toNat * 9)).block, (ad214.add ((x5_2).toNat * 9)).off + 3, none⟩ = some (.int .i64 ((rd_T30 l1_1 x5_2).f3)) ∧ w'.cell? ⟨(ad214.add ((x5_2).toNat * 9)).block, (ad214.add ((x5_2).toNat * 9)).off + 4, none⟩ = some (.int .i64 ((rd_T30 l1_1 x5_2).f4)) ∧ w'.cell? ⟨(ad214.add ((x5_2).toNat * 9)).block, (ad214.add ((x5_2).toNat * 9)).off + 5, none⟩ = some (.int .i64 ((rd_T30 l1_1 x5_2).f5)) ∧ w'.cell? ⟨(ad214.add ((x5_2).toNat * 9)).block, (ad214.add ((x5_2).toNat * 9)).off + 6, none⟩ = some (.slice A214_6 ((rd_T30 l1_1 x5_2).f6).length c214_6) ∧ w'.cell? ⟨(ad214.add ((x5_2).toNat * 9)).block, (ad214.add ((x5_2).toNat * 9)).off + 7, none⟩ = some (.int .u64 ((rd_T30 l1_1 x5_2).f7)) ∧ w'.cell? ⟨(ad214.add ((x5_2).toNat * 9)).block, (ad214.add ((x5_2).toNat * 9)).off + 8, none⟩ = some (.int .u64 ((rd_T30 l1_1 x5_2).f8))) (ds := []) #[false, false, false, false, false, false, false, false, false, false, false, false, false, false] (by kernel_rfl) rfl rfl ⟨(blk_cell BK211.out 0).trans rfl, (blk_cell BK211.out 1).trans rfl, (blk_cell BK212.out 0).trans rfl, (blk_cell BK212.out 1).trans rfl, ((HB.out.cell (World.block_lt_of_cell? w _ hw213_0)).trans hw213_0), ((HB.out.cell (World.block_lt_of_cell? w _ hw213_1)).trans hw213_1), ((HB.out.cell (World.block_lt_of_cell? w _ hw213_2)).trans hw213_2), ((HB.out.cell (World.block_lt_of_cell? w _ hw213_3)).trans hw213_3), ((HB.out.cell (World.block_lt_of_cell? w _ hw213_4)).trans hw213_4), ((HB.out.cell (World.block_lt_of_cell? w _ hw213_5)).trans hw213_5), ((HB.out.cell (World.block_lt_of_cell? w _ hw213_6)).trans hw213_6), ((HB.out.cell (World.block_lt_of_cell? w _ hw213_7)).trans hw213_7), ((HB.out.cell (World.block_lt_of_cell? w _ hw213_8)).trans hw213_8), ((HB.out.cell (World.block_lt_of_cell? w _ hw214_0)).trans hw214_0), ((HB.out.cell (World.block_lt_of_cell? w _ hw214_1)).trans hw214_1), ((HB.out.cell (World.block_lt_of_cell? w _ hw214_2)).trans hw214_2), ((HB.out.cell (World.block_lt_of_cell? w _ hw214_3)).trans hw214_3), ((HB.out.cell (World.block_lt_of_cell? w _ hw214_4)).trans hw214_4), ((HB.out.cell (World.block_lt_of_cell? w _ hw214_5)).trans hw214_5), ((HB.out.cell (World.block_lt_of_cell? w _ hw214_6)).trans hw214_6), ((HB.out.cell (World.block_lt_of_cell? w _ hw214_7)).trans hw214_7), ((HB.out.cell (World.block_lt_of_cell? w _ hw214_8)).trans hw214_8)⟩ (fun hHeld => ?_); refine with_tabW taskmasterref5_Same.tab6 taskmasterref5_Same.bits6 (fun HT_ HW_ => ?_)
         generalize wr.drew = w21 at BK211 BK212 HB HR213_6 HR214_6 hx213_0 hx213_1 hx213_2 hx213_3 hx213_4 hx213_5 hx213_6 hx213_7 hx213_8 hx214_0 hx214_1 hx214_2 hx214_3 hx214_4 hx214_5 hx214_6 hx214_7 hx214_8 hHeld ⊢
         refine pure_ (i := 0) (N := some 29) (v := ?_) (a' := ?_) #[true, false, false, false, false, false, false, false, false, false, false, false, false, false] rfl rfl (any_of HT_.out (by kernel_rfl)) (fun _ _ _ h => h) (Or.inl ⟨by rfl, ?_⟩) ?_ ?_
         rotate_left; · intro w'; go_simp; with_reducible rfl
         rotate_left; · simp only [Act.put, List.setIfInBounds_toArray, List.set_cons_zero, List.set_cons_succ, i64_w, i32_w]; rfl
         refine pure_ (i := 2) (N := some 31) (v := ?_) (a' := ?_) #[true, false, true, false, false, false, false, false, false, false, false, false, false, false] rfl rfl (any_of HT_.out (by kernel_rfl)) (fun _ _ _ h => h) (Or.inl ⟨by rfl, ?_⟩) ?_ ?_
         rotate_left; · intro w'; go_simp; with_reducible rfl
         rotate_left; · simp only [Act.put, List.setIfInBounds_toArray, List.set_cons_zero, List.set_cons_succ, i64_w, i32_w]; rfl
         refine pure_ (i := 5) (N := some 34) (v := ?_) (a' := ?_) #[true, false, true, false, false, true, false, false, false, false, false, false, false, false] rfl rfl (any_of HT_.out (by kernel_rfl)) (fun _ _ _ h => h) (Or.inl ⟨by rfl, ?_⟩) ?_ ?_
         rotate_left; · intro w'; go_simp; with_reducible rfl
         rotate_left; · simp only [Act.put, List.setIfInBounds_toArray, List.set_cons_zero, List.set_cons_succ, i64_w, i32_w]; rfl
         refine pure_ (i := 7) (N := some 36) (v := ?_) (a' := ?_) #[true, false, true, false, false, true, false, true, false, false, false, false, false, false] rfl rfl (any_of HT_.out (by kernel_rfl)) (fun _ _ _ h => h) (Or.inl ⟨by rfl, ?_⟩) ?_ ?_
         rotate_left; · intro w'; go_simp; with_reducible rfl
         rotate_left; · simp only [Act.put, List.setIfInBounds_toArray, List.set_cons_zero, List.set_cons_succ, i64_w, i32_w]; rfl
         refine take_ (i := 1) (N := some 30) (v := ?_) (a' := ?_) #[true, true, true, false, false, true, false, true, false, false, false, false, false, false] rfl rfl (take_ofW HT_.out HW_.out (by kernel_rfl)) (fun _ _ _ h => h) (Or.inl ⟨by rfl, ?_⟩) hHeld ?_ ?_
         rotate_left
         ·rintro w' ⟨s0, s1, s2, s3, s4, s5, s6, s7, s8, s9, s10, s11, s12, s13, s14, s15, s16, s17, s18, s19, s20, s21⟩
          go_simp; with_reducible rfl
         rotate_left; · simp only [Act.put, List.setIfInBounds_toArray, List.set_cons_zero, List.set_cons_succ, i64_w, i32_w]; rfl
         refine pure_ (i := 3) (N := some 32) (v := ?_) (a' := ?_) #[true, true, true, true, false, true, false, true, false, false, false, false, false, false] rfl rfl (any_of HT_.out (by kernel_rfl)) (fun _ _ _ h => h) (Or.inl ⟨by rfl, ?_⟩) ?_ ?_
         rotate_left; · intro w'; go_simp; with_reducible rfl
         rotate_left; · simp only [Act.put, List.setIfInBounds_toArray, List.set_cons_zero, List.set_cons_succ, i64_w, i32_w]; rfl
         refine take_ (i := 4) (N := some 33) (v := ?_) (a' := ?_) #[true, true, true, true, true, true, false, true, false, false, false, false, false, false] rfl rfl (take_ofW HT_.out HW_.out (by kernel_rfl)) (fun _ _ _ h => h) (Or.inl ⟨by rfl, ?_⟩) hHeld ?_ ?_
         rotate_left
         ·rintro w' ⟨s0, s1, s2, s3, s4, s5, s6, s7, s8, s9, s10, s11, s12, s13, s14, s15, s16, s17, s18, s19, s20, s21⟩
          go_simp; with_reducible rfl
         rotate_left; · simp only [Act.put, List.setIfInBounds_toArray, List.set_cons_zero, List.set_cons_succ, i64_w, i32_w]; rfl
         refine take_ (i := 6) (N := some 35) (v := ?_) (a' := ?_) #[true, true, true, true, true, true, true, true, false, false, false, false, false, false] rfl rfl (take_ofW HT_.out HW_.out (by kernel_rfl)) (fun _ _ _ h => h) (Or.inl ⟨by rfl, ?_⟩) hHeld ?_ ?_
         rotate_left
         ·rintro w' ⟨s0, s1, s2, s3, s4, s5, s6, s7, s8, s9, s10, s11, s12, s13, s14, s15, s16, s17, s18, s19, s20, s21⟩
          go_simp; with_reducible rfl
         rotate_left; · simp only [Act.put, List.setIfInBounds_toArray, List.set_cons_zero, List.set_cons_succ, i64_w, i32_w]; rfl
         refine pure_ (i := 8) (N := some 37) (v := ?_) (a' := ?_) #[true, true, true, true, true, true, true, true, true, false, false, false, false, false] rfl rfl (any_of HT_.out (by kernel_rfl)) (fun _ _ _ h => h) (Or.inl ⟨by rfl, ?_⟩) ?_ ?_
         rotate_left; · intro w'; go_simp; with_reducible rfl
         rotate_left; · simp only [Act.put, List.setIfInBounds_toArray, List.set_cons_zero, List.set_cons_succ, i64_w, i32_w]; rfl
         refine take_ (i := 9) (N := some 38) (v := ?_) (a' := ?_) #[true, true, true, true, true, true, true, true, true, true, false, false, false, false] rfl rfl (take_ofW HT_.out HW_.out (by kernel_rfl)) (fun _ _ _ h => h) (Or.inl ⟨by rfl, ?_⟩) hHeld ?_ ?_
         rotate_left
         ·rintro w' ⟨s0, s1, s2, s3, s4, s5, s6, s7, s8, s9, s10, s11, s12, s13, s14, s15, s16, s17, s18, s19, s20, s21⟩
          go_simp; with_reducible rfl
         rotate_left; · simp only [Act.put, List.setIfInBounds_toArray, List.set_cons_zero, List.set_cons_succ, i64_w, i32_w]; rfl
         refine join_ (σ := Nat × Nat) 2 #[true, true, true, true, true, true, true, true, true, true, true, true, false, false] (fun s_ => [(6, .pointer (some ⟨s_.1, 0, none⟩)), (7, .pointer (some ⟨s_.2, 0, none⟩))]) (fun s_ w' => (w'.cell? ⟨gb211, 0, none⟩ = some (.int .i64 a0_0) ∧ w'.cell? ⟨gb211, 1, none⟩ = some (.slice (some ad213) l0_1.length c0_1) ∧ w'.cell? ⟨gb212, 0, none⟩ = some (.int .i64 a1_0) ∧ w'.cell? ⟨gb212, 1, none⟩ = some (.slice (some ad214) l1_1.length c1_1) ∧ w'.cell? (ad213.add ((x5_2).toNat * 9)) = some (.string ((rd_T30 l0_1 x5_2).f0)) ∧ w'.cell? ⟨(ad213.add ((x5_2).toNat * 9)).block, (ad213.add ((x5_2).toNat * 9)).off + 1, none⟩ = some (.int .i64 ((rd_T30 l0_1 x5_2).f1)) ∧ w'.cell? ⟨(ad213.add ((x5_2).toNat * 9)).block, (ad213.add ((x5_2).toNat * 9)).off + 2, none⟩ = some (.int .i64 ((rd_T30 l0_1 x5_2).f2)) ∧ w'.cell? ⟨(ad213.add ((x5_2).toNat * 9)).block, (ad213.add ((x5_2).toNat * 9)).off + 3, none⟩ = some (.int .i64 ((rd_T30 l0_1 x5_2).f3)) ∧ w'.cell? ⟨(ad213.add ((x5_2).toNat * 9)).block, (ad213.add ((x5_2).toNat * 9)).off + 4, none⟩ = some (.int .i64 ((rd_T30 l0_1 x5_2).f4)) ∧ w'.cell? ⟨(ad213.add ((x5_2).toNat * 9)).block, (ad213.add ((x5_2).toNat * 9)).off + 5, none⟩ = some (.int .i64 ((rd_T30 l0_1 x5_2).f5)) ∧ w'.cell? ⟨(ad213.add ((x5_2).toNat * 9)).block, (ad213.add ((x5_2).toNat * 9)).off + 6, none⟩ = some (.slice A213_6 ((rd_T30 l0_1 x5_2).f6).length c213_6) ∧ w'.cell? ⟨(ad213.add ((x5_2).toNat * 9)).block, (ad213.add ((x5_2).toNat * 9)).off + 7, none⟩ = some (.int .u64 ((rd_T30 l0_1 x5_2).f7)) ∧ w'.cell? ⟨(ad213.add ((x5_2).toNat * 9)).block, (ad213.add ((x5_2).toNat * 9)).off + 8, none⟩ = some (.int .u64 ((rd_T30 l0_1 x5_2).f8)) ∧ w'.cell? (ad214.add ((x5_2).toNat * 9)) = some (.string ((rd_T30 l1_1 x5_2).f0)) ∧ w'.cell? ⟨(ad214.add ((x5_2).toNat * 9)).block, (ad214.add ((x5_2).toNat * 9)).off + 1, none⟩ = some (.int .i64 ((rd_T30 l1_1 x5_2).f1)) ∧ w'.cell? ⟨(ad214.add ((x5_2).toNat * 9)).block, (ad214.add ((x5_2).toNat * 9)).off + 2, none⟩ = some (.int .i64 ((rd_T30 l1_1 x5_2).f2)) ∧ w'.cell? ⟨(ad214.add ((x5_2).toNat * 9)).block, (ad214.add ((x5_2).toNat * 9)).off + 3, none⟩ = some (.int .i64 ((rd_T30 l1_1 x5_2).f3)) ∧ w'.cell? ⟨(ad214.add ((x5_2).toNat * 9)).block, (ad214.add ((x5_2).toNat * 9)).off + 4, none⟩ = some (.int .i64 ((rd_T30 l1_1 x5_2).f4)) ∧ w'.cell? ⟨(ad214.add ((x5_2).toNat * 9)).block, (ad214.add ((x5_2).toNat * 9)).off + 5, none⟩ = some (.int .i64 ((rd_T30 l1_1 x5_2).f5)) ∧ w'.cell? ⟨(ad214.add ((x5_2).toNat * 9)).block, (ad214.add ((x5_2).toNat * 9)).off + 6, none⟩ = some (.slice A214_6 ((rd_T30 l1_1 x5_2).f6).length c214_6) ∧ w'.cell? ⟨(ad214.add ((x5_2).toNat * 9)).block, (ad214.add ((x5_2).toNat * 9)).off + 7, none⟩ = some (.int .u64 ((rd_T30 l1_1 x5_2).f7)) ∧ w'.cell? ⟨(ad214.add ((x5_2).toNat * 9)).block, (ad214.add ((x5_2).toNat * 9)).off + 8, none⟩ = some (.int .u64 ((rd_T30 l1_1 x5_2).f8))) ∧ (w'.heap[gb211]? = some (.cells #[.int .i64 a0_0, .slice (some ad213) l0_1.length c0_1] 24 (0, 0))) ∧ (w'.heap[gb212]? = some (.cells #[.int .i64 a1_0, .slice (some ad214) l1_1.length c1_1] 24 (0, 0))) ∧ (w'.heap[s_.1]? = some (.cells #[.string (⟨#[]⟩ : ByteArray), .int .i64 0, .int .i64 0, .int .i64 0, .int .i64 0, .int .i64 0, .slice none 0 0, .int .u64 0, .int .u64 0] 30 (0, 0))) ∧ (w'.heap[s_.2]? = some (.cells #[.string (⟨#[]⟩ : ByteArray), .int .i64 0, .int .i64 0, .int .i64 0, .int .i64 0, .int .i64 0, .slice none 0 0, .int .u64 0, .int .u64 0] 30 (0, 0))) ∧ (w.heap.size ≤ s_.1) ∧ (w.heap.size ≤ s_.1) ∧ (gb211 ≠ s_.1) ∧ (s_.1 ≠ gb211) ∧ (gb212 ≠ s_.1) ∧ (s_.1 ≠ gb212) ∧ (s_.2 ≠ s_.1) ∧ (s_.1 ≠ s_.2) ∧ (w.heap.size ≤ s_.2) ∧ (w.heap.size ≤ s_.2) ∧ (gb211 ≠ s_.2) ∧ (s_.2 ≠ gb211) ∧ (gb212 ≠ s_.2) ∧ (s_.2 ≠ gb212) ∧ (Below w.heap.size w w')) ?_ ?_
         rotate_left
         ·intro hCont
          refine two_ (i := 10) (j := 11) (Ni := some 6) (Nj := some 7) #[true, true, true, true, true, true, true, true, true, true, true, false, false, false] #[true, true, true, true, true, true, true, true, true, true, false, true, false, false] rfl rfl rfl rfl (two_of HT_.out (by kernel_rfl)) (by decide) (by decide) (fun K hK => ?_) (fun K hK => ?_)
          ·skip
           refine box_step ?hg (N := 6) ?hd (cs := #[.string (⟨#[]⟩ : ByteArray), .int .i64 0, .int .i64 0, .int .i64 0, .int .i64 0, .int .i64 0, .slice none 0 0, .int .u64 0, .int .u64 0]) (t := 30) ?hr ?_; (case hd => rfl); (case hg => rfl); (case hr => first | (go_simp; done) | (go_simp; rfl))
           intro gb215 hg w22 hbox hb
           have n0_ := Aside0.mk (blk_below (g := gb211) (o := .cells #[.int .i64 a0_0, .slice (some ad213) l0_1.length c0_1] 24 (0, 0)) (by (with_reducible repeat (first | refine blk_drewN ?_ _ | refine blk_drew ?_ | refine blk_alloc ?_ _)); exact BK211.out) hb)
           have n1_ := Aside0.mk (blk_below (g := gb212) (o := .cells #[.int .i64 a1_0, .slice (some ad214) l1_1.length c1_1] 24 (0, 0)) (by (with_reducible repeat (first | refine blk_drewN ?_ _ | refine blk_drew ?_ | refine blk_alloc ?_ _)); exact BK212.out) hb)
           have n2_ := Aside0.mk (below_step (by repeat (first | (with_reducible first | exact HB.out | apply below_alloc | apply pw_below_drewN | apply below_drew1 | refine below_set ?_ GE211.out | refine below_set ?_ GE212.out) | exact HB.out)) hb)
           have n3_ := Aside0.mk (hbox)
           have n4_ := Aside0.mk ((by rw [hg]; exact (below_size (by repeat (first | (with_reducible first | exact HB.out | apply below_alloc | apply pw_below_drewN | apply below_drew1 | refine below_set ?_ GE211.out | refine below_set ?_ GE212.out) | exact HB.out))) : w.heap.size ≤ gb215))
           have n5_ := Aside0.mk ((by rw [hg]; exact (below_size (by repeat (first | (with_reducible first | exact HB.out | apply below_alloc | apply pw_below_drewN | apply below_drew1 | refine below_set ?_ GE211.out | refine below_set ?_ GE212.out) | exact HB.out))) : w.heap.size ≤ gb215))
           have n6_ := Aside0.mk ((by rw [hg]; exact Nat.ne_of_lt (blk_lt (g := gb211) (o := .cells #[.int .i64 a0_0, .slice (some ad213) l0_1.length c0_1] 24 (0, 0)) (by (with_reducible repeat (first | refine blk_drewN ?_ _ | refine blk_drew ?_ | refine blk_alloc ?_ _)); exact BK211.out)) : gb211 ≠ gb215))
           have n7_ := Aside0.mk ((by rw [hg]; exact Nat.ne_of_gt (blk_lt (g := gb211) (o := .cells #[.int .i64 a0_0, .slice (some ad213) l0_1.length c0_1] 24 (0, 0)) (by (with_reducible repeat (first | refine blk_drewN ?_ _ | refine blk_drew ?_ | refine blk_alloc ?_ _)); exact BK211.out)) : gb215 ≠ gb211))
           have n8_ := Aside0.mk ((by rw [hg]; exact Nat.ne_of_lt (blk_lt (g := gb212) (o := .cells #[.int .i64 a1_0, .slice (some ad214) l1_1.length c1_1] 24 (0, 0)) (by (with_reducible repeat (first | refine blk_drewN ?_ _ | refine blk_drew ?_ | refine blk_alloc ?_ _)); exact BK212.out)) : gb212 ≠ gb215))
           have n9_ := Aside0.mk ((by rw [hg]; exact Nat.ne_of_gt (blk_lt (g := gb212) (o := .cells #[.int .i64 a1_0, .slice (some ad214) l1_1.length c1_1] 24 (0, 0)) (by (with_reducible repeat (first | refine blk_drewN ?_ _ | refine blk_drew ?_ | refine blk_alloc ?_ _)); exact BK212.out)) : gb215 ≠ gb212))
           clear BK211; clear BK212; clear HB
           have BK211 := n0_
           have BK212 := n1_
           have HB := n2_
           have BK215 := n3_
           have GW215 := n4_
           have GE215 := n5_
           have NB211_215 := n6_
           have NB215_211 := n7_
           have NB212_215 := n8_
           have NB215_212 := n9_
           clear n0_ n1_ n2_ n3_ n4_ n5_ n6_ n7_ n8_ n9_; clear hb hbox hg
           refine hK.out _ _ ⟨(blk_cell BK211.out 0).trans rfl, (blk_cell BK211.out 1).trans rfl, (blk_cell BK212.out 0).trans rfl, (blk_cell BK212.out 1).trans rfl, ((HB.out.cell (World.block_lt_of_cell? w _ hw213_0)).trans hw213_0), ((HB.out.cell (World.block_lt_of_cell? w _ hw213_1)).trans hw213_1), ((HB.out.cell (World.block_lt_of_cell? w _ hw213_2)).trans hw213_2), ((HB.out.cell (World.block_lt_of_cell? w _ hw213_3)).trans hw213_3), ((HB.out.cell (World.block_lt_of_cell? w _ hw213_4)).trans hw213_4), ((HB.out.cell (World.block_lt_of_cell? w _ hw213_5)).trans hw213_5), ((HB.out.cell (World.block_lt_of_cell? w _ hw213_6)).trans hw213_6), ((HB.out.cell (World.block_lt_of_cell? w _ hw213_7)).trans hw213_7), ((HB.out.cell (World.block_lt_of_cell? w _ hw213_8)).trans hw213_8), ((HB.out.cell (World.block_lt_of_cell? w _ hw214_0)).trans hw214_0), ((HB.out.cell (World.block_lt_of_cell? w _ hw214_1)).trans hw214_1), ((HB.out.cell (World.block_lt_of_cell? w _ hw214_2)).trans hw214_2), ((HB.out.cell (World.block_lt_of_cell? w _ hw214_3)).trans hw214_3), ((HB.out.cell (World.block_lt_of_cell? w _ hw214_4)).trans hw214_4), ((HB.out.cell (World.block_lt_of_cell? w _ hw214_5)).trans hw214_5), ((HB.out.cell (World.block_lt_of_cell? w _ hw214_6)).trans hw214_6), ((HB.out.cell (World.block_lt_of_cell? w _ hw214_7)).trans hw214_7), ((HB.out.cell (World.block_lt_of_cell? w _ hw214_8)).trans hw214_8)⟩ (fun hHeld => ?_)
           clear hK K
           refine norm_ (a' := ?_) ?_ ?_
           rotate_left
           ·show Act.put _ (some 6) _ = _
            simp only [Act.put, List.setIfInBounds_toArray, List.set_cons_zero, List.set_cons_succ, i64_w, i32_w]; rfl
           refine one_ (i := 11) (N := some 7) #[true, true, true, true, true, true, true, true, true, true, true, true, false, false] rfl rfl (one_of HT_.out (by kernel_rfl)) (by decide) (fun K hK => ?_)
           refine box_step ?hg (N := 7) ?hd (cs := #[.string (⟨#[]⟩ : ByteArray), .int .i64 0, .int .i64 0, .int .i64 0, .int .i64 0, .int .i64 0, .slice none 0 0, .int .u64 0, .int .u64 0]) (t := 30) ?hr ?_; (case hd => rfl); (case hg => rfl); (case hr => first | (go_simp; done) | (go_simp; rfl))
           intro gb216 hg w23 hbox hb
           have n0_ := Aside0.mk (blk_below (g := gb211) (o := .cells #[.int .i64 a0_0, .slice (some ad213) l0_1.length c0_1] 24 (0, 0)) (by (with_reducible repeat (first | refine blk_drewN ?_ _ | refine blk_drew ?_ | refine blk_alloc ?_ _)); exact BK211.out) hb)
           have n1_ := Aside0.mk (blk_below (g := gb212) (o := .cells #[.int .i64 a1_0, .slice (some ad214) l1_1.length c1_1] 24 (0, 0)) (by (with_reducible repeat (first | refine blk_drewN ?_ _ | refine blk_drew ?_ | refine blk_alloc ?_ _)); exact BK212.out) hb)
           have n2_ := Aside0.mk (blk_below (g := gb215) (o := .cells #[.string (⟨#[]⟩ : ByteArray), .int .i64 0, .int .i64 0, .int .i64 0, .int .i64 0, .int .i64 0, .slice none 0 0, .int .u64 0, .int .u64 0] 30 (0, 0)) (by (with_reducible repeat (first | refine blk_drewN ?_ _ | refine blk_drew ?_ | refine blk_alloc ?_ _)); exact BK215.out) hb)
           have n3_ := Aside0.mk (below_step (by repeat (first | (with_reducible first | exact HB.out | apply below_alloc | apply pw_below_drewN | apply below_drew1 | refine below_set ?_ GE211.out | refine below_set ?_ GE212.out | refine below_set ?_ GE215.out) | exact HB.out)) hb)
           have n4_ := Aside0.mk (hbox)
           have n5_ := Aside0.mk ((by rw [hg]; exact (below_size (by repeat (first | (with_reducible first | exact HB.out | apply below_alloc | apply pw_below_drewN | apply below_drew1 | refine below_set ?_ GE211.out | refine below_set ?_ GE212.out | refine below_set ?_ GE215.out) | exact HB.out))) : w.heap.size ≤ gb216))
           have n6_ := Aside0.mk ((by rw [hg]; exact (below_size (by repeat (first | (with_reducible first | exact HB.out | apply below_alloc | apply pw_below_drewN | apply below_drew1 | refine below_set ?_ GE211.out | refine below_set ?_ GE212.out | refine below_set ?_ GE215.out) | exact HB.out))) : w.heap.size ≤ gb216))
           have n7_ := Aside0.mk ((by rw [hg]; exact Nat.ne_of_lt (blk_lt (g := gb211) (o := .cells #[.int .i64 a0_0, .slice (some ad213) l0_1.length c0_1] 24 (0, 0)) (by (with_reducible repeat (first | refine blk_drewN ?_ _ | refine blk_drew ?_ | refine blk_alloc ?_ _)); exact BK211.out)) : gb211 ≠ gb216))
           have n8_ := Aside0.mk ((by rw [hg]; exact Nat.ne_of_gt (blk_lt (g := gb211) (o := .cells #[.int .i64 a0_0, .slice (some ad213) l0_1.length c0_1] 24 (0, 0)) (by (with_reducible repeat (first | refine blk_drewN ?_ _ | refine blk_drew ?_ | refine blk_alloc ?_ _)); exact BK211.out)) : gb216 ≠ gb211))
           have n9_ := Aside0.mk ((by rw [hg]; exact Nat.ne_of_lt (blk_lt (g := gb212) (o := .cells #[.int .i64 a1_0, .slice (some ad214) l1_1.length c1_1] 24 (0, 0)) (by (with_reducible repeat (first | refine blk_drewN ?_ _ | refine blk_drew ?_ | refine blk_alloc ?_ _)); exact BK212.out)) : gb212 ≠ gb216))
           have n10_ := Aside0.mk ((by rw [hg]; exact Nat.ne_of_gt (blk_lt (g := gb212) (o := .cells #[.int .i64 a1_0, .slice (some ad214) l1_1.length c1_1] 24 (0, 0)) (by (with_reducible repeat (first | refine blk_drewN ?_ _ | refine blk_drew ?_ | refine blk_alloc ?_ _)); exact BK212.out)) : gb216 ≠ gb212))
           have n11_ := Aside0.mk ((by rw [hg]; exact Nat.ne_of_lt (blk_lt (g := gb215) (o := .cells #[.string (⟨#[]⟩ : ByteArray), .int .i64 0, .int .i64 0, .int .i64 0, .int .i64 0, .int .i64 0, .slice none 0 0, .int .u64 0, .int .u64 0] 30 (0, 0)) (by (with_reducible repeat (first | refine blk_drewN ?_ _ | refine blk_drew ?_ | refine blk_alloc ?_ _)); exact BK215.out)) : gb215 ≠ gb216))
           have n12_ := Aside0.mk ((by rw [hg]; exact Nat.ne_of_gt (blk_lt (g := gb215) (o := .cells #[.string (⟨#[]⟩ : ByteArray), .int .i64 0, .int .i64 0, .int .i64 0, .int .i64 0, .int .i64 0, .slice none 0 0, .int .u64 0, .int .u64 0] 30 (0, 0)) (by (with_reducible repeat (first | refine blk_drewN ?_ _ | refine blk_drew ?_ | refine blk_alloc ?_ _)); exact BK215.out)) : gb216 ≠ gb215))
           clear BK211; clear BK212; clear BK215; clear HB
           have BK211 := n0_
           have BK212 := n1_
           have BK215 := n2_
           have HB := n3_
           have BK216 := n4_
           have GW216 := n5_
           have GE216 := n6_
           have NB211_216 := n7_
           have NB216_211 := n8_
           have NB212_216 := n9_
           have NB216_212 := n10_
           have NB215_216 := n11_
           have NB216_215 := n12_
           clear n0_ n1_ n2_ n3_ n4_ n5_ n6_ n7_ n8_ n9_ n10_ n11_ n12_; clear hb hbox hg
           refine hK.out _ _ ⟨(blk_cell BK211.out 0).trans rfl, (blk_cell BK211.out 1).trans rfl, (blk_cell BK212.out 0).trans rfl, (blk_cell BK212.out 1).trans rfl, ((HB.out.cell (World.block_lt_of_cell? w _ hw213_0)).trans hw213_0), ((HB.out.cell (World.block_lt_of_cell? w _ hw213_1)).trans hw213_1), ((HB.out.cell (World.block_lt_of_cell? w _ hw213_2)).trans hw213_2), ((HB.out.cell (World.block_lt_of_cell? w _ hw213_3)).trans hw213_3), ((HB.out.cell (World.block_lt_of_cell? w _ hw213_4)).trans hw213_4), ((HB.out.cell (World.block_lt_of_cell? w _ hw213_5)).trans hw213_5), ((HB.out.cell (World.block_lt_of_cell? w _ hw213_6)).trans hw213_6), ((HB.out.cell (World.block_lt_of_cell? w _ hw213_7)).trans hw213_7), ((HB.out.cell (World.block_lt_of_cell? w _ hw213_8)).trans hw213_8), ((HB.out.cell (World.block_lt_of_cell? w _ hw214_0)).trans hw214_0), ((HB.out.cell (World.block_lt_of_cell? w _ hw214_1)).trans hw214_1), ((HB.out.cell (World.block_lt_of_cell? w _ hw214_2)).trans hw214_2), ((HB.out.cell (World.block_lt_of_cell? w _ hw214_3)).trans hw214_3), ((HB.out.cell (World.block_lt_of_cell? w _ hw214_4)).trans hw214_4), ((HB.out.cell (World.block_lt_of_cell? w _ hw214_5)).trans hw214_5), ((HB.out.cell (World.block_lt_of_cell? w _ hw214_6)).trans hw214_6), ((HB.out.cell (World.block_lt_of_cell? w _ hw214_7)).trans hw214_7), ((HB.out.cell (World.block_lt_of_cell? w _ hw214_8)).trans hw214_8)⟩ (fun hHeld => ?_)
           clear hK K
           refine norm_ (a' := ?_) ?_ ?_
           rotate_left
           ·show Act.put _ (some 7) _ = _
            simp only [Act.put, List.setIfInBounds_toArray, List.set_cons_zero, List.set_cons_succ, i64_w, i32_w]; rfl
           exact norm_ (by simp only [putAll, Act.put, List.setIfInBounds_toArray, List.set_cons_zero, List.set_cons_succ]) (hCont (gb215, gb216) _ ⟨hHeld, (by (with_reducible repeat (first | refine blk_drewN ?_ _ | refine blk_drew ?_ | refine blk_alloc ?_ _)); exact BK211.out), (by (with_reducible repeat (first | refine blk_drewN ?_ _ | refine blk_drew ?_ | refine blk_alloc ?_ _)); exact BK212.out), (by (with_reducible repeat (first | refine blk_drewN ?_ _ | refine blk_drew ?_ | refine blk_alloc ?_ _)); exact BK215.out), (by (with_reducible repeat (first | refine blk_drewN ?_ _ | refine blk_drew ?_ | refine blk_alloc ?_ _)); exact BK216.out), GW215.out, GE215.out, NB211_215.out, NB215_211.out, NB212_215.out, NB215_212.out, NB216_215.out, NB215_216.out, GW216.out, GE216.out, NB211_216.out, NB216_211.out, NB212_216.out, NB216_212.out, (by repeat (first | (with_reducible first | exact HB.out | apply below_alloc | apply pw_below_drewN | apply below_drew1 | refine below_set ?_ GE211.out | refine below_set ?_ GE212.out | refine below_set ?_ GE215.out | refine below_set ?_ GE216.out) | exact HB.out))⟩)
          ·skip
           refine box_step ?hg (N := 7) ?hd (cs := #[.string (⟨#[]⟩ : ByteArray), .int .i64 0, .int .i64 0, .int .i64 0, .int .i64 0, .int .i64 0, .slice none 0 0, .int .u64 0, .int .u64 0]) (t := 30) ?hr ?_; (case hd => rfl); (case hg => rfl); (case hr => first | (go_simp; done) | (go_simp; rfl))
           intro gb216 hg w22 hbox hb
           have n0_ := Aside0.mk (blk_below (g := gb211) (o := .cells #[.int .i64 a0_0, .slice (some ad213) l0_1.length c0_1] 24 (0, 0)) (by (with_reducible repeat (first | refine blk_drewN ?_ _ | refine blk_drew ?_ | refine blk_alloc ?_ _)); exact BK211.out) hb)
           have n1_ := Aside0.mk (blk_below (g := gb212) (o := .cells #[.int .i64 a1_0, .slice (some ad214) l1_1.length c1_1] 24 (0, 0)) (by (with_reducible repeat (first | refine blk_drewN ?_ _ | refine blk_drew ?_ | refine blk_alloc ?_ _)); exact BK212.out) hb)
           have n2_ := Aside0.mk (below_step (by repeat (first | (with_reducible first | exact HB.out | apply below_alloc | apply pw_below_drewN | apply below_drew1 | refine below_set ?_ GE211.out | refine below_set ?_ GE212.out) | exact HB.out)) hb)
           have n3_ := Aside0.mk (hbox)
           have n4_ := Aside0.mk ((by rw [hg]; exact (below_size (by repeat (first | (with_reducible first | exact HB.out | apply below_alloc | apply pw_below_drewN | apply below_drew1 | refine below_set ?_ GE211.out | refine below_set ?_ GE212.out) | exact HB.out))) : w.heap.size ≤ gb216))
           have n5_ := Aside0.mk ((by rw [hg]; exact (below_size (by repeat (first | (with_reducible first | exact HB.out | apply below_alloc | apply pw_below_drewN | apply below_drew1 | refine below_set ?_ GE211.out | refine below_set ?_ GE212.out) | exact HB.out))) : w.heap.size ≤ gb216))
           have n6_ := Aside0.mk ((by rw [hg]; exact Nat.ne_of_lt (blk_lt (g := gb211) (o := .cells #[.int .i64 a0_0, .slice (some ad213) l0_1.length c0_1] 24 (0, 0)) (by (with_reducible repeat (first | refine blk_drewN ?_ _ | refine blk_drew ?_ | refine blk_alloc ?_ _)); exact BK211.out)) : gb211 ≠ gb216))
           have n7_ := Aside0.mk ((by rw [hg]; exact Nat.ne_of_gt (blk_lt (g := gb211) (o := .cells #[.int .i64 a0_0, .slice (some ad213) l0_1.length c0_1] 24 (0, 0)) (by (with_reducible repeat (first | refine blk_drewN ?_ _ | refine blk_drew ?_ | refine blk_alloc ?_ _)); exact BK211.out)) : gb216 ≠ gb211))
           have n8_ := Aside0.mk ((by rw [hg]; exact Nat.ne_of_lt (blk_lt (g := gb212) (o := .cells #[.int .i64 a1_0, .slice (some ad214) l1_1.length c1_1] 24 (0, 0)) (by (with_reducible repeat (first | refine blk_drewN ?_ _ | refine blk_drew ?_ | refine blk_alloc ?_ _)); exact BK212.out)) : gb212 ≠ gb216))
           have n9_ := Aside0.mk ((by rw [hg]; exact Nat.ne_of_gt (blk_lt (g := gb212) (o := .cells #[.int .i64 a1_0, .slice (some ad214) l1_1.length c1_1] 24 (0, 0)) (by (with_reducible repeat (first | refine blk_drewN ?_ _ | refine blk_drew ?_ | refine blk_alloc ?_ _)); exact BK212.out)) : gb216 ≠ gb212))
           clear BK211; clear BK212; clear HB
           have BK211 := n0_
           have BK212 := n1_
           have HB := n2_
           have BK216 := n3_
           have GW216 := n4_
           have GE216 := n5_
           have NB211_216 := n6_
           have NB216_211 := n7_
           have NB212_216 := n8_
           have NB216_212 := n9_
           clear n0_ n1_ n2_ n3_ n4_ n5_ n6_ n7_ n8_ n9_; clear hb hbox hg
           refine hK.out _ _ ⟨(blk_cell BK211.out 0).trans rfl, (blk_cell BK211.out 1).trans rfl, (blk_cell BK212.out 0).trans rfl, (blk_cell BK212.out 1).trans rfl, ((HB.out.cell (World.block_lt_of_cell? w _ hw213_0)).trans hw213_0), ((HB.out.cell (World.block_lt_of_cell? w _ hw213_1)).trans hw213_1), ((HB.out.cell (World.block_lt_of_cell? w _ hw213_2)).trans hw213_2), ((HB.out.cell (World.block_lt_of_cell? w _ hw213_3)).trans hw213_3), ((HB.out.cell (World.block_lt_of_cell? w _ hw213_4)).trans hw213_4), ((HB.out.cell (World.block_lt_of_cell? w _ hw213_5)).trans hw213_5), ((HB.out.cell (World.block_lt_of_cell? w _ hw213_6)).trans hw213_6), ((HB.out.cell (World.block_lt_of_cell? w _ hw213_7)).trans hw213_7), ((HB.out.cell (World.block_lt_of_cell? w _ hw213_8)).trans hw213_8), ((HB.out.cell (World.block_lt_of_cell? w _ hw214_0)).trans hw214_0), ((HB.out.cell (World.block_lt_of_cell? w _ hw214_1)).trans hw214_1), ((HB.out.cell (World.block_lt_of_cell? w _ hw214_2)).trans hw214_2), ((HB.out.cell (World.block_lt_of_cell? w _ hw214_3)).trans hw214_3), ((HB.out.cell (World.block_lt_of_cell? w _ hw214_4)).trans hw214_4), ((HB.out.cell (World.block_lt_of_cell? w _ hw214_5)).trans hw214_5), ((HB.out.cell (World.block_lt_of_cell? w _ hw214_6)).trans hw214_6), ((HB.out.cell (World.block_lt_of_cell? w _ hw214_7)).trans hw214_7), ((HB.out.cell (World.block_lt_of_cell? w _ hw214_8)).trans hw214_8)⟩ (fun hHeld => ?_)
           clear hK K
           refine norm_ (a' := ?_) ?_ ?_
           rotate_left
           ·show Act.put _ (some 7) _ = _
            simp only [Act.put, List.setIfInBounds_toArray, List.set_cons_zero, List.set_cons_succ, i64_w, i32_w]; rfl
           refine one_ (i := 10) (N := some 6) #[true, true, true, true, true, true, true, true, true, true, true, true, false, false] rfl rfl (one_of HT_.out (by kernel_rfl)) (by decide) (fun K hK => ?_)
           refine box_step ?hg (N := 6) ?hd (cs := #[.string (⟨#[]⟩ : ByteArray), .int .i64 0, .int .i64 0, .int .i64 0, .int .i64 0, .int .i64 0, .slice none 0 0, .int .u64 0, .int .u64 0]) (t := 30) ?hr ?_; (case hd => rfl); (case hg => rfl); (case hr => first | (go_simp; done) | (go_simp; rfl))
           intro gb215 hg w23 hbox hb
           have n0_ := Aside0.mk (blk_below (g := gb211) (o := .cells #[.int .i64 a0_0, .slice (some ad213) l0_1.length c0_1] 24 (0, 0)) (by (with_reducible repeat (first | refine blk_drewN ?_ _ | refine blk_drew ?_ | refine blk_alloc ?_ _)); exact BK211.out) hb)
           have n1_ := Aside0.mk (blk_below (g := gb212) (o := .cells #[.int .i64 a1_0, .slice (some ad214) l1_1.length c1_1] 24 (0, 0)) (by (with_reducible repeat (first | refine blk_drewN ?_ _ | refine blk_drew ?_ | refine blk_alloc ?_ _)); exact BK212.out) hb)
           have n2_ := Aside0.mk (blk_below (g := gb216) (o := .cells #[.string (⟨#[]⟩ : ByteArray), .int .i64 0, .int .i64 0, .int .i64 0, .int .i64 0, .int .i64 0, .slice none 0 0, .int .u64 0, .int .u64 0] 30 (0, 0)) (by (with_reducible repeat (first | refine blk_drewN ?_ _ | refine blk_drew ?_ | refine blk_alloc ?_ _)); exact BK216.out) hb)
           have n3_ := Aside0.mk (below_step (by repeat (first | (with_reducible first | exact HB.out | apply below_alloc | apply pw_below_drewN | apply below_drew1 | refine below_set ?_ GE211.out | refine below_set ?_ GE212.out | refine below_set ?_ GE216.out) | exact HB.out)) hb)
           have n4_ := Aside0.mk (hbox)
           have n5_ := Aside0.mk ((by rw [hg]; exact (below_size (by repeat (first | (with_reducible first | exact HB.out | apply below_alloc | apply pw_below_drewN | apply below_drew1 | refine below_set ?_ GE211.out | refine below_set ?_ GE212.out | refine below_set ?_ GE216.out) | exact HB.out))) : w.heap.size ≤ gb215))
           have n6_ := Aside0.mk ((by rw [hg]; exact (below_size (by repeat (first | (with_reducible first | exact HB.out | apply below_alloc | apply pw_below_drewN | apply below_drew1 | refine below_set ?_ GE211.out | refine below_set ?_ GE212.out | refine below_set ?_ GE216.out) | exact HB.out))) : w.heap.size ≤ gb215))
           have n7_ := Aside0.mk ((by rw [hg]; exact Nat.ne_of_lt (blk_lt (g := gb211) (o := .cells #[.int .i64 a0_0, .slice (some ad213) l0_1.length c0_1] 24 (0, 0)) (by (with_reducible repeat (first | refine blk_drewN ?_ _ | refine blk_drew ?_ | refine blk_alloc ?_ _)); exact BK211.out)) : gb211 ≠ gb215))
           have n8_ := Aside0.mk ((by rw [hg]; exact Nat.ne_of_gt (blk_lt (g := gb211) (o := .cells #[.int .i64 a0_0, .slice (some ad213) l0_1.length c0_1] 24 (0, 0)) (by (with_reducible repeat (first | refine blk_drewN ?_ _ | refine blk_drew ?_ | refine blk_alloc ?_ _)); exact BK211.out)) : gb215 ≠ gb211))
           have n9_ := Aside0.mk ((by rw [hg]; exact Nat.ne_of_lt (blk_lt (g := gb212) (o := .cells #[.int .i64 a1_0, .slice (some ad214) l1_1.length c1_1] 24 (0, 0)) (by (with_reducible repeat (first | refine blk_drewN ?_ _ | refine blk_drew ?_ | refine blk_alloc ?_ _)); exact BK212.out)) : gb212 ≠ gb215))
           have n10_ := Aside0.mk ((by rw [hg]; exact Nat.ne_of_gt (blk_lt (g := gb212) (o := .cells #[.int .i64 a1_0, .slice (some ad214) l1_1.length c1_1] 24 (0, 0)) (by (with_reducible repeat (first | refine blk_drewN ?_ _ | refine blk_drew ?_ | refine blk_alloc ?_ _)); exact BK212.out)) : gb215 ≠ gb212))
           have n11_ := Aside0.mk ((by rw [hg]; exact Nat.ne_of_lt (blk_lt (g := gb216) (o := .cells #[.string (⟨#[]⟩ : ByteArray), .int .i64 0, .int .i64 0, .int .i64 0, .int .i64 0, .int .i64 0, .slice none 0 0, .int .u64 0, .int .u64 0] 30 (0, 0)) (by (with_reducible repeat (first | refine blk_drewN ?_ _ | refine blk_drew ?_ | refine blk_alloc ?_ _)); exact BK216.out)) : gb216 ≠ gb215))
           have n12_ := Aside0.mk ((by rw [hg]; exact Nat.ne_of_gt (blk_lt (g := gb216) (o := .cells #[.string (⟨#[]⟩ : ByteArray), .int .i64 0, .int .i64 0, .int .i64 0, .int .i64 0, .int .i64 0, .slice none 0 0, .int .u64 0, .int .u64 0] 30 (0, 0)) (by (with_reducible repeat (first | refine blk_drewN ?_ _ | refine blk_drew ?_ | refine blk_alloc ?_ _)); exact BK216.out)) : gb215 ≠ gb216))
           clear BK211; clear BK212; clear BK216; clear HB
           have BK211 := n0_
           have BK212 := n1_
           have BK216 := n2_
           have HB := n3_
           have BK215 := n4_
           have GW215 := n5_
           have GE215 := n6_
           have NB211_215 := n7_
           have NB215_211 := n8_
           have NB212_215 := n9_
           have NB215_212 := n10_
           have NB216_215 := n11_
           have NB215_216 := n12_
           clear n0_ n1_ n2_ n3_ n4_ n5_ n6_ n7_ n8_ n9_ n10_ n11_ n12_; clear hb hbox hg
           refine hK.out _ _ ⟨(blk_cell BK211.out 0).trans rfl, (blk_cell BK211.out 1).trans rfl, (blk_cell BK212.out 0).trans rfl, (blk_cell BK212.out 1).trans rfl, ((HB.out.cell (World.block_lt_of_cell? w _ hw213_0)).trans hw213_0), ((HB.out.cell (World.block_lt_of_cell? w _ hw213_1)).trans hw213_1), ((HB.out.cell (World.block_lt_of_cell? w _ hw213_2)).trans hw213_2), ((HB.out.cell (World.block_lt_of_cell? w _ hw213_3)).trans hw213_3), ((HB.out.cell (World.block_lt_of_cell? w _ hw213_4)).trans hw213_4), ((HB.out.cell (World.block_lt_of_cell? w _ hw213_5)).trans hw213_5), ((HB.out.cell (World.block_lt_of_cell? w _ hw213_6)).trans hw213_6), ((HB.out.cell (World.block_lt_of_cell? w _ hw213_7)).trans hw213_7), ((HB.out.cell (World.block_lt_of_cell? w _ hw213_8)).trans hw213_8), ((HB.out.cell (World.block_lt_of_cell? w _ hw214_0)).trans hw214_0), ((HB.out.cell (World.block_lt_of_cell? w _ hw214_1)).trans hw214_1), ((HB.out.cell (World.block_lt_of_cell? w _ hw214_2)).trans hw214_2), ((HB.out.cell (World.block_lt_of_cell? w _ hw214_3)).trans hw214_3), ((HB.out.cell (World.block_lt_of_cell? w _ hw214_4)).trans hw214_4), ((HB.out.cell (World.block_lt_of_cell? w _ hw214_5)).trans hw214_5), ((HB.out.cell (World.block_lt_of_cell? w _ hw214_6)).trans hw214_6), ((HB.out.cell (World.block_lt_of_cell? w _ hw214_7)).trans hw214_7), ((HB.out.cell (World.block_lt_of_cell? w _ hw214_8)).trans hw214_8)⟩ (fun hHeld => ?_)
           clear hK K
           refine norm_ (a' := ?_) ?_ ?_
           rotate_left
           ·show Act.put _ (some 6) _ = _
            simp only [Act.put, List.setIfInBounds_toArray, List.set_cons_zero, List.set_cons_succ, i64_w, i32_w]; rfl
           exact norm_ (by simp only [putAll, Act.put, List.setIfInBounds_toArray, List.set_cons_zero, List.set_cons_succ]) (hCont (gb215, gb216) _ ⟨hHeld, (by (with_reducible repeat (first | refine blk_drewN ?_ _ | refine blk_drew ?_ | refine blk_alloc ?_ _)); exact BK211.out), (by (with_reducible repeat (first | refine blk_drewN ?_ _ | refine blk_drew ?_ | refine blk_alloc ?_ _)); exact BK212.out), (by (with_reducible repeat (first | refine blk_drewN ?_ _ | refine blk_drew ?_ | refine blk_alloc ?_ _)); exact BK215.out), (by (with_reducible repeat (first | refine blk_drewN ?_ _ | refine blk_drew ?_ | refine blk_alloc ?_ _)); exact BK216.out), GW215.out, GE215.out, NB211_215.out, NB215_211.out, NB212_215.out, NB215_212.out, NB216_215.out, NB215_216.out, GW216.out, GE216.out, NB211_216.out, NB216_211.out, NB212_216.out, NB216_212.out, (by repeat (first | (with_reducible first | exact HB.out | apply below_alloc | apply pw_below_drewN | apply below_drew1 | refine below_set ?_ GE211.out | refine below_set ?_ GE212.out | refine below_set ?_ GE216.out | refine below_set ?_ GE215.out) | exact HB.out))⟩)
         rintro ⟨gb215, gb216⟩ w24 ⟨hS_, h0_, h1_, h2_, h3_, h4_, h5_, h6_, h7_, h8_, h9_, h10_, h11_, h12_, h13_, h14_, h15_, h16_, h17_, h18_⟩
         have n0_ : Aside0 (w24.heap[gb211]? = some (.cells #[.int .i64 a0_0, .slice (some ad213) l0_1.length c0_1] 24 (0, 0))) := ⟨h0_⟩
         have n1_ : Aside0 (w24.heap[gb212]? = some (.cells #[.int .i64 a1_0, .slice (some ad214) l1_1.length c1_1] 24 (0, 0))) := ⟨h1_⟩
         have n2_ : Aside0 (w24.heap[gb215]? = some (.cells #[.string (⟨#[]⟩ : ByteArray), .int .i64 0, .int .i64 0, .int .i64 0, .int .i64 0, .int .i64 0, .slice none 0 0, .int .u64 0, .int .u64 0] 30 (0, 0))) := ⟨h2_⟩
         have n3_ : Aside0 (w24.heap[gb216]? = some (.cells #[.string (⟨#[]⟩ : ByteArray), .int .i64 0, .int .i64 0, .int .i64 0, .int .i64 0, .int .i64 0, .slice none 0 0, .int .u64 0, .int .u64 0] 30 (0, 0))) := ⟨h3_⟩
         have n4_ : Aside0 (w.heap.size ≤ gb215) := ⟨h4_⟩
         have n5_ : Aside0 (w.heap.size ≤ gb215) := ⟨h5_⟩
         have n6_ : Aside0 (gb211 ≠ gb215) := ⟨h6_⟩
         have n7_ : Aside0 (gb215 ≠ gb211) := ⟨h7_⟩
         have n8_ : Aside0 (gb212 ≠ gb215) := ⟨h8_⟩
         have n9_ : Aside0 (gb215 ≠ gb212) := ⟨h9_⟩
         have n10_ : Aside0 (gb216 ≠ gb215) := ⟨h10_⟩
         have n11_ : Aside0 (gb215 ≠ gb216) := ⟨h11_⟩
         have n12_ : Aside0 (w.heap.size ≤ gb216) := ⟨h12_⟩
         have n13_ : Aside0 (w.heap.size ≤ gb216) := ⟨h13_⟩
         have n14_ : Aside0 (gb211 ≠ gb216) := ⟨h14_⟩
         have n15_ : Aside0 (gb216 ≠ gb211) := ⟨h15_⟩
         have n16_ : Aside0 (gb212 ≠ gb216) := ⟨h16_⟩
         have n17_ : Aside0 (gb216 ≠ gb212) := ⟨h17_⟩
         have n18_ : Aside0 (Below w.heap.size w w24) := ⟨h18_⟩
         clear BK211; clear BK212; clear HB; clear h0_ h1_ h2_ h3_ h4_ h5_ h6_ h7_ h8_ h9_ h10_ h11_ h12_ h13_ h14_ h15_ h16_ h17_ h18_
         have BK211 := n0_
         have BK212 := n1_
         have BK215 := n2_
         have BK216 := n3_
         have GW215 := n4_
         have GE215 := n5_
         have NB211_215 := n6_
         have NB215_211 := n7_
         have NB212_215 := n8_
         have NB215_212 := n9_
         have NB216_215 := n10_
         have NB215_216 := n11_
         have GW216 := n12_
         have GE216 := n13_
         have NB211_216 := n14_
         have NB216_211 := n15_
         have NB212_216 := n16_
         have NB216_212 := n17_
         have HB := n18_
         clear n0_ n1_ n2_ n3_ n4_ n5_ n6_ n7_ n8_ n9_ n10_ n11_ n12_ n13_ n14_ n15_ n16_ n17_ n18_
         have hHeld : w24.cell? ⟨gb211, 0, none⟩ = some (.int .i64 a0_0) ∧ w24.cell? ⟨gb211, 1, none⟩ = some (.slice (some ad213) l0_1.length c0_1) ∧ w24.cell? ⟨gb212, 0, none⟩ = some (.int .i64 a1_0) ∧ w24.cell? ⟨gb212, 1, none⟩ = some (.slice (some ad214) l1_1.length c1_1) ∧ w24.cell? (ad213.add ((x5_2).toNat * 9)) = some (.string ((rd_T30 l0_1 x5_2).f0)) ∧ w24.cell? ⟨(ad213.add ((x5_2).toNat * 9)).block, (ad213.add ((x5_2).toNat * 9)).off + 1, none⟩ = some (.int .i64 ((rd_T30 l0_1 x5_2).f1)) ∧ w24.cell? ⟨(ad213.add ((x5_2).toNat * 9)).block, (ad213.add ((x5_2).toNat * 9)).off + 2, none⟩ = some (.int .i64 ((rd_T30 l0_1 x5_2).f2)) ∧ w24.cell? ⟨(ad213.add ((x5_2).toNat * 9)).block, (ad213.add ((x5_2).toNat * 9)).off + 3, none⟩ = some (.int .i64 ((rd_T30 l0_1 x5_2).f3)) ∧ w24.cell? ⟨(ad213.add ((x5_2).toNat * 9)).block, (ad213.add ((x5_2).toNat * 9)).off + 4, none⟩ = some (.int .i64 ((rd_T30 l0_1 x5_2).f4)) ∧ w24.cell? ⟨(ad213.add ((x5_2).toNat * 9)).block, (ad213.add ((x5_2).toNat * 9)).off + 5, none⟩ = some (.int .i64 ((rd_T30 l0_1 x5_2).f5)) ∧ w24.cell? ⟨(ad213.add ((x5_2).toNat * 9)).block, (ad213.add ((x5_2).toNat * 9)).off + 6, none⟩ = some (.slice A213_6 ((rd_T30 l0_1 x5_2).f6).length c213_6) ∧ w24.cell? ⟨(ad213.add ((x5_2).toNat * 9)).block, (ad213.add ((x5_2).toNat * 9)).off + 7, none⟩ = some (.int .u64 ((rd_T30 l0_1 x5_2).f7)) ∧ w24.cell? ⟨(ad213.add ((x5_2).toNat * 9)).block, (ad213.add ((x5_2).toNat * 9)).off + 8, none⟩ = some (.int .u64 ((rd_T30 l0_1 x5_2).f8)) ∧ w24.cell? (ad214.add ((x5_2).toNat * 9)) = some (.string ((rd_T30 l1_1 x5_2).f0)) ∧ w24.cell? ⟨(ad214.add ((x5_2).toNat * 9)).block, (ad214.add ((x5_2).toNat * 9)).off + 1, none⟩ = some (.int .i64 ((rd_T30 l1_1 x5_2).f1)) ∧ w24.cell? ⟨(ad214.add ((x5_2).toNat * 9)).block, (ad214.add ((x5_2).toNat * 9)).off + 2, none⟩ = some (.int .i64 ((rd_T30 l1_1 x5_2).f2)) ∧ w24.cell? ⟨(ad214.add ((x5_2).toNat * 9)).block, (ad214.add ((x5_2).toNat * 9)).off + 3, none⟩ = some (.int .i64 ((rd_T30 l1_1 x5_2).f3)) ∧ w24.cell? ⟨(ad214.add ((x5_2).toNat * 9)).block, (ad214.add ((x5_2).toNat * 9)).off + 4, none⟩ = some (.int .i64 ((rd_T30 l1_1 x5_2).f4)) ∧ w24.cell? ⟨(ad214.add ((x5_2).toNat * 9)).block, (ad214.add ((x5_2).toNat * 9)).off + 5, none⟩ = some (.int .i64 ((rd_T30 l1_1 x5_2).f5)) ∧ w24.cell? ⟨(ad214.add ((x5_2).toNat * 9)).block, (ad214.add ((x5_2).toNat * 9)).off + 6, none⟩ = some (.slice A214_6 ((rd_T30 l1_1 x5_2).f6).length c214_6) ∧ w24.cell? ⟨(ad214.add ((x5_2).toNat * 9)).block, (ad214.add ((x5_2).toNat * 9)).off + 7, none⟩ = some (.int .u64 ((rd_T30 l1_1 x5_2).f7)) ∧ w24.cell? ⟨(ad214.add ((x5_2).toNat * 9)).block, (ad214.add ((x5_2).toNat * 9)).off + 8, none⟩ = some (.int .u64 ((rd_T30 l1_1 x5_2).f8)) := hS_
         refine norm_ (a' := ?_) ?_ ?_
         rotate_left; · simp only [putAll, Act.put, List.setIfInBounds_toArray, List.set_cons_zero, List.set_cons_succ]; rfl
         refine one_ (i := 12) (N := none) #[true, true, true, true, true, true, true, true, true, true, true, true, true, false] rfl rfl (one_of HT_.out (by kernel_rfl)) (by decide) (fun K hK => ?_)
         have hs25 : w24.cell? ⟨gb215, 0, none⟩ = some (.string (⟨#[]⟩ : ByteArray)) := (blk_cell BK215.out 0).trans rfl
         have hfs25 := blk_frozen BK215.out 0
         have hns25_0 := NB211_215.out
         have hns25_1 := NB212_215.out
         have hns25_3 := NB216_215.out
         have hms25_0 := NB215_211.out
         have hms25_1 := NB215_212.out
         have hms25_3 := NB215_216.out
         have hs26 : w24.cell? ⟨gb215, 1, none⟩ = some (.int .i64 0) := (blk_cell BK215.out 1).trans rfl
         have hfs26 := blk_frozen BK215.out 1
         have hns26_0 := NB211_215.out
         have hns26_1 := NB212_215.out
         have hns26_3 := NB216_215.out
         have hms26_0 := NB215_211.out
         have hms26_1 := NB215_212.out
         have hms26_3 := NB215_216.out
         have hs27 : w24.cell? ⟨gb215, 2, none⟩ = some (.int .i64 0) := (blk_cell BK215.out 2).trans rfl
         have hfs27 := blk_frozen BK215.out 2
         have hns27_0 := NB211_215.out
         have hns27_1 := NB212_215.out
         have hns27_3 := NB216_215.out
         have hms27_0 := NB215_211.out
         have hms27_1 := NB215_212.out
         have hms27_3 := NB215_216.out
         have hs28 : w24.cell? ⟨gb215, 3, none⟩ = some (.int .i64 0) := (blk_cell BK215.out 3).trans rfl
         have hfs28 := blk_frozen BK215.out 3
         have hns28_0 := NB211_215.out
         have hns28_1 := NB212_215.out
         have hns28_3 := NB216_215.out
         have hms28_0 := NB215_211.out
         have hms28_1 := NB215_212.out
         have hms28_3 := NB215_216.out
         have hs29 : w24.cell? ⟨gb215, 4, none⟩ = some (.int .i64 0) := (blk_cell BK215.out 4).trans rfl
         have hfs29 := blk_frozen BK215.out 4
         have hns29_0 := NB211_215.out
         have hns29_1 := NB212_215.out
         have hns29_3 := NB216_215.out
         have hms29_0 := NB215_211.out
         have hms29_1 := NB215_212.out
         have hms29_3 := NB215_216.out
         have hs30 : w24.cell? ⟨gb215, 5, none⟩ = some (.int .i64 0) := (blk_cell BK215.out 5).trans rfl
         have hfs30 := blk_frozen BK215.out 5
         have hns30_0 := NB211_215.out
         have hns30_1 := NB212_215.out
         have hns30_3 := NB216_215.out
         have hms30_0 := NB215_211.out
         have hms30_1 := NB215_212.out
         have hms30_3 := NB215_216.out
         have hs31 : w24.cell? ⟨gb215, 6, none⟩ = some (.slice none 0 0) := (blk_cell BK215.out 6).trans rfl
         have hfs31 := blk_frozen BK215.out 6
         have hns31_0 := NB211_215.out
         have hns31_1 := NB212_215.out
         have hns31_3 := NB216_215.out
         have hms31_0 := NB215_211.out
         have hms31_1 := NB215_212.out
         have hms31_3 := NB215_216.out
         have hs32 : w24.cell? ⟨gb215, 7, none⟩ = some (.int .u64 0) := (blk_cell BK215.out 7).trans rfl
         have hfs32 := blk_frozen BK215.out 7
         have hns32_0 := NB211_215.out
         have hns32_1 := NB212_215.out
         have hns32_3 := NB216_215.out
         have hms32_0 := NB215_211.out
         have hms32_1 := NB215_212.out
         have hms32_3 := NB215_216.out
         have hs33 : w24.cell? ⟨gb215, 8, none⟩ = some (.int .u64 0) := (blk_cell BK215.out 8).trans rfl
         have hfs33 := blk_frozen BK215.out 8
         have hns33_0 := NB211_215.out
         have hns33_1 := NB212_215.out
         have hns33_3 := NB216_215.out
         have hms33_0 := NB215_211.out
         have hms33_1 := NB215_212.out
         have hms33_3 := NB215_216.out
         refine skip_ (w1 := ?_) (by rfl) rfl ?_ ?_
         rotate_left; · go_simp; rfl
         refine hK.out _ _ ⟨far9 NB211_215.out hHeld.1, far9 NB211_215.out hHeld.2.1, far9 NB212_215.out hHeld.2.2.1, far9 NB212_215.out hHeld.2.2.2.1, far9 (by first | exact Nat.ne_of_lt (Nat.lt_of_lt_of_le (by have := World.block_lt_of_cell? _ _ hw213_0; first | rwa [add_block] at this | exact this) GW215.out) | (rw [add_block]; exact Nat.ne_of_lt (Nat.lt_of_lt_of_le (by have := World.block_lt_of_cell? _ _ hw213_0; first | rwa [add_block] at this | exact this) GW215.out)) | (show (Addr.add _ _).block ≠ _; rw [add_block]; exact Nat.ne_of_lt (Nat.lt_of_lt_of_le (by have := World.block_lt_of_cell? _ _ hw213_0; first | rwa [add_block] at this | exact this) GW215.out)) | (dsimp only; exact Nat.ne_of_lt (Nat.lt_of_lt_of_le (by have := World.block_lt_of_cell? _ _ hw213_0; first | rwa [add_block] at this | exact this) GW215.out))) hHeld.2.2.2.2.1, far9 (by first | exact Nat.ne_of_lt (Nat.lt_of_lt_of_le (by have := World.block_lt_of_cell? _ _ hw213_1; first | rwa [add_block] at this | exact this) GW215.out) | (rw [add_block]; exact Nat.ne_of_lt (Nat.lt_of_lt_of_le (by have := World.block_lt_of_cell? _ _ hw213_1; first | rwa [add_block] at this | exact this) GW215.out)) | (show (Addr.add _ _).block ≠ _; rw [add_block]; exact Nat.ne_of_lt (Nat.lt_of_lt_of_le (by have := World.block_lt_of_cell? _ _ hw213_1; first | rwa [add_block] at this | exact this) GW215.out)) | (dsimp only; exact Nat.ne_of_lt (Nat.lt_of_lt_of_le (by have := World.block_lt_of_cell? _ _ hw213_1; first | rwa [add_block] at this | exact this) GW215.out))) hHeld.2.2.2.2.2.1, far9 (by first | exact Nat.ne_of_lt (Nat.lt_of_lt_of_le (by have := World.block_lt_of_cell? _ _ hw213_2; first | rwa [add_block] at this | exact this) GW215.out) | (rw [add_block]; exact Nat.ne_of_lt (Nat.lt_of_lt_of_le (by have := World.block_lt_of_cell? _ _ hw213_2; first | rwa [add_block] at this | exact this) GW215.out)) | (show (Addr.add _ _).block ≠ _; rw [add_block]; exact Nat.ne_of_lt (Nat.lt_of_lt_of_le (by have := World.block_lt_of_cell? _ _ hw213_2; first | rwa [add_block] at this | exact this) GW215.out)) | (dsimp only; exact Nat.ne_of_lt (Nat.lt_of_lt_of_le (by have := World.block_lt_of_cell? _ _ hw213_2; first | rwa [add_block] at this | exact this) GW215.out))) hHeld.2.2.2.2.2.2.1, far9 (by first | exact Nat.ne_of_lt (Nat.lt_of_lt_of_le (by have := World.block_lt_of_cell? _ _ hw213_3; first | rwa [add_block] at this | exact this) GW215.out) | (rw [add_block]; exact Nat.ne_of_lt (Nat.lt_of_lt_of_le (by have := World.block_lt_of_cell? _ _ hw213_3; first | rwa [add_block] at this | exact this) GW215.out)) | (show (Addr.add _ _).block ≠ _; rw [add_block]; exact Nat.ne_of_lt (Nat.lt_of_lt_of_le (by have := World.block_lt_of_cell? _ _ hw213_3; first | rwa [add_block] at this | exact this) GW215.out)) | (dsimp only; exact Nat.ne_of_lt (Nat.lt_of_lt_of_le (by have := World.block_lt_of_cell? _ _ hw213_3; first | rwa [add_block] at this | exact this) GW215.out))) hHeld.2.2.2.2.2.2.2.1, far9 (by first | exact Nat.ne_of_lt (Nat.lt_of_lt_of_le (by have := World.block_lt_of_cell? _ _ hw213_4; first | rwa [add_block] at this | exact this) GW215.out) | (rw [add_block]; exact Nat.ne_of_lt (Nat.lt_of_lt_of_le (by have := World.block_lt_of_cell? _ _ hw213_4; first | rwa [add_block] at this | exact this) GW215.out)) | (show (Addr.add _ _).block ≠ _; rw [add_block]; exact Nat.ne_of_lt (Nat.lt_of_lt_of_le (by have := World.block_lt_of_cell? _ _ hw213_4; first | rwa [add_block] at this | exact this) GW215.out)) | (dsimp only; exact Nat.ne_of_lt (Nat.lt_of_lt_of_le (by have := World.block_lt_of_cell? _ _ hw213_4; first | rwa [add_block] at this | exact this) GW215.out))) hHeld.2.2.2.2.2.2.2.2.1, far9 (by first | exact Nat.ne_of_lt (Nat.lt_of_lt_of_le (by have := World.block_lt_of_cell? _ _ hw213_5; first | rwa [add_block] at this | exact this) GW215.out) | (rw [add_block]; exact Nat.ne_of_lt (Nat.lt_of_lt_of_le (by have := World.block_lt_of_cell? _ _ hw213_5; first | rwa [add_block] at this | exact this) GW215.out)) | (show (Addr.add _ _).block ≠ _; rw [add_block]; exact Nat.ne_of_lt (Nat.lt_of_lt_of_le (by have := World.block_lt_of_cell? _ _ hw213_5; first | rwa [add_block] at this | exact this) GW215.out)) | (dsimp only; exact Nat.ne_of_lt (Nat.lt_of_lt_of_le (by have := World.block_lt_of_cell? _ _ hw213_5; first | rwa [add_block] at this | exact this) GW215.out))) hHeld.2.2.2.2.2.2.2.2.2.1, far9 (by first | exact Nat.ne_of_lt (Nat.lt_of_lt_of_le (by have := World.block_lt_of_cell? _ _ hw213_6; first | rwa [add_block] at this | exact this) GW215.out) | (rw [add_block]; exact Nat.ne_of_lt (Nat.lt_of_lt_of_le (by have := World.block_lt_of_cell? _ _ hw213_6; first | rwa [add_block] at this | exact this) GW215.out)) | (show (Addr.add _ _).block ≠ _; rw [add_block]; exact Nat.ne_of_lt (Nat.lt_of_lt_of_le (by have := World.block_lt_of_cell? _ _ hw213_6; first | rwa [add_block] at this | exact this) GW215.out)) | (dsimp only; exact Nat.ne_of_lt (Nat.lt_of_lt_of_le (by have := World.block_lt_of_cell? _ _ hw213_6; first | rwa [add_block] at this | exact this) GW215.out))) hHeld.2.2.2.2.2.2.2.2.2.2.1, far9 (by first | exact Nat.ne_of_lt (Nat.lt_of_lt_of_le (by have := World.block_lt_of_cell? _ _ hw213_7; first | rwa [add_block] at this | exact this) GW215.out) | (rw [add_block]; exact Nat.ne_of_lt (Nat.lt_of_lt_of_le (by have := World.block_lt_of_cell? _ _ hw213_7; first | rwa [add_block] at this | exact this) GW215.out)) | (show (Addr.add _ _).block ≠ _; rw [add_block]; exact Nat.ne_of_lt (Nat.lt_of_lt_of_le (by have := World.block_lt_of_cell? _ _ hw213_7; first | rwa [add_block] at this | exact this) GW215.out)) | (dsimp only; exact Nat.ne_of_lt (Nat.lt_of_lt_of_le (by have := World.block_lt_of_cell? _ _ hw213_7; first | rwa [add_block] at this | exact this) GW215.out))) hHeld.2.2.2.2.2.2.2.2.2.2.2.1, far9 (by first | exact Nat.ne_of_lt (Nat.lt_of_lt_of_le (by have := World.block_lt_of_cell? _ _ hw213_8; first | rwa [add_block] at this | exact this) GW215.out) | (rw [add_block]; exact Nat.ne_of_lt (Nat.lt_of_lt_of_le (by have := World.block_lt_of_cell? _ _ hw213_8; first | rwa [add_block] at this | exact this) GW215.out)) | (show (Addr.add _ _).block ≠ _; rw [add_block]; exact Nat.ne_of_lt (Nat.lt_of_lt_of_le (by have := World.block_lt_of_cell? _ _ hw213_8; first | rwa [add_block] at this | exact this) GW215.out)) | (dsimp only; exact Nat.ne_of_lt (Nat.lt_of_lt_of_le (by have := World.block_lt_of_cell? _ _ hw213_8; first | rwa [add_block] at this | exact this) GW215.out))) hHeld.2.2.2.2.2.2.2.2.2.2.2.2.1, far9 (by first | exact Nat.ne_of_lt (Nat.lt_of_lt_of_le (by have := World.block_lt_of_cell? _ _ hw214_0; first | rwa [add_block] at this | exact this) GW215.out) | (rw [add_block]; exact Nat.ne_of_lt (Nat.lt_of_lt_of_le (by have := World.block_lt_of_cell? _ _ hw214_0; first | rwa [add_block] at this | exact this) GW215.out)) | (show (Addr.add _ _).block ≠ _; rw [add_block]; exact Nat.ne_of_lt (Nat.lt_of_lt_of_le (by have := World.block_lt_of_cell? _ _ hw214_0; first | rwa [add_block] at this | exact this) GW215.out)) | (dsimp only; exact Nat.ne_of_lt (Nat.lt_of_lt_of_le (by have := World.block_lt_of_cell? _ _ hw214_0; first | rwa [add_block] at this | exact this) GW215.out))) hHeld.2.2.2.2.2.2.2.2.2.2.2.2.2.1, far9 (by first | exact Nat.ne_of_lt (Nat.lt_of_lt_of_le (by have := World.block_lt_of_cell? _ _ hw214_1; first | rwa [add_block] at this | exact this) GW215.out) | (rw [add_block]; exact Nat.ne_of_lt (Nat.lt_of_lt_of_le (by have := World.block_lt_of_cell? _ _ hw214_1; first | rwa [add_block] at this | exact this) GW215.out)) | (show (Addr.add _ _).block ≠ _; rw [add_block]; exact Nat.ne_of_lt (Nat.lt_of_lt_of_le (by have := World.block_lt_of_cell? _ _ hw214_1; first | rwa [add_block] at this | exact this) GW215.out)) | (dsimp only; exact Nat.ne_of_lt (Nat.lt_of_lt_of_le (by have := World.block_lt_of_cell? _ _ hw214_1; first | rwa [add_block] at this | exact this) GW215.out))) hHeld.2.2.2.2.2.2.2.2.2.2.2.2.2.2.1, far9 (by first | exact Nat.ne_of_lt (Nat.lt_of_lt_of_le (by have := World.block_lt_of_cell? _ _ hw214_2; first | rwa [add_block] at this | exact this) GW215.out) | (rw [add_block]; exact Nat.ne_of_lt (Nat.lt_of_lt_of_le (by have := World.block_lt_of_cell? _ _ hw214_2; first | rwa [add_block] at this | exact this) GW215.out)) | (show (Addr.add _ _).block ≠ _; rw [add_block]; exact Nat.ne_of_lt (Nat.lt_of_lt_of_le (by have := World.block_lt_of_cell? _ _ hw214_2; first | rwa [add_block] at this | exact this) GW215.out)) | (dsimp only; exact Nat.ne_of_lt (Nat.lt_of_lt_of_le (by have := World.block_lt_of_cell? _ _ hw214_2; first | rwa [add_block] at this | exact this) GW215.out))) hHeld.2.2.2.2.2.2.2.2.2.2.2.2.2.2.2.1, far9 (by first | exact Nat.ne_of_lt (Nat.lt_of_lt_of_le (by have := World.block_lt_of_cell? _ _ hw214_3; first | rwa [add_block] at this | exact this) GW215.out) | (rw [add_block]; exact Nat.ne_of_lt (Nat.lt_of_lt_of_le (by have := World.block_lt_of_cell? _ _ hw214_3; first | rwa [add_block] at this | exact this) GW215.out)) | (show (Addr.add _ _).block ≠ _; rw [add_block]; exact Nat.ne_of_lt (Nat.lt_of_lt_of_le (by have := World.block_lt_of_cell? _ _ hw214_3; first | rwa [add_block] at this | exact this) GW215.out)) | (dsimp only; exact Nat.ne_of_lt (Nat.lt_of_lt_of_le (by have := World.block_lt_of_cell? _ _ hw214_3; first | rwa [add_block] at this | exact this) GW215.out))) hHeld.2.2.2.2.2.2.2.2.2.2.2.2.2.2.2.2.1, far9 (by first | exact Nat.ne_of_lt (Nat.lt_of_lt_of_le (by have := World.block_lt_of_cell? _ _ hw214_4; first | rwa [add_block] at this | exact this) GW215.out) | (rw [add_block]; exact Nat.ne_of_lt (Nat.lt_of_lt_of_le (by have := World.block_lt_of_cell? _ _ hw214_4; first | rwa [add_block] at this | exact this) GW215.out)) | (show (Addr.add _ _).block ≠ _; rw [add_block]; exact Nat.ne_of_lt (Nat.lt_of_lt_of_le (by have := World.block_lt_of_cell? _ _ hw214_4; first | rwa [add_block] at this | exact this) GW215.out)) | (dsimp only; exact Nat.ne_of_lt (Nat.lt_of_lt_of_le (by have := World.block_lt_of_cell? _ _ hw214_4; first | rwa [add_block] at this | exact this) GW215.out))) hHeld.2.2.2.2.2.2.2.2.2.2.2.2.2.2.2.2.2.1, far9 (by first | exact Nat.ne_of_lt (Nat.lt_of_lt_of_le (by have := World.block_lt_of_cell? _ _ hw214_5; first | rwa [add_block] at this | exact this) GW215.out) | (rw [add_block]; exact Nat.ne_of_lt (Nat.lt_of_lt_of_le (by have := World.block_lt_of_cell? _ _ hw214_5; first | rwa [add_block] at this | exact this) GW215.out)) | (show (Addr.add _ _).block ≠ _; rw [add_block]; exact Nat.ne_of_lt (Nat.lt_of_lt_of_le (by have := World.block_lt_of_cell? _ _ hw214_5; first | rwa [add_block] at this | exact this) GW215.out)) | (dsimp only; exact Nat.ne_of_lt (Nat.lt_of_lt_of_le (by have := World.block_lt_of_cell? _ _ hw214_5; first | rwa [add_block] at this | exact this) GW215.out))) hHeld.2.2.2.2.2.2.2.2.2.2.2.2.2.2.2.2.2.2.1, far9 (by first | exact Nat.ne_of_lt (Nat.lt_of_lt_of_le (by have := World.block_lt_of_cell? _ _ hw214_6; first | rwa [add_block] at this | exact this) GW215.out) | (rw [add_block]; exact Nat.ne_of_lt (Nat.lt_of_lt_of_le (by have := World.block_lt_of_cell? _ _ hw214_6; first | rwa [add_block] at this | exact this) GW215.out)) | (show (Addr.add _ _).block ≠ _; rw [add_block]; exact Nat.ne_of_lt (Nat.lt_of_lt_of_le (by have := World.block_lt_of_cell? _ _ hw214_6; first | rwa [add_block] at this | exact this) GW215.out)) | (dsimp only; exact Nat.ne_of_lt (Nat.lt_of_lt_of_le (by have := World.block_lt_of_cell? _ _ hw214_6; first | rwa [add_block] at this | exact this) GW215.out))) hHeld.2.2.2.2.2.2.2.2.2.2.2.2.2.2.2.2.2.2.2.1, far9 (by first | exact Nat.ne_of_lt (Nat.lt_of_lt_of_le (by have := World.block_lt_of_cell? _ _ hw214_7; first | rwa [add_block] at this | exact this) GW215.out) | (rw [add_block]; exact Nat.ne_of_lt (Nat.lt_of_lt_of_le (by have := World.block_lt_of_cell? _ _ hw214_7; first | rwa [add_block] at this | exact this) GW215.out)) | (show (Addr.add _ _).block ≠ _; rw [add_block]; exact Nat.ne_of_lt (Nat.lt_of_lt_of_le (by have := World.block_lt_of_cell? _ _ hw214_7; first | rwa [add_block] at this | exact this) GW215.out)) | (dsimp only; exact Nat.ne_of_lt (Nat.lt_of_lt_of_le (by have := World.block_lt_of_cell? _ _ hw214_7; first | rwa [add_block] at this | exact this) GW215.out))) hHeld.2.2.2.2.2.2.2.2.2.2.2.2.2.2.2.2.2.2.2.2.1, far9 (by first | exact Nat.ne_of_lt (Nat.lt_of_lt_of_le (by have := World.block_lt_of_cell? _ _ hw214_8; first | rwa [add_block] at this | exact this) GW215.out) | (rw [add_block]; exact Nat.ne_of_lt (Nat.lt_of_lt_of_le (by have := World.block_lt_of_cell? _ _ hw214_8; first | rwa [add_block] at this | exact this) GW215.out)) | (show (Addr.add _ _).block ≠ _; rw [add_block]; exact Nat.ne_of_lt (Nat.lt_of_lt_of_le (by have := World.block_lt_of_cell? _ _ hw214_8; first | rwa [add_block] at this | exact this) GW215.out)) | (dsimp only; exact Nat.ne_of_lt (Nat.lt_of_lt_of_le (by have := World.block_lt_of_cell? _ _ hw214_8; first | rwa [add_block] at this | exact this) GW215.out))) hHeld.2.2.2.2.2.2.2.2.2.2.2.2.2.2.2.2.2.2.2.2.2⟩ (fun hHeld => ?_)
         clear hK K
         obtain ⟨w60, hw60⟩ : ∃ w_ : World, w_ = (((((((((w24.setCell ⟨gb215, 0, none⟩ (.string ((rd_T30 l0_1 x5_2).f0))).setCell ⟨gb215, 1, none⟩ (.int .i64 ((rd_T30 l0_1 x5_2).f1))).setCell ⟨gb215, 2, none⟩ (.int .i64 ((rd_T30 l0_1 x5_2).f2))).setCell ⟨gb215, 3, none⟩ (.int .i64 ((rd_T30 l0_1 x5_2).f3))).setCell ⟨gb215, 4, none⟩ (.int .i64 ((rd_T30 l0_1 x5_2).f4))).setCell ⟨gb215, 5, none⟩ (.int .i64 ((rd_T30 l0_1 x5_2).f5))).setCell ⟨gb215, 6, none⟩ (.slice A213_6 ((rd_T30 l0_1 x5_2).f6).length c213_6)).setCell ⟨gb215, 7, none⟩ (.int .u64 ((rd_T30 l0_1 x5_2).f7))).setCell ⟨gb215, 8, none⟩ (.int .u64 ((rd_T30 l0_1 x5_2).f8))) := ⟨_, rfl⟩
         have m0_ : Aside0 (w60.heap[gb211]? = some (.cells #[.int .i64 a0_0, .slice (some ad213) l0_1.length c0_1] 24 (0, 0))) := ⟨by rw [hw60]; (repeat refine blk_far ?_ NB211_215.out _); exact BK211.out⟩
         have m1_ : Aside0 (w60.heap[gb212]? = some (.cells #[.int .i64 a1_0, .slice (some ad214) l1_1.length c1_1] 24 (0, 0))) := ⟨by rw [hw60]; (repeat refine blk_far ?_ NB212_215.out _); exact BK212.out⟩
         have m2_ : Aside0 (w60.heap[gb216]? = some (.cells #[.string (⟨#[]⟩ : ByteArray), .int .i64 0, .int .i64 0, .int .i64 0, .int .i64 0, .int .i64 0, .slice none 0 0, .int .u64 0, .int .u64 0] 30 (0, 0))) := ⟨by rw [hw60]; (repeat refine blk_far ?_ NB216_215.out _); exact BK216.out⟩
         have m8_ : Aside0 (w60.heap[gb215]? = some (.cells #[.string ((rd_T30 l0_1 x5_2).f0), .int .i64 ((rd_T30 l0_1 x5_2).f1), .int .i64 ((rd_T30 l0_1 x5_2).f2), .int .i64 ((rd_T30 l0_1 x5_2).f3), .int .i64 ((rd_T30 l0_1 x5_2).f4), .int .i64 ((rd_T30 l0_1 x5_2).f5), .slice A213_6 ((rd_T30 l0_1 x5_2).f6).length c213_6, .int .u64 ((rd_T30 l0_1 x5_2).f7), .int .u64 ((rd_T30 l0_1 x5_2).f8)] 30 (0, 0))) := ⟨by rw [hw60]; have h_ := (blk_set (blk_set (blk_set (blk_set (blk_set (blk_set (blk_set (blk_set (blk_set BK215.out 0 (.string ((rd_T30 l0_1 x5_2).f0))) 1 (.int .i64 ((rd_T30 l0_1 x5_2).f1))) 2 (.int .i64 ((rd_T30 l0_1 x5_2).f2))) 3 (.int .i64 ((rd_T30 l0_1 x5_2).f3))) 4 (.int .i64 ((rd_T30 l0_1 x5_2).f4))) 5 (.int .i64 ((rd_T30 l0_1 x5_2).f5))) 6 (.slice A213_6 ((rd_T30 l0_1 x5_2).f6).length c213_6)) 7 (.int .u64 ((rd_T30 l0_1 x5_2).f7))) 8 (.int .u64 ((rd_T30 l0_1 x5_2).f8))); simpa using h_⟩
         have m9_ : Aside0 (Below w.heap.size w w60) := ⟨by rw [hw60]; (repeat refine below_set ?_ GE215.out); exact HB.out⟩
         try rw [← hw60] at hHeld
         rw [← hw60]
         clear BK211 BK212 BK215 BK216 HB hw60
         have BK211 := m0_
         have BK212 := m1_
         have BK216 := m2_
         have BK215 := m8_
         have HB := m9_
         clear m0_ m1_ m2_ m8_ m9_
         refine one_ (i := 13) (N := none) #[true, true, true, true, true, true, true, true, true, true, true, true, true, true] rfl rfl (one_of HT_.out (by kernel_rfl)) (by decide) (fun K hK => ?_)
         have hs34 : w60.cell? ⟨gb216, 0, none⟩ = some (.string (⟨#[]⟩ : ByteArray)) := (blk_cell BK216.out 0).trans rfl
         have hfs34 := blk_frozen BK216.out 0
         have hns34_0 := NB211_216.out
         have hns34_1 := NB212_216.out
         have hns34_2 := NB215_216.out
         have hms34_0 := NB216_211.out
         have hms34_1 := NB216_212.out
         have hms34_2 := NB216_215.out
         have hs35 : w60.cell? ⟨gb216, 1, none⟩ = some (.int .i64 0) := (blk_cell BK216.out 1).trans rfl
         have hfs35 := blk_frozen BK216.out 1
         have hns35_0 := NB211_216.out
         have hns35_1 := NB212_216.out
         have hns35_2 := NB215_216.out
         have hms35_0 := NB216_211.out
         have hms35_1 := NB216_212.out
         have hms35_2 := NB216_215.out
         have hs36 : w60.cell? ⟨gb216, 2, none⟩ = some (.int .i64 0) := (blk_cell BK216.out 2).trans rfl
         have hfs36 := blk_frozen BK216.out 2
         have hns36_0 := NB211_216.out
         have hns36_1 := NB212_216.out
         have hns36_2 := NB215_216.out
         have hms36_0 := NB216_211.out
         have hms36_1 := NB216_212.out
         have hms36_2 := NB216_215.out
         have hs37 : w60.cell? ⟨gb216, 3, none⟩ = some (.int .i64 0) := (blk_cell BK216.out 3).trans rfl
         have hfs37 := blk_frozen BK216.out 3
         have hns37_0 := NB211_216.out
         have hns37_1 := NB212_216.out
         have hns37_2 := NB215_216.out
         have hms37_0 := NB216_211.out
         have hms37_1 := NB216_212.out
         have hms37_2 := NB216_215.out
         have hs38 : w60.cell? ⟨gb216, 4, none⟩ = some (.int .i64 0) := (blk_cell BK216.out 4).trans rfl
         have hfs38 := blk_frozen BK216.out 4
         have hns38_0 := NB211_216.out
         have hns38_1 := NB212_216.out
         have hns38_2 := NB215_216.out
         have hms38_0 := NB216_211.out
         have hms38_1 := NB216_212.out
         have hms38_2 := NB216_215.out
         have hs39 : w60.cell? ⟨gb216, 5, none⟩ = some (.int .i64 0) := (blk_cell BK216.out 5).trans rfl
         have hfs39 := blk_frozen BK216.out 5
         have hns39_0 := NB211_216.out
         have hns39_1 := NB212_216.out
         have hns39_2 := NB215_216.out
         have hms39_0 := NB216_211.out
         have hms39_1 := NB216_212.out
         have hms39_2 := NB216_215.out
         have hs40 : w60.cell? ⟨gb216, 6, none⟩ = some (.slice none 0 0) := (blk_cell BK216.out 6).trans rfl
         have hfs40 := blk_frozen BK216.out 6
         have hns40_0 := NB211_216.out
         have hns40_1 := NB212_216.out
         have hns40_2 := NB215_216.out
         have hms40_0 := NB216_211.out
         have hms40_1 := NB216_212.out
         have hms40_2 := NB216_215.out
         have hs41 : w60.cell? ⟨gb216, 7, none⟩ = some (.int .u64 0) := (blk_cell BK216.out 7).trans rfl
         have hfs41 := blk_frozen BK216.out 7
         have hns41_0 := NB211_216.out
         have hns41_1 := NB212_216.out
         have hns41_2 := NB215_216.out
         have hms41_0 := NB216_211.out
         have hms41_1 := NB216_212.out
         have hms41_2 := NB216_215.out
         have hs42 : w60.cell? ⟨gb216, 8, none⟩ = some (.int .u64 0) := (blk_cell BK216.out 8).trans rfl
         have hfs42 := blk_frozen BK216.out 8
         have hns42_0 := NB211_216.out
         have hns42_1 := NB212_216.out
         have hns42_2 := NB215_216.out
         have hms42_0 := NB216_211.out
         have hms42_1 := NB216_212.out
         have hms42_2 := NB216_215.out
         refine skip_ (w1 := ?_) (by rfl) rfl ?_ ?_
         rotate_left; · go_simp; rfl
         refine hK.out _ _ ⟨far9 NB211_216.out hHeld.1, far9 NB211_216.out hHeld.2.1, far9 NB212_216.out hHeld.2.2.1, far9 NB212_216.out hHeld.2.2.2.1, far9 (by first | exact Nat.ne_of_lt (Nat.lt_of_lt_of_le (by have := World.block_lt_of_cell? _ _ hw213_0; first | rwa [add_block] at this | exact this) GW216.out) | (rw [add_block]; exact Nat.ne_of_lt (Nat.lt_of_lt_of_le (by have := World.block_lt_of_cell? _ _ hw213_0; first | rwa [add_block] at this | exact this) GW216.out)) | (show (Addr.add _ _).block ≠ _; rw [add_block]; exact Nat.ne_of_lt (Nat.lt_of_lt_of_le (by have := World.block_lt_of_cell? _ _ hw213_0; first | rwa [add_block] at this | exact this) GW216.out)) | (dsimp only; exact Nat.ne_of_lt (Nat.lt_of_lt_of_le (by have := World.block_lt_of_cell? _ _ hw213_0; first | rwa [add_block] at this | exact this) GW216.out))) hHeld.2.2.2.2.1, far9 (by first | exact Nat.ne_of_lt (Nat.lt_of_lt_of_le (by have := World.block_lt_of_cell? _ _ hw213_1; first | rwa [add_block] at this | exact this) GW216.out) | (rw [add_block]; exact Nat.ne_of_lt (Nat.lt_of_lt_of_le (by have := World.block_lt_of_cell? _ _ hw213_1; first | rwa [add_block] at this | exact this) GW216.out)) | (show (Addr.add _ _).block ≠ _; rw [add_block]; exact Nat.ne_of_lt (Nat.lt_of_lt_of_le (by have := World.block_lt_of_cell? _ _ hw213_1; first | rwa [add_block] at this | exact this) GW216.out)) | (dsimp only; exact Nat.ne_of_lt (Nat.lt_of_lt_of_le (by have := World.block_lt_of_cell? _ _ hw213_1; first | rwa [add_block] at this | exact this) GW216.out))) hHeld.2.2.2.2.2.1, far9 (by first | exact Nat.ne_of_lt (Nat.lt_of_lt_of_le (by have := World.block_lt_of_cell? _ _ hw213_2; first | rwa [add_block] at this | exact this) GW216.out) | (rw [add_block]; exact Nat.ne_of_lt (Nat.lt_of_lt_of_le (by have := World.block_lt_of_cell? _ _ hw213_2; first | rwa [add_block] at this | exact this) GW216.out)) | (show (Addr.add _ _).block ≠ _; rw [add_block]; exact Nat.ne_of_lt (Nat.lt_of_lt_of_le (by have := World.block_lt_of_cell? _ _ hw213_2; first | rwa [add_block] at this | exact this) GW216.out)) | (dsimp only; exact Nat.ne_of_lt (Nat.lt_of_lt_of_le (by have := World.block_lt_of_cell? _ _ hw213_2; first | rwa [add_block] at this | exact this) GW216.out))) hHeld.2.2.2.2.2.2.1, far9 (by first | exact Nat.ne_of_lt (Nat.lt_of_lt_of_le (by have := World.block_lt_of_cell? _ _ hw213_3; first | rwa [add_block] at this | exact this) GW216.out) | (rw [add_block]; exact Nat.ne_of_lt (Nat.lt_of_lt_of_le (by have := World.block_lt_of_cell? _ _ hw213_3; first | rwa [add_block] at this | exact this) GW216.out)) | (show (Addr.add _ _).block ≠ _; rw [add_block]; exact Nat.ne_of_lt (Nat.lt_of_lt_of_le (by have := World.block_lt_of_cell? _ _ hw213_3; first | rwa [add_block] at this | exact this) GW216.out)) | (dsimp only; exact Nat.ne_of_lt (Nat.lt_of_lt_of_le (by have := World.block_lt_of_cell? _ _ hw213_3; first | rwa [add_block] at this | exact this) GW216.out))) hHeld.2.2.2.2.2.2.2.1, far9 (by first | exact Nat.ne_of_lt (Nat.lt_of_lt_of_le (by have := World.block_lt_of_cell? _ _ hw213_4; first | rwa [add_block] at this | exact this) GW216.out) | (rw [add_block]; exact Nat.ne_of_lt (Nat.lt_of_lt_of_le (by have := World.block_lt_of_cell? _ _ hw213_4; first | rwa [add_block] at this | exact this) GW216.out)) | (show (Addr.add _ _).block ≠ _; rw [add_block]; exact Nat.ne_of_lt (Nat.lt_of_lt_of_le (by have := World.block_lt_of_cell? _ _ hw213_4; first | rwa [add_block] at this | exact this) GW216.out)) | (dsimp only; exact Nat.ne_of_lt (Nat.lt_of_lt_of_le (by have := World.block_lt_of_cell? _ _ hw213_4; first | rwa [add_block] at this | exact this) GW216.out))) hHeld.2.2.2.2.2.2.2.2.1, far9 (by first | exact Nat.ne_of_lt (Nat.lt_of_lt_of_le (by have := World.block_lt_of_cell? _ _ hw213_5; first | rwa [add_block] at this | exact this) GW216.out) | (rw [add_block]; exact Nat.ne_of_lt (Nat.lt_of_lt_of_le (by have := World.block_lt_of_cell? _ _ hw213_5; first | rwa [add_block] at this | exact this) GW216.out)) | (show (Addr.add _ _).block ≠ _; rw [add_block]; exact Nat.ne_of_lt (Nat.lt_of_lt_of_le (by have := World.block_lt_of_cell? _ _ hw213_5; first | rwa [add_block] at this | exact this) GW216.out)) | (dsimp only; exact Nat.ne_of_lt (Nat.lt_of_lt_of_le (by have := World.block_lt_of_cell? _ _ hw213_5; first | rwa [add_block] at this | exact this) GW216.out))) hHeld.2.2.2.2.2.2.2.2.2.1, far9 (by first | exact Nat.ne_of_lt (Nat.lt_of_lt_of_le (by have := World.block_lt_of_cell? _ _ hw213_6; first | rwa [add_block] at this | exact this) GW216.out) | (rw [add_block]; exact Nat.ne_of_lt (Nat.lt_of_lt_of_le (by have := World.block_lt_of_cell? _ _ hw213_6; first | rwa [add_block] at this | exact this) GW216.out)) | (show (Addr.add _ _).block ≠ _; rw [add_block]; exact Nat.ne_of_lt (Nat.lt_of_lt_of_le (by have := World.block_lt_of_cell? _ _ hw213_6; first | rwa [add_block] at this | exact this) GW216.out)) | (dsimp only; exact Nat.ne_of_lt (Nat.lt_of_lt_of_le (by have := World.block_lt_of_cell? _ _ hw213_6; first | rwa [add_block] at this | exact this) GW216.out))) hHeld.2.2.2.2.2.2.2.2.2.2.1, far9 (by first | exact Nat.ne_of_lt (Nat.lt_of_lt_of_le (by have := World.block_lt_of_cell? _ _ hw213_7; first | rwa [add_block] at this | exact this) GW216.out) | (rw [add_block]; exact Nat.ne_of_lt (Nat.lt_of_lt_of_le (by have := World.block_lt_of_cell? _ _ hw213_7; first | rwa [add_block] at this | exact this) GW216.out)) | (show (Addr.add _ _).block ≠ _; rw [add_block]; exact Nat.ne_of_lt (Nat.lt_of_lt_of_le (by have := World.block_lt_of_cell? _ _ hw213_7; first | rwa [add_block] at this | exact this) GW216.out)) | (dsimp only; exact Nat.ne_of_lt (Nat.lt_of_lt_of_le (by have := World.block_lt_of_cell? _ _ hw213_7; first | rwa [add_block] at this | exact this) GW216.out))) hHeld.2.2.2.2.2.2.2.2.2.2.2.1, far9 (by first | exact Nat.ne_of_lt (Nat.lt_of_lt_of_le (by have := World.block_lt_of_cell? _ _ hw213_8; first | rwa [add_block] at this | exact this) GW216.out) | (rw [add_block]; exact Nat.ne_of_lt (Nat.lt_of_lt_of_le (by have := World.block_lt_of_cell? _ _ hw213_8; first | rwa [add_block] at this | exact this) GW216.out)) | (show (Addr.add _ _).block ≠ _; rw [add_block]; exact Nat.ne_of_lt (Nat.lt_of_lt_of_le (by have := World.block_lt_of_cell? _ _ hw213_8; first | rwa [add_block] at this | exact this) GW216.out)) | (dsimp only; exact Nat.ne_of_lt (Nat.lt_of_lt_of_le (by have := World.block_lt_of_cell? _ _ hw213_8; first | rwa [add_block] at this | exact this) GW216.out))) hHeld.2.2.2.2.2.2.2.2.2.2.2.2.1, far9 (by first | exact Nat.ne_of_lt (Nat.lt_of_lt_of_le (by have := World.block_lt_of_cell? _ _ hw214_0; first | rwa [add_block] at this | exact this) GW216.out) | (rw [add_block]; exact Nat.ne_of_lt (Nat.lt_of_lt_of_le (by have := World.block_lt_of_cell? _ _ hw214_0; first | rwa [add_block] at this | exact this) GW216.out)) | (show (Addr.add _ _).block ≠ _; rw [add_block]; exact Nat.ne_of_lt (Nat.lt_of_lt_of_le (by have := World.block_lt_of_cell? _ _ hw214_0; first | rwa [add_block] at this | exact this) GW216.out)) | (dsimp only; exact Nat.ne_of_lt (Nat.lt_of_lt_of_le (by have := World.block_lt_of_cell? _ _ hw214_0; first | rwa [add_block] at this | exact this) GW216.out))) hHeld.2.2.2.2.2.2.2.2.2.2.2.2.2.1, far9 (by first | exact Nat.ne_of_lt (Nat.lt_of_lt_of_le (by have := World.block_lt_of_cell? _ _ hw214_1; first | rwa [add_block] at this | exact this) GW216.out) | (rw [add_block]; exact Nat.ne_of_lt (Nat.lt_of_lt_of_le (by have := World.block_lt_of_cell? _ _ hw214_1; first | rwa [add_block] at this | exact this) GW216.out)) | (show (Addr.add _ _).block ≠ _; rw [add_block]; exact Nat.ne_of_lt (Nat.lt_of_lt_of_le (by have := World.block_lt_of_cell? _ _ hw214_1; first | rwa [add_block] at this | exact this) GW216.out)) | (dsimp only; exact Nat.ne_of_lt (Nat.lt_of_lt_of_le (by have := World.block_lt_of_cell? _ _ hw214_1; first | rwa [add_block] at this | exact this) GW216.out))) hHeld.2.2.2.2.2.2.2.2.2.2.2.2.2.2.1, far9 (by first | exact Nat.ne_of_lt (Nat.lt_of_lt_of_le (by have := World.block_lt_of_cell? _ _ hw214_2; first | rwa [add_block] at this | exact this) GW216.out) | (rw [add_block]; exact Nat.ne_of_lt (Nat.lt_of_lt_of_le (by have := World.block_lt_of_cell? _ _ hw214_2; first | rwa [add_block] at this | exact this) GW216.out)) | (show (Addr.add _ _).block ≠ _; rw [add_block]; exact Nat.ne_of_lt (Nat.lt_of_lt_of_le (by have := World.block_lt_of_cell? _ _ hw214_2; first | rwa [add_block] at this | exact this) GW216.out)) | (dsimp only; exact Nat.ne_of_lt (Nat.lt_of_lt_of_le (by have := World.block_lt_of_cell? _ _ hw214_2; first | rwa [add_block] at this | exact this) GW216.out))) hHeld.2.2.2.2.2.2.2.2.2.2.2.2.2.2.2.1, far9 (by first | exact Nat.ne_of_lt (Nat.lt_of_lt_of_le (by have := World.block_lt_of_cell? _ _ hw214_3; first | rwa [add_block] at this | exact this) GW216.out) | (rw [add_block]; exact Nat.ne_of_lt (Nat.lt_of_lt_of_le (by have := World.block_lt_of_cell? _ _ hw214_3; first | rwa [add_block] at this | exact this) GW216.out)) | (show (Addr.add _ _).block ≠ _; rw [add_block]; exact Nat.ne_of_lt (Nat.lt_of_lt_of_le (by have := World.block_lt_of_cell? _ _ hw214_3; first | rwa [add_block] at this | exact this) GW216.out)) | (dsimp only; exact Nat.ne_of_lt (Nat.lt_of_lt_of_le (by have := World.block_lt_of_cell? _ _ hw214_3; first | rwa [add_block] at this | exact this) GW216.out))) hHeld.2.2.2.2.2.2.2.2.2.2.2.2.2.2.2.2.1, far9 (by first | exact Nat.ne_of_lt (Nat.lt_of_lt_of_le (by have := World.block_lt_of_cell? _ _ hw214_4; first | rwa [add_block] at this | exact this) GW216.out) | (rw [add_block]; exact Nat.ne_of_lt (Nat.lt_of_lt_of_le (by have := World.block_lt_of_cell? _ _ hw214_4; first | rwa [add_block] at this | exact this) GW216.out)) | (show (Addr.add _ _).block ≠ _; rw [add_block]; exact Nat.ne_of_lt (Nat.lt_of_lt_of_le (by have := World.block_lt_of_cell? _ _ hw214_4; first | rwa [add_block] at this | exact this) GW216.out)) | (dsimp only; exact Nat.ne_of_lt (Nat.lt_of_lt_of_le (by have := World.block_lt_of_cell? _ _ hw214_4; first | rwa [add_block] at this | exact this) GW216.out))) hHeld.2.2.2.2.2.2.2.2.2.2.2.2.2.2.2.2.2.1, far9 (by first | exact Nat.ne_of_lt (Nat.lt_of_lt_of_le (by have := World.block_lt_of_cell? _ _ hw214_5; first | rwa [add_block] at this | exact this) GW216.out) | (rw [add_block]; exact Nat.ne_of_lt (Nat.lt_of_lt_of_le (by have := World.block_lt_of_cell? _ _ hw214_5; first | rwa [add_block] at this | exact this) GW216.out)) | (show (Addr.add _ _).block ≠ _; rw [add_block]; exact Nat.ne_of_lt (Nat.lt_of_lt_of_le (by have := World.block_lt_of_cell? _ _ hw214_5; first | rwa [add_block] at this | exact this) GW216.out)) | (dsimp only; exact Nat.ne_of_lt (Nat.lt_of_lt_of_le (by have := World.block_lt_of_cell? _ _ hw214_5; first | rwa [add_block] at this | exact this) GW216.out))) hHeld.2.2.2.2.2.2.2.2.2.2.2.2.2.2.2.2.2.2.1, far9 (by first | exact Nat.ne_of_lt (Nat.lt_of_lt_of_le (by have := World.block_lt_of_cell? _ _ hw214_6; first | rwa [add_block] at this | exact this) GW216.out) | (rw [add_block]; exact Nat.ne_of_lt (Nat.lt_of_lt_of_le (by have := World.block_lt_of_cell? _ _ hw214_6; first | rwa [add_block] at this | exact this) GW216.out)) | (show (Addr.add _ _).block ≠ _; rw [add_block]; exact Nat.ne_of_lt (Nat.lt_of_lt_of_le (by have := World.block_lt_of_cell? _ _ hw214_6; first | rwa [add_block] at this | exact this) GW216.out)) | (dsimp only; exact Nat.ne_of_lt (Nat.lt_of_lt_of_le (by have := World.block_lt_of_cell? _ _ hw214_6; first | rwa [add_block] at this | exact this) GW216.out))) hHeld.2.2.2.2.2.2.2.2.2.2.2.2.2.2.2.2.2.2.2.1, far9 (by first | exact Nat.ne_of_lt (Nat.lt_of_lt_of_le (by have := World.block_lt_of_cell? _ _ hw214_7; first | rwa [add_block] at this | exact this) GW216.out) | (rw [add_block]; exact Nat.ne_of_lt (Nat.lt_of_lt_of_le (by have := World.block_lt_of_cell? _ _ hw214_7; first | rwa [add_block] at this | exact this) GW216.out)) | (show (Addr.add _ _).block ≠ _; rw [add_block]; exact Nat.ne_of_lt (Nat.lt_of_lt_of_le (by have := World.block_lt_of_cell? _ _ hw214_7; first | rwa [add_block] at this | exact this) GW216.out)) | (dsimp only; exact Nat.ne_of_lt (Nat.lt_of_lt_of_le (by have := World.block_lt_of_cell? _ _ hw214_7; first | rwa [add_block] at this | exact this) GW216.out))) hHeld.2.2.2.2.2.2.2.2.2.2.2.2.2.2.2.2.2.2.2.2.1, far9 (by first | exact Nat.ne_of_lt (Nat.lt_of_lt_of_le (by have := World.block_lt_of_cell? _ _ hw214_8; first | rwa [add_block] at this | exact this) GW216.out) | (rw [add_block]; exact Nat.ne_of_lt (Nat.lt_of_lt_of_le (by have := World.block_lt_of_cell? _ _ hw214_8; first | rwa [add_block] at this | exact this) GW216.out)) | (show (Addr.add _ _).block ≠ _; rw [add_block]; exact Nat.ne_of_lt (Nat.lt_of_lt_of_le (by have := World.block_lt_of_cell? _ _ hw214_8; first | rwa [add_block] at this | exact this) GW216.out)) | (dsimp only; exact Nat.ne_of_lt (Nat.lt_of_lt_of_le (by have := World.block_lt_of_cell? _ _ hw214_8; first | rwa [add_block] at this | exact this) GW216.out))) hHeld.2.2.2.2.2.2.2.2.2.2.2.2.2.2.2.2.2.2.2.2.2⟩ (fun hHeld => ?_)
         clear hK K
         obtain ⟨w70, hw70⟩ : ∃ w_ : World, w_ = (((((((((w60.setCell ⟨gb216, 0, none⟩ (.string ((rd_T30 l1_1 x5_2).f0))).setCell ⟨gb216, 1, none⟩ (.int .i64 ((rd_T30 l1_1 x5_2).f1))).setCell ⟨gb216, 2, none⟩ (.int .i64 ((rd_T30 l1_1 x5_2).f2))).setCell ⟨gb216, 3, none⟩ (.int .i64 ((rd_T30 l1_1 x5_2).f3))).setCell ⟨gb216, 4, none⟩ (.int .i64 ((rd_T30 l1_1 x5_2).f4))).setCell ⟨gb216, 5, none⟩ (.int .i64 ((rd_T30 l1_1 x5_2).f5))).setCell ⟨gb216, 6, none⟩ (.slice A214_6 ((rd_T30 l1_1 x5_2).f6).length c214_6)).setCell ⟨gb216, 7, none⟩ (.int .u64 ((rd_T30 l1_1 x5_2).f7))).setCell ⟨gb216, 8, none⟩ (.int .u64 ((rd_T30 l1_1 x5_2).f8))) := ⟨_, rfl⟩
         have m0_ : Aside0 (w70.heap[gb211]? = some (.cells #[.int .i64 a0_0, .slice (some ad213) l0_1.length c0_1] 24 (0, 0))) := ⟨by rw [hw70]; (repeat refine blk_far ?_ NB211_216.out _); exact BK211.out⟩
         have m1_ : Aside0 (w70.heap[gb212]? = some (.cells #[.int .i64 a1_0, .slice (some ad214) l1_1.length c1_1] 24 (0, 0))) := ⟨by rw [hw70]; (repeat refine blk_far ?_ NB212_216.out _); exact BK212.out⟩
         have m2_ : Aside0 (w70.heap[gb215]? = some (.cells #[.string ((rd_T30 l0_1 x5_2).f0), .int .i64 ((rd_T30 l0_1 x5_2).f1), .int .i64 ((rd_T30 l0_1 x5_2).f2), .int .i64 ((rd_T30 l0_1 x5_2).f3), .int .i64 ((rd_T30 l0_1 x5_2).f4), .int .i64 ((rd_T30 l0_1 x5_2).f5), .slice A213_6 ((rd_T30 l0_1 x5_2).f6).length c213_6, .int .u64 ((rd_T30 l0_1 x5_2).f7), .int .u64 ((rd_T30 l0_1 x5_2).f8)] 30 (0, 0))) := ⟨by rw [hw70]; (repeat refine blk_far ?_ NB215_216.out _); exact BK215.out⟩
         have m8_ : Aside0 (w70.heap[gb216]? = some (.cells #[.string ((rd_T30 l1_1 x5_2).f0), .int .i64 ((rd_T30 l1_1 x5_2).f1), .int .i64 ((rd_T30 l1_1 x5_2).f2), .int .i64 ((rd_T30 l1_1 x5_2).f3), .int .i64 ((rd_T30 l1_1 x5_2).f4), .int .i64 ((rd_T30 l1_1 x5_2).f5), .slice A214_6 ((rd_T30 l1_1 x5_2).f6).length c214_6, .int .u64 ((rd_T30 l1_1 x5_2).f7), .int .u64 ((rd_T30 l1_1 x5_2).f8)] 30 (0, 0))) := ⟨by rw [hw70]; have h_ := (blk_set (blk_set (blk_set (blk_set (blk_set (blk_set (blk_set (blk_set (blk_set BK216.out 0 (.string ((rd_T30 l1_1 x5_2).f0))) 1 (.int .i64 ((rd_T30 l1_1 x5_2).f1))) 2 (.int .i64 ((rd_T30 l1_1 x5_2).f2))) 3 (.int .i64 ((rd_T30 l1_1 x5_2).f3))) 4 (.int .i64 ((rd_T30 l1_1 x5_2).f4))) 5 (.int .i64 ((rd_T30 l1_1 x5_2).f5))) 6 (.slice A214_6 ((rd_T30 l1_1 x5_2).f6).length c214_6)) 7 (.int .u64 ((rd_T30 l1_1 x5_2).f7))) 8 (.int .u64 ((rd_T30 l1_1 x5_2).f8))); simpa using h_⟩
         have m9_ : Aside0 (Below w.heap.size w w70) := ⟨by rw [hw70]; (repeat refine below_set ?_ GE216.out); exact HB.out⟩
         try rw [← hw70] at hHeld
         rw [← hw70]
         clear BK211 BK212 BK215 BK216 HB hw70
         have BK211 := m0_
         have BK212 := m1_
         have BK215 := m2_
         have BK216 := m8_
         have HB := m9_
         clear m0_ m1_ m2_ m8_ m9_
         refine done_ (done_of HT_.out (by kernel_rfl)) ?_
         have hnb43 := NB215_211.out
         have hnc43 := NB211_215.out
         have hnb44 := NB215_212.out
         have hnc44 := NB212_215.out
         have hnb45 := NB215_216.out
         have hnc45 := NB216_215.out
         have hnb47 := NB216_211.out
         have hnc47 := NB211_216.out
         have hnb48 := NB216_212.out
         have hnc48 := NB212_216.out
         have hcx_0 : w70.cell? ⟨gb215, 0, none⟩ = some (.string ((rd_T30 l0_1 x5_2).f0)) := (blk_cell BK215.out 0).trans rfl
         have hcx_1 : w70.cell? ⟨gb215, 1, none⟩ = some (.int .i64 ((rd_T30 l0_1 x5_2).f1)) := (blk_cell BK215.out 1).trans rfl
         have hcx_2 : w70.cell? ⟨gb215, 2, none⟩ = some (.int .i64 ((rd_T30 l0_1 x5_2).f2)) := (blk_cell BK215.out 2).trans rfl
         have hcx_3 : w70.cell? ⟨gb215, 3, none⟩ = some (.int .i64 ((rd_T30 l0_1 x5_2).f3)) := (blk_cell BK215.out 3).trans rfl
         have hcx_4 : w70.cell? ⟨gb215, 4, none⟩ = some (.int .i64 ((rd_T30 l0_1 x5_2).f4)) := (blk_cell BK215.out 4).trans rfl
         have hcx_5 : w70.cell? ⟨gb215, 5, none⟩ = some (.int .i64 ((rd_T30 l0_1 x5_2).f5)) := (blk_cell BK215.out 5).trans rfl
         have hcx_6 : w70.cell? ⟨gb215, 6, none⟩ = some (.slice A213_6 ((rd_T30 l0_1 x5_2).f6).length c213_6) := (blk_cell BK215.out 6).trans rfl
         have hcx_7 : w70.cell? ⟨gb215, 7, none⟩ = some (.int .u64 ((rd_T30 l0_1 x5_2).f7)) := (blk_cell BK215.out 7).trans rfl
         have hcx_8 : w70.cell? ⟨gb215, 8, none⟩ = some (.int .u64 ((rd_T30 l0_1 x5_2).f8)) := (blk_cell BK215.out 8).trans rfl
         have hcw_0 : w70.cell? ⟨gb216, 0, none⟩ = some (.string ((rd_T30 l1_1 x5_2).f0)) := (blk_cell BK216.out 0).trans rfl
         have hcw_1 : w70.cell? ⟨gb216, 1, none⟩ = some (.int .i64 ((rd_T30 l1_1 x5_2).f1)) := (blk_cell BK216.out 1).trans rfl
         have hcw_2 : w70.cell? ⟨gb216, 2, none⟩ = some (.int .i64 ((rd_T30 l1_1 x5_2).f2)) := (blk_cell BK216.out 2).trans rfl
         have hcw_3 : w70.cell? ⟨gb216, 3, none⟩ = some (.int .i64 ((rd_T30 l1_1 x5_2).f3)) := (blk_cell BK216.out 3).trans rfl
         have hcw_4 : w70.cell? ⟨gb216, 4, none⟩ = some (.int .i64 ((rd_T30 l1_1 x5_2).f4)) := (blk_cell BK216.out 4).trans rfl
         have hcw_5 : w70.cell? ⟨gb216, 5, none⟩ = some (.int .i64 ((rd_T30 l1_1 x5_2).f5)) := (blk_cell BK216.out 5).trans rfl
         have hcw_6 : w70.cell? ⟨gb216, 6, none⟩ = some (.slice A214_6 ((rd_T30 l1_1 x5_2).f6).length c214_6) := (blk_cell BK216.out 6).trans rfl
         have hcw_7 : w70.cell? ⟨gb216, 7, none⟩ = some (.int .u64 ((rd_T30 l1_1 x5_2).f7)) := (blk_cell BK216.out 7).trans rfl
         have hcw_8 : w70.cell? ⟨gb216, 8, none⟩ = some (.int .u64 ((rd_T30 l1_1 x5_2).f8)) := (blk_cell BK216.out 8).trans rfl
         by_cases c18 : t217 = true
         ·subst c18
          have H1 : (some false) = some r := by rw [if_pos rfl] at H; exact H
          clear H
          have H := H1
          clear H1
          obtain rfl := Option.some.inj H
          have hnb19 := NB211_212.out
          have hnc19 := NB212_211.out
          have hcz20_0 : w70.cell? ⟨gb211, 0, none⟩ = some (.int .i64 a0_0) := (blk_cell BK211.out 0).trans rfl
          have hcz20_1 : w70.cell? ⟨gb211, 1, none⟩ = some (.slice (some ad213) l0_1.length c0_1) := (blk_cell BK211.out 1).trans rfl
          have hfz20_0 := blk_frozen BK211.out 0
          have hfz20_1 := blk_frozen BK211.out 1
          rcases differ_true A17.out with d0 | ⟨e0, d1⟩ | ⟨e0, e1, d2⟩ | ⟨e0, e1, e2, d3⟩ | ⟨e0, e1, e2, e3, d4⟩ | ⟨e0, e1, e2, e3, e4, d5⟩ | ⟨e0, e1, e2, e3, e4, e5, d6⟩ | ⟨e0, e1, e2, e3, e4, e5, e6, d7⟩ | ⟨e0, e1, e2, e3, e4, e5, e6, e7, d8⟩
          ·have d0b0 : ((rd_T30 l0_1 x5_2).f0.toList == (rd_T30 l1_1 x5_2).f0.toList) = false := beq_eq_false_iff_ne.mpr d0
           have d0b1 : ((rd_T30 l0_1 x5_2).f0.toList != (rd_T30 l1_1 x5_2).f0.toList) = true := bne_iff_ne.mpr d0
           clear d0
           go_wp2
           go_ret
           exact ⟨by first | rfl | (simp [errW_none, errW_some] <;> rfl) | (simp [*, errW_none, errW_some] <;> rfl), (by repeat (first | (with_reducible first | exact HB.out | apply below_alloc | apply pw_below_drewN | apply below_drew1) | exact HB.out))⟩
          ·have e0b0 : ((rd_T30 l0_1 x5_2).f0.toList == (rd_T30 l1_1 x5_2).f0.toList) = true := beq_iff_eq.mpr e0
           have e0b1 : ((rd_T30 l0_1 x5_2).f0.toList != (rd_T30 l1_1 x5_2).f0.toList) = false := bne_eq_false_iff_eq.mpr e0
           clear e0
           have d1b0 : ((rd_T30 l0_1 x5_2).f1 == (rd_T30 l1_1 x5_2).f1) = false := beq_eq_false_iff_ne.mpr d1
           have d1b1 : ((rd_T30 l0_1 x5_2).f1 != (rd_T30 l1_1 x5_2).f1) = true := bne_iff_ne.mpr d1
           clear d1
           go_wp2
           go_ret
           exact ⟨by first | rfl | (simp [errW_none, errW_some] <;> rfl) | (simp [*, errW_none, errW_some] <;> rfl), (by repeat (first | (with_reducible first | exact HB.out | apply below_alloc | apply pw_below_drewN | apply below_drew1) | exact HB.out))⟩
          ·have e0b0 : ((rd_T30 l0_1 x5_2).f0.toList == (rd_T30 l1_1 x5_2).f0.toList) = true := beq_iff_eq.mpr e0
           have e0b1 : ((rd_T30 l0_1 x5_2).f0.toList != (rd_T30 l1_1 x5_2).f0.toList) = false := bne_eq_false_iff_eq.mpr e0
           clear e0
           have e1b0 : ((rd_T30 l0_1 x5_2).f1 == (rd_T30 l1_1 x5_2).f1) = true := beq_iff_eq.mpr e1
           have e1b1 : ((rd_T30 l0_1 x5_2).f1 != (rd_T30 l1_1 x5_2).f1) = false := bne_eq_false_iff_eq.mpr e1
           clear e1
           have d2b0 : ((rd_T30 l0_1 x5_2).f2 == (rd_T30 l1_1 x5_2).f2) = false := beq_eq_false_iff_ne.mpr d2
           have d2b1 : ((rd_T30 l0_1 x5_2).f2 != (rd_T30 l1_1 x5_2).f2) = true := bne_iff_ne.mpr d2
           clear d2
           go_wp2
           go_ret
           exact ⟨by first | rfl | (simp [errW_none, errW_some] <;> rfl) | (simp [*, errW_none, errW_some] <;> rfl), (by repeat (first | (with_reducible first | exact HB.out | apply below_alloc | apply pw_below_drewN | apply below_drew1) | exact HB.out))⟩
          ·have e0b0 : ((rd_T30 l0_1 x5_2).f0.toList == (rd_T30 l1_1 x5_2).f0.toList) = true := beq_iff_eq.mpr e0
           have e0b1 : ((rd_T30 l0_1 x5_2).f0.toList != (rd_T30 l1_1 x5_2).f0.toList) = false := bne_eq_false_iff_eq.mpr e0
           clear e0
           have e1b0 : ((rd_T30 l0_1 x5_2).f1 == (rd_T30 l1_1 x5_2).f1) = true := beq_iff_eq.mpr e1
           have e1b1 : ((rd_T30 l0_1 x5_2).f1 != (rd_T30 l1_1 x5_2).f1) = false := bne_eq_false_iff_eq.mpr e1
           clear e1
           have e2b0 : ((rd_T30 l0_1 x5_2).f2 == (rd_T30 l1_1 x5_2).f2) = true := beq_iff_eq.mpr e2
           have e2b1 : ((rd_T30 l0_1 x5_2).f2 != (rd_T30 l1_1 x5_2).f2) = false := bne_eq_false_iff_eq.mpr e2
           clear e2
           have d3b0 : ((rd_T30 l0_1 x5_2).f3 == (rd_T30 l1_1 x5_2).f3) = false := beq_eq_false_iff_ne.mpr d3
           have d3b1 : ((rd_T30 l0_1 x5_2).f3 != (rd_T30 l1_1 x5_2).f3) = true := bne_iff_ne.mpr d3
           clear d3
           go_wp2
           go_ret
           exact ⟨by first | rfl | (simp [errW_none, errW_some] <;> rfl) | (simp [*, errW_none, errW_some] <;> rfl), (by repeat (first | (with_reducible first | exact HB.out | apply below_alloc | apply pw_below_drewN | apply below_drew1) | exact HB.out))⟩
          ·have e0b0 : ((rd_T30 l0_1 x5_2).f0.toList == (rd_T30 l1_1 x5_2).f0.toList) = true := beq_iff_eq.mpr e0
           have e0b1 : ((rd_T30 l0_1 x5_2).f0.toList != (rd_T30 l1_1 x5_2).f0.toList) = false := bne_eq_false_iff_eq.mpr e0
           clear e0
           have e1b0 : ((rd_T30 l0_1 x5_2).f1 == (rd_T30 l1_1 x5_2).f1) = true := beq_iff_eq.mpr e1
           have e1b1 : ((rd_T30 l0_1 x5_2).f1 != (rd_T30 l1_1 x5_2).f1) = false := bne_eq_false_iff_eq.mpr e1
           clear e1
           have e2b0 : ((rd_T30 l0_1 x5_2).f2 == (rd_T30 l1_1 x5_2).f2) = true := beq_iff_eq.mpr e2
           have e2b1 : ((rd_T30 l0_1 x5_2).f2 != (rd_T30 l1_1 x5_2).f2) = false := bne_eq_false_iff_eq.mpr e2
           clear e2
           have e3b0 : ((rd_T30 l0_1 x5_2).f3 == (rd_T30 l1_1 x5_2).f3) = true := beq_iff_eq.mpr e3
           have e3b1 : ((rd_T30 l0_1 x5_2).f3 != (rd_T30 l1_1 x5_2).f3) = false := bne_eq_false_iff_eq.mpr e3
           clear e3
           have d4b0 : ((rd_T30 l0_1 x5_2).f4 == (rd_T30 l1_1 x5_2).f4) = false := beq_eq_false_iff_ne.mpr d4
           have d4b1 : ((rd_T30 l0_1 x5_2).f4 != (rd_T30 l1_1 x5_2).f4) = true := bne_iff_ne.mpr d4
           clear d4
           go_wp2
           go_ret
           exact ⟨by first | rfl | (simp [errW_none, errW_some] <;> rfl) | (simp [*, errW_none, errW_some] <;> rfl), (by repeat (first | (with_reducible first | exact HB.out | apply below_alloc | apply pw_below_drewN | apply below_drew1) | exact HB.out))⟩
          ·have e0b0 : ((rd_T30 l0_1 x5_2).f0.toList == (rd_T30 l1_1 x5_2).f0.toList) = true := beq_iff_eq.mpr e0
           have e0b1 : ((rd_T30 l0_1 x5_2).f0.toList != (rd_T30 l1_1 x5_2).f0.toList) = false := bne_eq_false_iff_eq.mpr e0
           clear e0
           have e1b0 : ((rd_T30 l0_1 x5_2).f1 == (rd_T30 l1_1 x5_2).f1) = true := beq_iff_eq.mpr e1
           have e1b1 : ((rd_T30 l0_1 x5_2).f1 != (rd_T30 l1_1 x5_2).f1) = false := bne_eq_false_iff_eq.mpr e1
           clear e1
           have e2b0 : ((rd_T30 l0_1 x5_2).f2 == (rd_T30 l1_1 x5_2).f2) = true := beq_iff_eq.mpr e2
           have e2b1 : ((rd_T30 l0_1 x5_2).f2 != (rd_T30 l1_1 x5_2).f2) = false := bne_eq_false_iff_eq.mpr e2
           clear e2
           have e3b0 : ((rd_T30 l0_1 x5_2).f3 == (rd_T30 l1_1 x5_2).f3) = true := beq_iff_eq.mpr e3
           have e3b1 : ((rd_T30 l0_1 x5_2).f3 != (rd_T30 l1_1 x5_2).f3) = false := bne_eq_false_iff_eq.mpr e3
           clear e3
           have e4b0 : ((rd_T30 l0_1 x5_2).f4 == (rd_T30 l1_1 x5_2).f4) = true := beq_iff_eq.mpr e4
           have e4b1 : ((rd_T30 l0_1 x5_2).f4 != (rd_T30 l1_1 x5_2).f4) = false := bne_eq_false_iff_eq.mpr e4
           clear e4
           have d5b0 : ((rd_T30 l0_1 x5_2).f5 == (rd_T30 l1_1 x5_2).f5) = false := beq_eq_false_iff_ne.mpr d5
           have d5b1 : ((rd_T30 l0_1 x5_2).f5 != (rd_T30 l1_1 x5_2).f5) = true := bne_iff_ne.mpr d5
           clear d5
           go_wp2
           go_ret
           exact ⟨by first | rfl | (simp [errW_none, errW_some] <;> rfl) | (simp [*, errW_none, errW_some] <;> rfl), (by repeat (first | (with_reducible first | exact HB.out | apply below_alloc | apply pw_below_drewN | apply below_drew1) | exact HB.out))⟩
          ·have e0b0 : ((rd_T30 l0_1 x5_2).f0.toList == (rd_T30 l1_1 x5_2).f0.toList) = true := beq_iff_eq.mpr e0
           have e0b1 : ((rd_T30 l0_1 x5_2).f0.toList != (rd_T30 l1_1 x5_2).f0.toList) = false := bne_eq_false_iff_eq.mpr e0
           clear e0
           have e1b0 : ((rd_T30 l0_1 x5_2).f1 == (rd_T30 l1_1 x5_2).f1) = true := beq_iff_eq.mpr e1
           have e1b1 : ((rd_T30 l0_1 x5_2).f1 != (rd_T30 l1_1 x5_2).f1) = false := bne_eq_false_iff_eq.mpr e1
           clear e1
           have e2b0 : ((rd_T30 l0_1 x5_2).f2 == (rd_T30 l1_1 x5_2).f2) = true := beq_iff_eq.mpr e2
           have e2b1 : ((rd_T30 l0_1 x5_2).f2 != (rd_T30 l1_1 x5_2).f2) = false := bne_eq_false_iff_eq.mpr e2
           clear e2
           have e3b0 : ((rd_T30 l0_1 x5_2).f3 == (rd_T30 l1_1 x5_2).f3) = true := beq_iff_eq.mpr e3
           have e3b1 : ((rd_T30 l0_1 x5_2).f3 != (rd_T30 l1_1 x5_2).f3) = false := bne_eq_false_iff_eq.mpr e3
           clear e3
           have e4b0 : ((rd_T30 l0_1 x5_2).f4 == (rd_T30 l1_1 x5_2).f4) = true := beq_iff_eq.mpr e4
           have e4b1 : ((rd_T30 l0_1 x5_2).f4 != (rd_T30 l1_1 x5_2).f4) = false := bne_eq_false_iff_eq.mpr e4
           clear e4
           have e5b0 : ((rd_T30 l0_1 x5_2).f5 == (rd_T30 l1_1 x5_2).f5) = true := beq_iff_eq.mpr e5
           have e5b1 : ((rd_T30 l0_1 x5_2).f5 != (rd_T30 l1_1 x5_2).f5) = false := bne_eq_false_iff_eq.mpr e5
           clear e5
           have d6b0 : ((rd_T30 l0_1 x5_2).f7 == (rd_T30 l1_1 x5_2).f7) = false := beq_eq_false_iff_ne.mpr d6
           have d6b1 : ((rd_T30 l0_1 x5_2).f7 != (rd_T30 l1_1 x5_2).f7) = true := bne_iff_ne.mpr d6
           clear d6
           go_wp2
           go_ret
           exact ⟨by first | rfl | (simp [errW_none, errW_some] <;> rfl) | (simp [*, errW_none, errW_some] <;> rfl), (by repeat (first | (with_reducible first | exact HB.out | apply below_alloc | apply pw_below_drewN | apply below_drew1) | exact HB.out))⟩
          ·have e0b0 : ((rd_T30 l0_1 x5_2).f0.toList == (rd_T30 l1_1 x5_2).f0.toList) = true := beq_iff_eq.mpr e0
           have e0b1 : ((rd_T30 l0_1 x5_2).f0.toList != (rd_T30 l1_1 x5_2).f0.toList) = false := bne_eq_false_iff_eq.mpr e0
           clear e0
           have e1b0 : ((rd_T30 l0_1 x5_2).f1 == (rd_T30 l1_1 x5_2).f1) = true := beq_iff_eq.mpr e1
           have e1b1 : ((rd_T30 l0_1 x5_2).f1 != (rd_T30 l1_1 x5_2).f1) = false := bne_eq_false_iff_eq.mpr e1
           clear e1
           have e2b0 : ((rd_T30 l0_1 x5_2).f2 == (rd_T30 l1_1 x5_2).f2) = true := beq_iff_eq.mpr e2
           have e2b1 : ((rd_T30 l0_1 x5_2).f2 != (rd_T30 l1_1 x5_2).f2) = false := bne_eq_false_iff_eq.mpr e2
           clear e2
           have e3b0 : ((rd_T30 l0_1 x5_2).f3 == (rd_T30 l1_1 x5_2).f3) = true := beq_iff_eq.mpr e3
           have e3b1 : ((rd_T30 l0_1 x5_2).f3 != (rd_T30 l1_1 x5_2).f3) = false := bne_eq_false_iff_eq.mpr e3
           clear e3
           have e4b0 : ((rd_T30 l0_1 x5_2).f4 == (rd_T30 l1_1 x5_2).f4) = true := beq_iff_eq.mpr e4
           have e4b1 : ((rd_T30 l0_1 x5_2).f4 != (rd_T30 l1_1 x5_2).f4) = false := bne_eq_false_iff_eq.mpr e4
           clear e4
           have e5b0 : ((rd_T30 l0_1 x5_2).f5 == (rd_T30 l1_1 x5_2).f5) = true := beq_iff_eq.mpr e5
           have e5b1 : ((rd_T30 l0_1 x5_2).f5 != (rd_T30 l1_1 x5_2).f5) = false := bne_eq_false_iff_eq.mpr e5
           clear e5
           have e6b0 : ((rd_T30 l0_1 x5_2).f7 == (rd_T30 l1_1 x5_2).f7) = true := beq_iff_eq.mpr e6
           have e6b1 : ((rd_T30 l0_1 x5_2).f7 != (rd_T30 l1_1 x5_2).f7) = false := bne_eq_false_iff_eq.mpr e6
           clear e6
           have d7b0 : ((rd_T30 l0_1 x5_2).f8 == (rd_T30 l1_1 x5_2).f8) = false := beq_eq_false_iff_ne.mpr d7
           have d7b1 : ((rd_T30 l0_1 x5_2).f8 != (rd_T30 l1_1 x5_2).f8) = true := bne_iff_ne.mpr d7
           clear d7
           go_wp2
           go_ret
           exact ⟨by first | rfl | (simp [errW_none, errW_some] <;> rfl) | (simp [*, errW_none, errW_some] <;> rfl), (by repeat (first | (with_reducible first | exact HB.out | apply below_alloc | apply pw_below_drewN | apply below_drew1) | exact HB.out))⟩
          ·have e0b0 : ((rd_T30 l0_1 x5_2).f0.toList == (rd_T30 l1_1 x5_2).f0.toList) = true := beq_iff_eq.mpr e0
           have e0b1 : ((rd_T30 l0_1 x5_2).f0.toList != (rd_T30 l1_1 x5_2).f0.toList) = false := bne_eq_false_iff_eq.mpr e0
           clear e0
           have e1b0 : ((rd_T30 l0_1 x5_2).f1 == (rd_T30 l1_1 x5_2).f1) = true := beq_iff_eq.mpr e1
           have e1b1 : ((rd_T30 l0_1 x5_2).f1 != (rd_T30 l1_1 x5_2).f1) = false := bne_eq_false_iff_eq.mpr e1
           clear e1
           have e2b0 : ((rd_T30 l0_1 x5_2).f2 == (rd_T30 l1_1 x5_2).f2) = true := beq_iff_eq.mpr e2
           have e2b1 : ((rd_T30 l0_1 x5_2).f2 != (rd_T30 l1_1 x5_2).f2) = false := bne_eq_false_iff_eq.mpr e2
           clear e2
           have e3b0 : ((rd_T30 l0_1 x5_2).f3 == (rd_T30 l1_1 x5_2).f3) = true := beq_iff_eq.mpr e3
           have e3b1 : ((rd_T30 l0_1 x5_2).f3 != (rd_T30 l1_1 x5_2).f3) = false := bne_eq_false_iff_eq.mpr e3
           clear e3
           have e4b0 : ((rd_T30 l0_1 x5_2).f4 == (rd_T30 l1_1 x5_2).f4) = true := beq_iff_eq.mpr e4
           have e4b1 : ((rd_T30 l0_1 x5_2).f4 != (rd_T30 l1_1 x5_2).f4) = false := bne_eq_false_iff_eq.mpr e4
           clear e4
           have e5b0 : ((rd_T30 l0_1 x5_2).f5 == (rd_T30 l1_1 x5_2).f5) = true := beq_iff_eq.mpr e5
           have e5b1 : ((rd_T30 l0_1 x5_2).f5 != (rd_T30 l1_1 x5_2).f5) = false := bne_eq_false_iff_eq.mpr e5
           clear e5
           have e6b0 : ((rd_T30 l0_1 x5_2).f7 == (rd_T30 l1_1 x5_2).f7) = true := beq_iff_eq.mpr e6
           have e6b1 : ((rd_T30 l0_1 x5_2).f7 != (rd_T30 l1_1 x5_2).f7) = false := bne_eq_false_iff_eq.mpr e6
           clear e6
           have e7b0 : ((rd_T30 l0_1 x5_2).f8 == (rd_T30 l1_1 x5_2).f8) = true := beq_iff_eq.mpr e7
           have e7b1 : ((rd_T30 l0_1 x5_2).f8 != (rd_T30 l1_1 x5_2).f8) = false := bne_eq_false_iff_eq.mpr e7
           clear e7
           obtain ⟨kn_, hkn_⟩ := nums_at d8
           go_wp2_with (first | (go_at_call 38; (with_reducible refine (taskmasterref5_Nums.calls kn_ _ _ ((rd_T30 l0_1 x5_2).f6) _ _ ((rd_T30 l1_1 x5_2).f6) false _ ?side1 ?side2 ?side3 ?side4 hkn_).mono ?_); (case side1 => exact Kd.C_below HR213_6.out (by repeat (first | (with_reducible first | exact HB.out | apply below_alloc | apply pw_below_drewN | apply below_drew1) | exact HB.out))); (case side2 => exact HC213_6.out); (case side3 => exact Kd.C_below HR214_6.out (by repeat (first | (with_reducible first | exact HB.out | apply below_alloc | apply pw_below_drewN | apply below_drew1) | exact HB.out))); (case side4 => exact HC214_6.out); rintro e w' ⟨rfl, ⟨nd, rfl⟩⟩))
           go_ret
           exact ⟨by first | rfl | (simp [errW_none, errW_some] <;> rfl) | (simp [*, errW_none, errW_some] <;> rfl), (by repeat (first | (with_reducible first | exact HB.out | apply below_alloc | apply pw_below_drewN | apply below_drew1) | exact HB.out))⟩
         ·replace c18 := Bool.eq_false_iff.mpr c18
          subst c18
          have H1 : (taskmasterref5_Same.l0 k2 (wrap64 (x5_2 + 1)) a0_0 l0_1 a1_0 l1_1) = some r := by rw [if_neg (show ¬ (false = true) by decide)] at H; exact H
          clear H
          have H := H1
          clear H1
          have H' := Aside0.mk H
          clear H
          have hnb51 := NB211_212.out
          have hnc51 := NB212_211.out
          have hcz52_0 : w70.cell? ⟨gb211, 0, none⟩ = some (.int .i64 a0_0) := (blk_cell BK211.out 0).trans rfl
          have hcz52_1 : w70.cell? ⟨gb211, 1, none⟩ = some (.slice (some ad213) l0_1.length c0_1) := (blk_cell BK211.out 1).trans rfl
          have hfz52_0 := blk_frozen BK211.out 0
          have hfz52_1 := blk_frozen BK211.out 1
          obtain ⟨e0, e1, e2, e3, e4, e5, e6, e7, d8⟩ := differ_false A17.out
          have e0b0 : ((rd_T30 l0_1 x5_2).f0.toList == (rd_T30 l1_1 x5_2).f0.toList) = true := beq_iff_eq.mpr e0
          have e0b1 : ((rd_T30 l0_1 x5_2).f0.toList != (rd_T30 l1_1 x5_2).f0.toList) = false := bne_eq_false_iff_eq.mpr e0
          clear e0
          have e1b0 : ((rd_T30 l0_1 x5_2).f1 == (rd_T30 l1_1 x5_2).f1) = true := beq_iff_eq.mpr e1
          have e1b1 : ((rd_T30 l0_1 x5_2).f1 != (rd_T30 l1_1 x5_2).f1) = false := bne_eq_false_iff_eq.mpr e1
          clear e1
          have e2b0 : ((rd_T30 l0_1 x5_2).f2 == (rd_T30 l1_1 x5_2).f2) = true := beq_iff_eq.mpr e2
          have e2b1 : ((rd_T30 l0_1 x5_2).f2 != (rd_T30 l1_1 x5_2).f2) = false := bne_eq_false_iff_eq.mpr e2
          clear e2
          have e3b0 : ((rd_T30 l0_1 x5_2).f3 == (rd_T30 l1_1 x5_2).f3) = true := beq_iff_eq.mpr e3
          have e3b1 : ((rd_T30 l0_1 x5_2).f3 != (rd_T30 l1_1 x5_2).f3) = false := bne_eq_false_iff_eq.mpr e3
          clear e3
          have e4b0 : ((rd_T30 l0_1 x5_2).f4 == (rd_T30 l1_1 x5_2).f4) = true := beq_iff_eq.mpr e4
          have e4b1 : ((rd_T30 l0_1 x5_2).f4 != (rd_T30 l1_1 x5_2).f4) = false := bne_eq_false_iff_eq.mpr e4
          clear e4
          have e5b0 : ((rd_T30 l0_1 x5_2).f5 == (rd_T30 l1_1 x5_2).f5) = true := beq_iff_eq.mpr e5
          have e5b1 : ((rd_T30 l0_1 x5_2).f5 != (rd_T30 l1_1 x5_2).f5) = false := bne_eq_false_iff_eq.mpr e5
          clear e5
          have e6b0 : ((rd_T30 l0_1 x5_2).f7 == (rd_T30 l1_1 x5_2).f7) = true := beq_iff_eq.mpr e6
          have e6b1 : ((rd_T30 l0_1 x5_2).f7 != (rd_T30 l1_1 x5_2).f7) = false := bne_eq_false_iff_eq.mpr e6
          clear e6
          have e7b0 : ((rd_T30 l0_1 x5_2).f8 == (rd_T30 l1_1 x5_2).f8) = true := beq_iff_eq.mpr e7
          have e7b1 : ((rd_T30 l0_1 x5_2).f8 != (rd_T30 l1_1 x5_2).f8) = false := bne_eq_false_iff_eq.mpr e7
          clear e7
          obtain ⟨kn_, hkn_⟩ := nums_at d8
          go_wp2_with (first | (go_at_call 38; (with_reducible refine (taskmasterref5_Nums.calls kn_ _ _ ((rd_T30 l0_1 x5_2).f6) _ _ ((rd_T30 l1_1 x5_2).f6) true _ ?side1 ?side2 ?side3 ?side4 hkn_).mono ?_); (case side1 => exact Kd.C_below HR213_6.out (by repeat (first | (with_reducible first | exact HB.out | apply below_alloc | apply pw_below_drewN | apply below_drew1) | exact HB.out))); (case side2 => exact HC213_6.out); (case side3 => exact Kd.C_below HR214_6.out (by repeat (first | (with_reducible first | exact HB.out | apply below_alloc | apply pw_below_drewN | apply below_drew1) | exact HB.out))); (case side4 => exact HC214_6.out); rintro e w' ⟨rfl, ⟨nd, rfl⟩⟩))
          go_roundg k2
          case measure => have := HJ2.out; have := HK2.out; omega
          case rel => exact ⟨(wrap64 (x5_2 + 1)), (by first | rfl | (simp; done) | (simp [*]; done)), H', ⟨by have := HJ2.out; have := HK2.out; omega⟩, ⟨by (with_reducible repeat (first | refine blk_drewN ?_ _ | refine blk_drew ?_ | refine blk_alloc ?_ _)); exact BK211.out⟩, ⟨by (with_reducible repeat (first | refine blk_drewN ?_ _ | refine blk_drew ?_ | refine blk_alloc ?_ _)); exact BK212.out⟩, ⟨by repeat (first | (with_reducible first | exact HB.out | apply below_alloc | apply pw_below_drewN | apply below_drew1 | refine below_set ?_ GE211.out | refine below_set ?_ GE212.out | refine below_set ?_ GE215.out | refine below_set ?_ GE216.out) | exact HB.out)⟩⟩
        ·rw [if_neg c16] at H
         exact absurd H (by simp)
       ·rw [if_neg c15] at H
        exact absurd H (by simp)
      ·rw [if_neg c14] at H
       have c14b0 : decide (x5_2 < (l0_1.length : Int)) = false := decide_eq_false c14
       clear c14
       obtain rfl := Option.some.inj H
       have hnb83 := NB211_212.out
       have hnc83 := NB212_211.out
       have hcz84_0 : wr.cell? ⟨gb211, 0, none⟩ = some (.int .i64 a0_0) := (blk_cell BK211.out 0).trans rfl
       have hcz84_1 : wr.cell? ⟨gb211, 1, none⟩ = some (.slice A0_1 l0_1.length c0_1) := (blk_cell BK211.out 1).trans rfl
       have hfz84_0 := blk_frozen BK211.out 0
       have hfz84_1 := blk_frozen BK211.out 1
       go_wp2; go_ret
       exact ⟨by first | rfl | (simp [errW_none, errW_some] <;> rfl) | (simp [*, errW_none, errW_some] <;> rfl), by repeat (first | (with_reducible first | exact HB.out | apply below_alloc | apply pw_below_drewN | apply below_drew1 | refine below_set ?_ GE211.out | refine below_set ?_ GE212.out) | exact HB.out)⟩
end Go.Proofs.YtkdndgclldlddaaDoor.QSb

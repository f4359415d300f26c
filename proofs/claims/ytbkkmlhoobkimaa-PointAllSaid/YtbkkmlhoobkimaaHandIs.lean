/- What is proved: the contract of point.is (blocks and costs may be), by a walk of it, of its closure and of slices.ContainsFunc and slices.IndexFunc at int64; conditions as each theorem names them. -/
import Derived.Test.YtbkkmlhoobkimaaQPtx0
namespace Go.Proofs.Ytbkkmlhoobkimaa.QPt
open Go.RowKit Go.Proofs.YtbkkmlhoobkimaaW.PrintWords Go.Proofs.YtbkkmlhoobkimaaW.PrintLast Go.Proofs.YtbkkmlhoobkimaaW.PrintMore
set_option linter.unusedVariables false
set_option linter.unusedSimpArgs false

/-- Is a number one that may not be? -/
def oddP (x : Int) : Bool := decide (x < 0) || decide (10000 < x)
/-- The place of the first one that may not be; -1: there is none. -/
def idxP : List Int → Int → Int
  | [], _ => -1
  | x :: l, i => if oddP x = true then i else idxP l (i + 1)
theorem idxP_any : ∀ (l : List Int) (i : Int), 0 ≤ i → decide (0 ≤ idxP l i) = l.any oddP
  | [], i, h => by simp [idxP]
  | x :: l, i, h => by
    unfold idxP
    by_cases hx : oddP x = true
    · rw [if_pos hx]; simp [hx, h]
    · rw [if_neg hx, idxP_any l (i + 1) (by omega)]; simp [hx]

theorem clos (x : Int) (w : World) :
    Calls Try.prog 29 #[.int .i64 x] w fun e w' => e = .returned (.bool (oddP x)) ∧ Below w.heap.size w w' := by
  have HB := Aside0.mk (Below.refl w.heap.size w)
  by_cases h0 : x < 0
  · have E := Aside0.mk (show oddP x = true by unfold oddP; simp [h0])
    have c0 : decide (x < 0) = true := decide_eq_true h0
    clear h0
    go_enter Try.func29, Try.ntmps29
    go_wp2
    go_ret
    exact ⟨(by rw [E.out]; rfl), by repeat (first | (with_reducible first | exact HB.out | apply below_alloc | apply pw_below_drewN | apply below_drew1) | exact HB.out)⟩
  · by_cases h1 : 10000 < x
    · have E := Aside0.mk (show oddP x = true by unfold oddP; simp [h1])
      have c0 : decide (x < 0) = false := decide_eq_false h0
      have c1 : decide (10000 < x) = true := decide_eq_true h1
      have c2 : decide (x > 10000) = true := decide_eq_true h1
      clear h0 h1
      go_enter Try.func29, Try.ntmps29
      go_wp2
      go_ret
      exact ⟨(by rw [E.out]; rfl), by repeat (first | (with_reducible first | exact HB.out | apply below_alloc | apply pw_below_drewN | apply below_drew1) | exact HB.out)⟩
    · have E := Aside0.mk (show oddP x = false by unfold oddP; simp [h0, h1])
      have c0 : decide (x < 0) = false := decide_eq_false h0
      have c1 : decide (10000 < x) = false := decide_eq_false h1
      have c2 : decide (x > 10000) = false := decide_eq_false h1
      clear h0 h1
      go_enter Try.func29, Try.ntmps29
      go_wp2
      go_ret
      exact ⟨(by rw [E.out]; rfl), by repeat (first | (with_reducible first | exact HB.out | apply below_alloc | apply pw_below_drewN | apply below_drew1) | exact HB.out)⟩

theorem idxP_step {l : List Int} {i : Int} (h0 : 0 ≤ i) (h1 : i < (l.length : Int)) : idxP (l.drop i.toNat) i = if oddP (rd l i) = true then i else idxP (l.drop (i + 1).toNat) (i + 1) := by
  have hl : i.toNat < l.length := by omega
  rw [List.drop_eq_getElem_cons hl, show (i + 1).toNat = i.toNat + 1 by omega]
  show (if oddP l[i.toNat] = true then i else _) = _
  unfold rd
  rw [List.getD_eq_getElem?_getD, List.getElem?_eq_getElem hl]; rfl
theorem idxP_end {l : List Int} {i : Int} (h1 : (l.length : Int) ≤ i) : idxP (l.drop i.toNat) i = -1 := by
  rw [List.drop_eq_nil_of_le (by omega)]; rfl

set_option maxHeartbeats 1000000 in
theorem index (A1 : Option Addr) (c1 : Nat) (l1 : List Int) (w : World) (hr1 : Kd.C (Kd.int .i64) w A1 l1.length l1) (hc1 : l1.length ≤ c1) (r : Int) (h : idxP l1 0 = r) :
    Calls Try.prog 34 #[.slice A1 l1.length c1, .func (.func 29) #[] #[]] w fun e w' => e = .returned (.int .i64 r) ∧ Below w.heap.size w w' := by
  have HR1 := Aside0.mk hr1
  have HL := Aside0.mk hr1.2.1
  clear hr1
  have HB := Aside0.mk (Below.refl w.heap.size w)
  have H := Aside0.mk (show idxP (l1.drop (0 : Int).toNat) 0 = r from h)
  clear h
  go_enter Try.func34, Try.ntmps34
  go_wp2
  go_loopg [8] l1.length (fun kq v8 w' => ∃ i : Int, v8 = .int .i64 i ∧ Aside0 (0 ≤ i ∧ i ≤ l1.length ∧ (l1.length : Int) - i ≤ kq) ∧ Aside0 (idxP (l1.drop i.toNat) i = r) ∧ Aside0 (Below w.heap.size w w'))
  case atStart => exact ⟨0, rfl, ⟨by omega⟩, H, HB⟩
  case round =>
    clear HB H
    obtain ⟨i, rfl, HI, H, HB⟩ := hrel
    by_cases hlt : i < (l1.length : Int)
    · have p106 : 0 ≤ i := HI.out.1
      have q106 := hlt
      obtain ⟨ad106, e106, hx106_0⟩ := Kd.at_int HR1.out i p106 q106
      cases e106
      replace hx106_0 := (HB.out.cell (World.block_lt_of_cell? w _ hx106_0)).trans hx106_0
      have c4b0 : decide (i < (l1.length : Int)) = true := decide_eq_true hlt
      have hw : wrap64 (i + 1) = i + 1 := by have := HL.out; unfold wrap64; omega
      have HW := Aside0.mk hw
      have hstep := idxP_step p106 q106
      rw [H.out] at hstep
      have HS := Aside0.mk hstep
      clear hstep hlt hw
      generalize ho : oddP (rd l1 i) = o at HS
      have HO := Aside0.mk (show ∀ w, Calls Try.prog 29 #[.int .i64 (rd l1 i)] w fun e w' => e = .returned (.bool o) ∧ Below w.heap.size w w' by rw [← ho]; exact fun w => clos _ w)
      clear ho
      cases o
      · go_wp2_with (first | (go_at_call 29; (with_reducible refine (HO.out _).mono ?_); rintro e w' ⟨rfl, hb⟩; have HB2 := Aside0.mk (HB.out.trans (hb.mono HB.out.size)); clear hb))
        go_roundg (gk - 1)
        case measure => have := HI.out; omega
        case rel => exact ⟨i + 1, (by first | rfl | (rw [HW.out]; done) | (simp [HW.out]; done)), ⟨by have := HI.out; omega⟩, ⟨by have := HS.out; simpa using this.symm⟩, HB2⟩
      · go_wp2_with (first | (go_at_call 29; (with_reducible refine (HO.out _).mono ?_); rintro e w' ⟨rfl, hb⟩; have HB2 := Aside0.mk (HB.out.trans (hb.mono HB.out.size)); clear hb))
        go_ret
        have e : r = i := by have := HS.out; simpa using this
        subst e
        exact ⟨by first | rfl | (simp; done), HB2.out⟩
    · have c4b0 : decide (i < (l1.length : Int)) = false := decide_eq_false hlt
      have he := idxP_end (l := l1) (i := i) (by omega)
      rw [H.out] at he
      have HS := Aside0.mk he
      clear he hlt
      go_wp2
      go_ret
      have e : r = -1 := HS.out
      subst e
      exact ⟨by first | rfl | (simp; done), HB.out⟩
/-- Is there one that may not be? -/
theorem contains (A1 : Option Addr) (c1 : Nat) (l1 : List Int) (w : World) (hr1 : Kd.C (Kd.int .i64) w A1 l1.length l1) (hc1 : l1.length ≤ c1) (r : Bool) (h : l1.any oddP = r) :
    Calls Try.prog 30 #[.slice A1 l1.length c1, .func (.func 29) #[] #[]] w fun e w' => e = .returned (.bool r) ∧ Below w.heap.size w w' := by
  have hq := idxP_any l1 0 (by omega)
  rw [h] at hq
  have HQ := Aside0.mk (index A1 c1 l1 w hr1 hc1 _ rfl)
  have HR := Aside0.mk hr1
  clear hr1 hc1 h
  generalize idxP l1 0 = n at hq HQ
  cases r
  all_goals
    go_enter Try.func30, Try.ntmps30
    go_wp2_with (first | (go_at_call 34; (with_reducible refine (HQ.out).mono ?_); rintro e w' ⟨rfl, hb⟩; have HB2 := Aside0.mk hb; clear hb))
    go_ret
    exact ⟨by first | rfl | (simp; done) | (simp [*]; done), HB2.out⟩

/-- May blocks and costs be? -/
def point_is.f (l0 : List Int) (l1 : List Int) : Option Bool := some (decide (1 ≤ l0.length) && (decide (l0.length ≤ 12) && (decide ((l1.length : Int) = (l0.length : Int) - 1) && (!(l0.any oddP) && !(l1.any oddP)))))
set_option maxHeartbeats 2000000 in
theorem point_is.calls (A0 : Option Addr) (c0 : Nat) (l0 : List Int) (A1 : Option Addr) (c1 : Nat) (l1 : List Int) (r : Bool) (w : World) (hr0 : Kd.C (Kd.int .i64) w A0 l0.length l0) (hc0 : l0.length ≤ c0) (hr1 : Kd.C (Kd.int .i64) w A1 l1.length l1) (hc1 : l1.length ≤ c1) (h : point_is.f l0 l1 = some r) :
    Calls Try.prog 16 #[.slice A0 l0.length c0, .slice A1 l1.length c1] w fun e w' => e = .returned (.bool r) ∧ Below w.heap.size w w' := by
  have H : (decide (1 ≤ l0.length) && (decide (l0.length ≤ 12) && (decide ((l1.length : Int) = (l0.length : Int) - 1) && (!(l0.any oddP) && !(l1.any oddP))))) = r := Option.some.inj h
  clear h
  have HC0 := Aside0.mk (fun w (h : Kd.C (Kd.int .i64) w A0 l0.length l0) => contains A0 c0 l0 w h hc0 _ rfl)
  have HC1 := Aside0.mk (fun w (h : Kd.C (Kd.int .i64) w A1 l1.length l1) => contains A1 c1 l1 w h hc1 _ rfl)
  have HR0 := Aside0.mk hr0
  have HR1 := Aside0.mk hr1
  have HB := Aside0.mk (Below.refl w.heap.size w)
  have HL0 := Aside0.mk hr0.2.1
  have HW := Aside0.mk (show wrap64 ((l0.length : Int) - 1) = (l0.length : Int) - 1 by have := hr0.2.1; unfold wrap64; omega)
  clear hr0 hr1 hc0 hc1
  generalize l0.any oddP = p at H HC0
  generalize l1.any oddP = q at H HC1
  by_cases h1 : 1 ≤ l0.length
  rotate_left
  · have d1 : decide (1 ≤ l0.length) = false := decide_eq_false h1
    have d1i : decide ((1 : Int) ≤ (l0.length : Int)) = false := decide_eq_false (by omega)
    have d1j : decide ((l0.length : Int) ≥ 1) = false := decide_eq_false (by omega)
    have d2 : decide (0 < l0.length) = false := decide_eq_false (by omega)
    rw [d1, Bool.false_and] at H
    subst H
    clear h1
    go_enter Try.func16, Try.ntmps16
    go_wp2
    go_ret
    exact ⟨rfl, by repeat (first | (with_reducible first | exact HB.out | apply below_alloc | apply pw_below_drewN | apply below_drew1) | exact HB.out)⟩
  by_cases h2 : l0.length ≤ 12
  rotate_left
  · have d1 : decide (1 ≤ l0.length) = true := decide_eq_true h1
    have d1i : decide ((1 : Int) ≤ (l0.length : Int)) = true := decide_eq_true (by omega)
    have d1j : decide ((l0.length : Int) ≥ 1) = true := decide_eq_true (by omega)
    have d2 : decide (0 < l0.length) = true := decide_eq_true (by omega)
    have d3 : decide (l0.length ≤ 12) = false := decide_eq_false h2
    have d3i : decide ((l0.length : Int) ≤ 12) = false := decide_eq_false (by omega)
    rw [d3, Bool.false_and, Bool.and_false] at H
    subst H
    clear h1 h2
    go_enter Try.func16, Try.ntmps16
    go_wp2
    go_ret
    exact ⟨rfl, by repeat (first | (with_reducible first | exact HB.out | apply below_alloc | apply pw_below_drewN | apply below_drew1) | exact HB.out)⟩
  have d1 : decide (1 ≤ l0.length) = true := decide_eq_true h1
  have d1i : decide ((1 : Int) ≤ (l0.length : Int)) = true := decide_eq_true (by omega)
  have d1j : decide ((l0.length : Int) ≥ 1) = true := decide_eq_true (by omega)
  have d2 : decide (0 < l0.length) = true := decide_eq_true (by omega)
  have d3 : decide (l0.length ≤ 12) = true := decide_eq_true h2
  have d3i : decide ((l0.length : Int) ≤ 12) = true := decide_eq_true (by omega)
  by_cases h3 : (l1.length : Int) = (l0.length : Int) - 1
  rotate_left
  · have d4 : decide ((l1.length : Int) = (l0.length : Int) - 1) = false := decide_eq_false h3
    have d5 : ((l1.length : Int) == (l0.length : Int) - 1) = false := by rw [beq_eq_false_iff_ne]; exact h3
    have d6 : ((l1.length : Int) == wrap64 ((l0.length : Int) - 1)) = false := by rw [HW.out]; exact d5
    have d7 : decide ((l1.length : Int) = wrap64 ((l0.length : Int) - 1)) = false := by rw [HW.out]; exact d4
    rw [d1, d3, d4] at H
    have H' : false = r := H
    subst H'
    clear h1 h2 h3 H
    go_enter Try.func16, Try.ntmps16
    go_wp2
    go_ret
    exact ⟨rfl, by repeat (first | (with_reducible first | exact HB.out | apply below_alloc | apply pw_below_drewN | apply below_drew1) | exact HB.out)⟩
  have d4 : decide ((l1.length : Int) = (l0.length : Int) - 1) = true := decide_eq_true h3
  have d5 : ((l1.length : Int) == (l0.length : Int) - 1) = true := by rw [beq_iff_eq]; exact h3
  have d6 : ((l1.length : Int) == wrap64 ((l0.length : Int) - 1)) = true := by rw [HW.out]; exact d5
  have d7 : decide ((l1.length : Int) = wrap64 ((l0.length : Int) - 1)) = true := by rw [HW.out]; exact d4
  rw [d1, d3, d4] at H
  clear h1 h2 h3
  cases p
  · have H' : (!q) = r := H
    subst H'
    clear H
    go_enter Try.func16, Try.ntmps16
    go_wp2_with (first | (go_at_call 30; first | ((with_reducible refine (HC0.out _ (Kd.C_below HR0.out (by repeat (first | (with_reducible first | exact HB.out | apply below_alloc | apply pw_below_drewN | apply below_drew1) | exact HB.out)))).mono ?_); rintro e w' ⟨rfl, hb⟩; have HB2 := Aside0.mk (HB.out.trans (hb.mono HB.out.size)); clear hb) | ((with_reducible refine (HC1.out _ (Kd.C_below HR1.out HB2.out)).mono ?_); rintro e w'' ⟨rfl, hb⟩; have HB3 := Aside0.mk (HB2.out.trans (hb.mono HB2.out.size)); clear hb)))
    go_ret
    exact ⟨rfl, HB3.out⟩
  · have H' : false = r := H
    subst H'
    clear H
    go_enter Try.func16, Try.ntmps16
    go_wp2_with (first | (go_at_call 30; ((with_reducible refine (HC0.out _ (Kd.C_below HR0.out (by repeat (first | (with_reducible first | exact HB.out | apply below_alloc | apply pw_below_drewN | apply below_drew1) | exact HB.out)))).mono ?_); rintro e w' ⟨rfl, hb⟩; have HB2 := Aside0.mk (HB.out.trans (hb.mono HB.out.size)); clear hb)))
    go_ret
    exact ⟨rfl, HB2.out⟩
end Go.Proofs.Ytbkkmlhoobkimaa.QPt

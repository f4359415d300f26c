/- What is proved: the contract of fix.is (a base and loads may be), by a walk of it, of its closure and of slices.ContainsFunc and slices.IndexFunc at loads; conditions as each theorem names them. -/
import Derived.Test.YtapncdhemhnphaaQFixxf17
import Derived.Test.YtapncdhemhnphaaQFixx0
namespace Go.Proofs.Ytapncdhemhnphaa.QFix
open Go.RowKit Go.Proofs.YtapncdhemhnphaaW.PrintWords Go.Proofs.YtapncdhemhnphaaW.PrintLast Go.Proofs.YtapncdhemhnphaaW.PrintMore
set_option linter.unusedVariables false
set_option linter.unusedSimpArgs false

/-- Is a load one that may not be? -/
def oddL (x : S31) : Bool := !(decide (1 ≤ x.f0 ∧ x.f0 ≤ 1000000) && decide (0 ≤ x.f1 ∧ x.f1 ≤ 1000000))
theorem isTop_eq (n l : Int) : fix_isTop.f n l = some (decide (l ≤ n ∧ n ≤ 1000000)) := by
  unfold fix_isTop.f
  by_cases h : l ≤ n
  · rw [if_pos (show n ≥ l from h)]; simp [h]
  · rw [if_neg (show ¬ n ≥ l from h)]; simp [h]
/-- The place of the first one that may not be; -1: there is none. -/
def idxL : List S31 → Int → Int
  | [], _ => -1
  | x :: l, i => if oddL x = true then i else idxL l (i + 1)
theorem idxL_any : ∀ (l : List S31) (i : Int), 0 ≤ i → decide (0 ≤ idxL l i) = l.any oddL
  | [], i, h => by simp [idxL]
  | x :: l, i, h => by
    unfold idxL
    by_cases hx : oddL x = true
    · rw [if_pos hx]; simp [hx, h]
    · rw [if_neg hx, idxL_any l (i + 1) (by omega)]; simp [hx]

theorem clos (x : S31) (w : World) :
    Calls Try.prog 19 #[.agg #[.int .i64 x.f0, .int .i64 x.f1]] w fun e w' => e = .returned (.bool (oddL x)) ∧ Below w.heap.size w w' := by
  have hu31 := Try.underlying31
  have A1 := Aside0.mk (isTop_eq x.f0 1)
  have A2 := Aside0.mk (isTop_eq x.f1 0)
  generalize hp : decide (1 ≤ x.f0 ∧ x.f0 ≤ 1000000) = p at A1
  generalize hq : decide (0 ≤ x.f1 ∧ x.f1 ≤ 1000000) = q at A2
  have E := Aside0.mk (show oddL x = (!(p && q)) by unfold oddL; rw [hp, hq])
  clear hp hq
  have HB := Aside0.mk (Below.refl w.heap.size w)
  cases p
  all_goals
    go_enter Try.func19, Try.ntmps19
    go_wp2_with (first | (go_at_call 17; (with_reducible refine (fix_isTop.calls x.f0 1 _ _ A1.out).mono ?_); rintro e w' ⟨rfl, ⟨nd, rfl⟩⟩) | (go_at_call 17; (with_reducible refine (fix_isTop.calls x.f1 0 _ _ A2.out).mono ?_); rintro e w' ⟨rfl, ⟨nd, rfl⟩⟩))
    go_ret
    exact ⟨by rw [E.out]; simp, by repeat (first | (with_reducible first | exact HB.out | apply below_alloc | apply pw_below_drewN | apply below_drew1) | exact HB.out)⟩

theorem idxL_step {l : List S31} {i : Int} (h0 : 0 ≤ i) (h1 : i < (l.length : Int)) : idxL (l.drop i.toNat) i = if oddL (rd_T31 l i) = true then i else idxL (l.drop (i + 1).toNat) (i + 1) := by
  have hl : i.toNat < l.length := by omega
  rw [List.drop_eq_getElem_cons hl, show (i + 1).toNat = i.toNat + 1 by omega]
  show (if oddL l[i.toNat] = true then i else _) = _
  unfold rd_T31
  rw [List.getD_eq_getElem?_getD, List.getElem?_eq_getElem hl]; rfl
theorem idxL_end {l : List S31} {i : Int} (h1 : (l.length : Int) ≤ i) : idxL (l.drop i.toNat) i = -1 := by
  rw [List.drop_eq_nil_of_le (by omega)]; rfl

set_option maxHeartbeats 1000000 in
theorem index (A1 : Option Addr) (c1 : Nat) (l1 : List (S31)) (w : World) (hr1 : Kd.C k31 w A1 l1.length l1) (hc1 : l1.length ≤ c1) (r : Int) (h : idxL l1 0 = r) :
    Calls Try.prog 21 #[.slice A1 l1.length c1, .func (.func 19) #[] #[]] w fun e w' => e = .returned (.int .i64 r) ∧ Below w.heap.size w w' := by
  have hu31 := Try.underlying31
  have HR1 := Aside0.mk hr1
  have HL := Aside0.mk hr1.2.1
  clear hr1
  have HB := Aside0.mk (Below.refl w.heap.size w)
  have H := Aside0.mk (show idxL (l1.drop (0 : Int).toNat) 0 = r from h)
  clear h
  go_enter Try.func21, Try.ntmps21
  go_wp2
  go_loopg [8] l1.length (fun kq v8 w' => ∃ i : Int, v8 = .int .i64 i ∧ Aside0 (0 ≤ i ∧ i ≤ l1.length ∧ (l1.length : Int) - i ≤ kq) ∧ Aside0 (idxL (l1.drop i.toNat) i = r) ∧ Aside0 (Below w.heap.size w w'))
  case atStart => exact ⟨0, rfl, ⟨by omega⟩, H, HB⟩
  case round =>
    clear HB H
    obtain ⟨i, rfl, HI, H, HB⟩ := hrel
    by_cases hlt : i < (l1.length : Int)
    · have p106 : 0 ≤ i := HI.out.1
      have q106 := hlt
      obtain ⟨ad106, e106, hx106_0, hx106_1⟩ := at_T31 HR1.out i p106 q106
      cases e106
      replace hx106_0 := (HB.out.cell (World.block_lt_of_cell? w _ hx106_0)).trans hx106_0
      replace hx106_1 := (HB.out.cell (World.block_lt_of_cell? w _ hx106_1)).trans hx106_1
      have c4b0 : decide (i < (l1.length : Int)) = true := decide_eq_true hlt
      have hw : wrap64 (i + 1) = i + 1 := by have := HL.out; unfold wrap64; omega
      have HW := Aside0.mk hw
      have hstep := idxL_step p106 q106
      rw [H.out] at hstep
      have HS := Aside0.mk hstep
      clear hstep hlt hw
      generalize ho : oddL (rd_T31 l1 i) = o at HS
      have HO := Aside0.mk (show ∀ w, Calls Try.prog 19 #[.agg #[.int .i64 (rd_T31 l1 i).f0, .int .i64 (rd_T31 l1 i).f1]] w fun e w' => e = .returned (.bool o) ∧ Below w.heap.size w w' by rw [← ho]; exact fun w => clos _ w)
      clear ho
      cases o
      · go_wp2_with (first | (go_at_call 19; (with_reducible refine (HO.out _).mono ?_); rintro e w' ⟨rfl, hb⟩; have HB2 := Aside0.mk (HB.out.trans (hb.mono HB.out.size)); clear hb))
        go_roundg (gk - 1)
        case measure => have := HI.out; omega
        case rel => exact ⟨i + 1, (by first | rfl | (rw [HW.out]; done) | (simp [HW.out]; done)), ⟨by have := HI.out; omega⟩, ⟨by have := HS.out; simpa using this.symm⟩, HB2⟩
      · go_wp2_with (first | (go_at_call 19; (with_reducible refine (HO.out _).mono ?_); rintro e w' ⟨rfl, hb⟩; have HB2 := Aside0.mk (HB.out.trans (hb.mono HB.out.size)); clear hb))
        go_ret
        have e : r = i := by have := HS.out; simpa using this
        subst e
        exact ⟨by first | rfl | (simp; done), HB2.out⟩
    · have c4b0 : decide (i < (l1.length : Int)) = false := decide_eq_false hlt
      have he := idxL_end (l := l1) (i := i) (by omega)
      rw [H.out] at he
      have HS := Aside0.mk he
      clear he hlt
      go_wp2
      go_ret
      have e : r = -1 := HS.out
      subst e
      exact ⟨by first | rfl | (simp; done), HB.out⟩
/-- May the loads' numbers be? -/
theorem contains (A1 : Option Addr) (c1 : Nat) (l1 : List (S31)) (w : World) (hr1 : Kd.C k31 w A1 l1.length l1) (hc1 : l1.length ≤ c1) (r : Bool) (h : l1.any oddL = r) :
    Calls Try.prog 18 #[.slice A1 l1.length c1, .func (.func 19) #[] #[]] w fun e w' => e = .returned (.bool r) ∧ Below w.heap.size w w' := by
  have hq := idxL_any l1 0 (by omega)
  rw [h] at hq
  have HQ := Aside0.mk (index A1 c1 l1 w hr1 hc1 _ rfl)
  have HR := Aside0.mk hr1
  clear hr1 hc1 h
  generalize idxL l1 0 = n at hq HQ
  cases r
  all_goals
    go_enter Try.func18, Try.ntmps18
    go_wp2_with (first | (go_at_call 21; (with_reducible refine (HQ.out).mono ?_); rintro e w' ⟨rfl, hb⟩; have HB2 := Aside0.mk hb; clear hb))
    go_ret
    exact ⟨by first | rfl | (simp; done) | (simp [*]; done), HB2.out⟩

/-- May a base and loads be? -/
def fix_is.f (a0 : Int) (l1 : List (S31)) : Option Bool := some (decide (0 ≤ a0 ∧ a0 ≤ 1000000) && (decide ((l1.length : Int) ≤ 64) && !(l1.any oddL)))
set_option maxHeartbeats 1000000 in
theorem fix_is.calls (a0 : Int) (A1 : Option Addr) (c1 : Nat) (l1 : List (S31)) (r : Bool) (w : World) (hr1 : Kd.C k31 w A1 l1.length l1) (hc1 : l1.length ≤ c1) (h : fix_is.f a0 l1 = some r) :
    Calls Try.prog 13 #[.int .i64 a0, .slice A1 l1.length c1] w fun e w' => e = .returned (.bool r) ∧ Below w.heap.size w w' := by
  have H : (decide (0 ≤ a0 ∧ a0 ≤ 1000000) && (decide ((l1.length : Int) ≤ 64) && !(l1.any oddL))) = r := Option.some.inj h
  clear h
  have A1' := Aside0.mk (isTop_eq a0 0)
  have HC := Aside0.mk (fun w (h : Kd.C k31 w A1 l1.length l1) => contains A1 c1 l1 w h hc1 _ rfl)
  have HR := Aside0.mk hr1
  have HB := Aside0.mk (Below.refl w.heap.size w)
  clear hr1 hc1
  generalize decide (0 ≤ a0 ∧ a0 ≤ 1000000) = p at H A1'
  generalize l1.any oddL = q at H HC
  cases p
  · simp at H
    subst H
    go_enter Try.func13, Try.ntmps13
    go_wp2_with (first | (go_at_call 17; (with_reducible refine (fix_isTop.calls a0 0 _ _ A1'.out).mono ?_); rintro e w' ⟨rfl, ⟨nd, rfl⟩⟩))
    go_ret
    exact ⟨rfl, by repeat (first | (with_reducible first | exact HB.out | apply below_alloc | apply pw_below_drewN | apply below_drew1) | exact HB.out)⟩
  · by_cases hl : (l1.length : Int) ≤ 64
    · have e1 : decide (l1.length ≤ 64) = true := decide_eq_true (by omega)
      have e2 : decide ((l1.length : Int) ≤ 64) = true := decide_eq_true hl
      rw [e2] at H
      simp at H
      subst H
      clear hl
      go_enter Try.func13, Try.ntmps13
      go_wp2_with (first | (go_at_call 17; (with_reducible refine (fix_isTop.calls a0 0 _ _ A1'.out).mono ?_); rintro e w' ⟨rfl, ⟨nd, rfl⟩⟩) | (go_at_call 18; (with_reducible refine (HC.out _ (Kd.C_below HR.out (by repeat (first | (with_reducible first | exact HB.out | apply below_alloc | apply pw_below_drewN | apply below_drew1) | exact HB.out)))).mono ?_); rintro e w' ⟨rfl, hb⟩; have HB2 := Aside0.mk hb; clear hb))
      go_ret
      exact ⟨rfl, (Drawn0.below ⟨⟨nd, rfl⟩⟩).trans (HB2.out.mono (Nat.le_refl _))⟩
    · have e1 : decide (l1.length ≤ 64) = false := decide_eq_false (by omega)
      have e2 : decide ((l1.length : Int) ≤ 64) = false := decide_eq_false hl
      rw [e2] at H
      simp at H
      subst H
      clear hl
      go_enter Try.func13, Try.ntmps13
      go_wp2_with (first | (go_at_call 17; (with_reducible refine (fix_isTop.calls a0 0 _ _ A1'.out).mono ?_); rintro e w' ⟨rfl, ⟨nd, rfl⟩⟩))
      go_ret
      exact ⟨rfl, by repeat (first | (with_reducible first | exact HB.out | apply below_alloc | apply pw_below_drewN | apply below_drew1) | exact HB.out)⟩
end Go.Proofs.Ytapncdhemhnphaa.QFix

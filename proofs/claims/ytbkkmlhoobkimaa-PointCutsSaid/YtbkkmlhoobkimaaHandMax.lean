/- What is proved: the contract of slices.Max at int64: of a slice that is not empty the greatest one; conditions as the theorem names them. -/
import Derived.Test.YtbkkmlhoobkimaaQPtx0
namespace Go.Proofs.Ytbkkmlhoobkimaa.QPt
open Go.RowKit Go.Proofs.YtbkkmlhoobkimaaW.PrintWords Go.Proofs.YtbkkmlhoobkimaaW.PrintLast Go.Proofs.YtbkkmlhoobkimaaW.PrintMore
attribute [local go_sem] max2_int min2_int max_two min_two max_three min_three max_four min_four
set_option linter.unusedVariables false
set_option linter.unusedSimpArgs false
/-- The greatest of what was seen and what comes. -/
def maxFrom (m : Int) : List Int → Int
  | [] => m
  | x :: l => maxFrom (if m < x then x else m) l
def slices_Max_int64_int64.f : List Int → Option Int
  | [] => none
  | x :: l => some (maxFrom x l)
theorem maxFrom_step {l : List Int} {i : Int} (h0 : 0 ≤ i) (h1 : i < (l.length : Int)) (m : Int) : maxFrom m (l.drop i.toNat) = maxFrom (if m < rd l i then rd l i else m) (l.drop (i + 1).toNat) := by
  have hl : i.toNat < l.length := by omega
  rw [List.drop_eq_getElem_cons hl, show (i + 1).toNat = i.toNat + 1 by omega]
  have e : rd l i = l[i.toNat] := by unfold rd; rw [List.getD_eq_getElem?_getD, List.getElem?_eq_getElem hl]; rfl
  rw [e]; rfl
set_option maxHeartbeats 2000000 in
theorem slices_Max_int64_int64.calls (A0 : Option Addr) (c0 : Nat) (l0 : List Int) (r : Int) (w : World) (hr0 : Kd.C (Kd.int .i64) w A0 l0.length l0) (hc0 : l0.length ≤ c0) (h : slices_Max_int64_int64.f l0 = some r) :
    Calls Try.prog 18 #[.slice A0 l0.length c0] w fun e w' => e = .returned (.int .i64 r) ∧ Drawn0 w w' := by
  have hpos : 0 < l0.length := by
    cases l0 with
    | nil => cases h
    | cons x l => simp
  have H := Aside0.mk (show maxFrom (rd l0 0) (l0.drop (1 : Int).toNat) = r by
    cases l0 with
    | nil => cases h
    | cons x l => exact Option.some.inj h)
  clear h
  have HR := Aside0.mk hr0
  have HL := Aside0.mk hr0.2.1
  have HP := Aside0.mk hpos
  have c1 : decide (l0.length < 1) = false := decide_eq_false (by omega)
  have c2 : decide ((l0.length : Int) < 1) = false := decide_eq_false (by omega)
  have p102 : (0 : Int) ≤ 0 := by omega
  have q102 : (0 : Int) < (l0.length : Int) := by omega
  obtain ⟨ad102, e102, hx102_0⟩ := Kd.at_int HR.out 0 p102 q102
  cases e102
  clear hr0
  have q103 : decide (0 < l0.length) = true := decide_eq_true hpos
  have hx0 : w.cell? (ad102.add 0) = some (.int .i64 (rd l0 0)) := hx102_0
  have hx1 : w.cell? ad102 = some (.int .i64 (rd l0 0)) := hx102_0
  clear hx102_0
  generalize rd l0 0 = m0 at H hx0 hx1
  go_enter Try.func18, Try.ntmps18
  go_wp2
  go_loopg [3, 4] l0.length (fun kq v3 v4 w' => ∃ (m i : Int), v3 = .int .i64 m ∧ v4 = .int .i64 i ∧ Aside0 (1 ≤ i ∧ i ≤ l0.length ∧ (l0.length : Int) - i < kq) ∧ Aside0 (maxFrom m (l0.drop i.toNat) = r) ∧ Aside0 (Drawn0 w w'))
  case atStart => exact ⟨m0, 1, rfl, rfl, ⟨by have := HP.out; omega⟩, H, ⟨by repeat (first | exact Drawn0.refl _ | apply Drawn0.step)⟩⟩
  case round =>
    clear H hx0 hx1
    obtain ⟨m, i, rfl, rfl, HI, H, HD⟩ := hrel
    obtain ⟨nd, hnd⟩ := HD.out.out
    subst hnd
    clear HD
    by_cases hlt : i < (l0.length : Int)
    · have p106 : 0 ≤ i := by have := HI.out; omega
      have q106 := hlt
      obtain ⟨ad106, e106, hx106_0⟩ := Kd.at_int HR.out i p106 q106
      cases e106
      have c4b0 : decide (i < (l0.length : Int)) = true := decide_eq_true hlt
      have HW := Aside0.mk (show wrap64 (i + 1) = i + 1 by have := HL.out; unfold wrap64; omega)
      have HS := Aside0.mk ((maxFrom_step p106 q106 m).symm.trans H.out)
      clear hlt H
      replace p106 := eq_true p106
      replace q106 := eq_true q106
      generalize rd l0 i = x at hx106_0 HS
      by_cases hmx : m < x
      · have c5b0 : decide (m < x) = true := decide_eq_true hmx
        rw [if_pos hmx] at HS
        go_wp2
        go_roundg (gk - 1)
        case measure => have := HI.out; have := of_decide_eq_true c4b0; omega
        case rel => exact ⟨x, i + 1, (by first | rfl | (simp; done) | (simp [hmx]; done)), (by first | rfl | (rw [HW.out]; done) | (simp [HW.out]; done)), ⟨by have := HI.out; have := of_decide_eq_true c4b0; omega⟩, HS, ⟨by repeat (first | exact Drawn0.refl _ | apply Drawn0.step)⟩⟩
      · have c5b0 : decide (m < x) = false := decide_eq_false hmx
        rw [if_neg hmx] at HS
        go_wp2
        go_roundg (gk - 1)
        case measure => have := HI.out; have := of_decide_eq_true c4b0; omega
        case rel => exact ⟨m, i + 1, (by first | rfl | (simp; done) | (simp [hmx]; done)), (by first | rfl | (rw [HW.out]; done) | (simp [HW.out]; done)), ⟨by have := HI.out; have := of_decide_eq_true c4b0; omega⟩, HS, ⟨by repeat (first | exact Drawn0.refl _ | apply Drawn0.step)⟩⟩
    · have c4b0 : decide (i < (l0.length : Int)) = false := decide_eq_false hlt
      have e : m = r := by
        have := H.out
        rw [List.drop_eq_nil_of_le (by omega)] at this; exact this
      subst e
      clear hlt H
      go_wp2
      go_ret
      exact ⟨rfl, by repeat (first | exact Drawn0.refl _ | apply Drawn0.step)⟩
end Go.Proofs.Ytbkkmlhoobkimaa.QPt

/- What is proved: the contracts of math.Trunc (at a number), cost.whole and the reference's part (chapter 3): a part is a whole number in its bounds, or none; conditions as each theorem names them. -/
import Derived.Test.YthppgakbgkknlaaWholeMath
import Derived.Test.YthppgakbgkknlaaQCox0
import Derived.Laws.Externs
import Derived.Laws.FloatArith
namespace Go.Proofs.Ythppgakbgkknlaa.QCo
open Go.RowKit Go.Proofs.YthppgakbgkknlaaW.PrintWords Go.Proofs.YthppgakbgkknlaaW.PrintLast Go.Proofs.YthppgakbgkknlaaW.PrintMore Go.Proofs.Ythppgakbgkknlaa.FloatMath
set_option linter.unusedVariables false
set_option linter.unusedSimpArgs false

set_option maxHeartbeats 1000000 in
theorem trunc_calls (x : Nat) (w : World) (hn : ∃ s m e, Ieee.double.read x = .number s m e) :
    Calls Try.prog 32 #[.float .f64 x] w fun e w' => e = .returned (.float .f64 (truncBits x)) ∧ w' = w := by
  obtain ⟨s, m, e0, hr⟩ := hn
  have hx := @run_callFunc_extern Try.prog 33 _ (Extern.MathFloor.toIntegral "math.archTrunc" .zero) Try.func33 (by kernel_rfl) (by kernel_rfl) (by kernel_rfl) (by kernel_rfl)
  have ht := run_trunc Try.prog w hr
  clear hr
  go_enter Try.func32, Try.ntmps32
  go_wp2
  go_ret
  exact ⟨rfl, rfl⟩
def cost_whole.f (x : Nat) : Option (Int × Bool) := some (FloatMath.part x, okPart x)
def taskmasterref3_part.f (x : Nat) : Option (Int × Bool) := some (FloatMath.part x, okPart x)
theorem neq_not (o : Option Ordering) (b : Bool) (h : (o == some .eq) = b) : (o != some .eq) = !b := by rw [← h]; rfl
set_option maxHeartbeats 2000000 in
theorem cost_whole.calls (a0 : Nat) (r1 : Int) (r2 : Bool) (w : World) (h : cost_whole.f a0 = some (r1, r2)) :
    Calls Try.prog 29 #[.float .f64 a0] w fun e w' => e = .returned (.tuple #[.int .i64 r1, .bool r2]) ∧ Drawn0 w w' := by
  unfold cost_whole.f at h
  simp only [Option.some.injEq, Prod.mk.injEq] at h
  obtain ⟨h1, h2⟩ := h
  by_cases hin : inRange a0 = true
  · obtain ⟨n, s, m, e0, hr, hn, hfi, htr, _, hp⟩ := looks hin
    have hin' := hin
    unfold inRange at hin'
    rw [Bool.and_eq_true] at hin'
    have c0 : (FloatKind.f64.format.order a0 0 == some .gt || FloatKind.f64.format.order a0 0 == some .eq) = true := hin'.1
    have c1 : (FloatKind.f64.format.order a0 4787326403894837248 == some .lt || FloatKind.f64.format.order a0 4787326403894837248 == some .eq) = true := hin'.2
    have HT := Aside0.mk (show ∃ s m e, Ieee.double.read a0 = .number s m e from ⟨s, m, e0, hr⟩)
    have hcv : ∀ W, (convert 28 2 (.float .f64 a0)).run Try.prog W = .ok (.int .i64 n) W := fun W => run_convert_float_int W 28 2 .f64 .i64 a0 n (by kernel_rfl) Try.underlying2 hfi
    by_cases hok : okPart a0 = true
    · rw [hok] at h2 htr hp
      rw [if_pos rfl] at hp
      have c2 : (FloatKind.f64.format.order (truncBits a0) a0 != some .eq) = false := neq_not _ _ htr
      have E1 := Aside0.mk (h1.symm.trans hp)
      have E2 := Aside0.mk h2.symm
      clear hin hin' hr hfi htr hp h1 h2 hn hok
      go_enter Try.func29, Try.ntmps29
      go_wp2_with (first | (go_at_call 32; refine (trunc_calls a0 _ HT.out).mono ?_; rintro e w' ⟨rfl, rfl⟩) | go_in)
      go_ret2
      exact ⟨by (rw [E1.out, E2.out]; try rfl), ⟨0, rfl⟩⟩
    · have hok' : okPart a0 = false := by simpa using hok
      rw [hok'] at h2 htr hp
      rw [if_neg (by simp)] at hp
      have c2 : (FloatKind.f64.format.order (truncBits a0) a0 != some .eq) = true := neq_not _ _ htr
      have E1 := Aside0.mk (h1.symm.trans hp)
      have E2 := Aside0.mk h2.symm
      clear hin hin' hr hfi htr hp h1 h2 hn hok hok'
      go_enter Try.func29, Try.ntmps29
      go_wp2_with (first | (go_at_call 32; refine (trunc_calls a0 _ HT.out).mono ?_; rintro e w' ⟨rfl, rfl⟩) | go_in)
      go_ret2
      exact ⟨by (rw [E1.out, E2.out]; try rfl), ⟨0, rfl⟩⟩
  · have hin0 : inRange a0 = false := by simpa using hin
    obtain ⟨o1, o2⟩ := off hin0
    have E1 := Aside0.mk (h1.symm.trans o2)
    have E2 := Aside0.mk (h2.symm.trans o1)
    clear o1 o2 h1 h2
    by_cases h0 : (FloatKind.f64.format.order a0 0 == some .gt || FloatKind.f64.format.order a0 0 == some .eq) = true
    · have c1 : (FloatKind.f64.format.order a0 4787326403894837248 == some .lt || FloatKind.f64.format.order a0 4787326403894837248 == some .eq) = false := by
        unfold inRange at hin0
        rw [Bool.and_eq_false_iff] at hin0
        rcases hin0 with q | q
        · exact absurd h0 (by rw [show (FloatKind.f64.format.order a0 0 == some .gt || FloatKind.f64.format.order a0 0 == some .eq) = false from q]; simp)
        · exact q
      clear hin hin0
      go_enter Try.func29, Try.ntmps29
      go_wp2
      go_ret2
      exact ⟨by (rw [E1.out, E2.out]; try rfl), ⟨0, rfl⟩⟩
    · have c0 : (FloatKind.f64.format.order a0 0 == some .gt || FloatKind.f64.format.order a0 0 == some .eq) = false := by simpa using h0
      clear hin hin0 h0
      go_enter Try.func29, Try.ntmps29
      go_wp2
      go_ret2
      exact ⟨by (rw [E1.out, E2.out]; try rfl), ⟨0, rfl⟩⟩
set_option maxHeartbeats 2000000 in
theorem taskmasterref3_part.calls (a0 : Nat) (r1 : Int) (r2 : Bool) (w : World) (h : taskmasterref3_part.f a0 = some (r1, r2)) :
    Calls Try.prog 27 #[.float .f64 a0] w fun e w' => e = .returned (.tuple #[.int .i64 r1, .bool r2]) ∧ Drawn0 w w' := by
  unfold taskmasterref3_part.f at h
  simp only [Option.some.injEq, Prod.mk.injEq] at h
  obtain ⟨h1, h2⟩ := h
  by_cases hin : inRange a0 = true
  · obtain ⟨n, s, m, e0, hr, hn, hfi, _, htr, hp⟩ := looks hin
    have hin' := hin
    unfold inRange at hin'
    rw [Bool.and_eq_true] at hin'
    have c0 : (FloatKind.f64.format.order a0 0 == some .gt || FloatKind.f64.format.order a0 0 == some .eq) = true := hin'.1
    have c1 : (FloatKind.f64.format.order a0 4787326403894837248 == some .lt || FloatKind.f64.format.order a0 4787326403894837248 == some .eq) = true := hin'.2
    have hcv : ∀ W, (convert 28 2 (.float .f64 a0)).run Try.prog W = .ok (.int .i64 n) W := fun W => run_convert_float_int W 28 2 .f64 .i64 a0 n (by kernel_rfl) Try.underlying2 hfi
    by_cases hok : okPart a0 = true
    · rw [hok] at h2 htr hp
      rw [if_pos rfl] at hp
      have c2 : (FloatKind.f64.format.order (floatOfInt .f64 (n : Int)) a0 != some .eq) = false := neq_not _ _ htr
      have E1 := Aside0.mk (h1.symm.trans hp)
      have E2 := Aside0.mk h2.symm
      clear hin hin' hr hfi htr hp h1 h2 hn hok
      go_enter Try.func27, Try.ntmps27
      go_wp2
      go_ret2
      exact ⟨by (rw [E1.out, E2.out]; try rfl), ⟨0, rfl⟩⟩
    · have hok' : okPart a0 = false := by simpa using hok
      rw [hok'] at h2 htr hp
      rw [if_neg (by simp)] at hp
      have c2 : (FloatKind.f64.format.order (floatOfInt .f64 (n : Int)) a0 != some .eq) = true := neq_not _ _ htr
      have E1 := Aside0.mk (h1.symm.trans hp)
      have E2 := Aside0.mk h2.symm
      clear hin hin' hr hfi htr hp h1 h2 hn hok hok'
      go_enter Try.func27, Try.ntmps27
      go_wp2
      go_ret2
      exact ⟨by (rw [E1.out, E2.out]; try rfl), ⟨0, rfl⟩⟩
  · have hin0 : inRange a0 = false := by simpa using hin
    obtain ⟨o1, o2⟩ := off hin0
    have E1 := Aside0.mk (h1.symm.trans o2)
    have E2 := Aside0.mk (h2.symm.trans o1)
    clear o1 o2 h1 h2
    by_cases h0 : (FloatKind.f64.format.order a0 0 == some .gt || FloatKind.f64.format.order a0 0 == some .eq) = true
    · have c1 : (FloatKind.f64.format.order a0 4787326403894837248 == some .lt || FloatKind.f64.format.order a0 4787326403894837248 == some .eq) = false := by
        unfold inRange at hin0
        rw [Bool.and_eq_false_iff] at hin0
        rcases hin0 with q | q
        · exact absurd h0 (by rw [show (FloatKind.f64.format.order a0 0 == some .gt || FloatKind.f64.format.order a0 0 == some .eq) = false from q]; simp)
        · exact q
      clear hin hin0
      go_enter Try.func27, Try.ntmps27
      go_wp2
      go_ret2
      exact ⟨by (rw [E1.out, E2.out]; try rfl), ⟨0, rfl⟩⟩
    · have c0 : (FloatKind.f64.format.order a0 0 == some .gt || FloatKind.f64.format.order a0 0 == some .eq) = false := by simpa using h0
      clear hin hin0 h0
      go_enter Try.func27, Try.ntmps27
      go_wp2
      go_ret2
      exact ⟨by (rw [E1.out, E2.out]; try rfl), ⟨0, rfl⟩⟩
end Go.Proofs.Ythppgakbgkknlaa.QCo

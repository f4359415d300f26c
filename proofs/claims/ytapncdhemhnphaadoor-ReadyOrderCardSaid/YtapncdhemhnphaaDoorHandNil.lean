/- What is proved: contracts of the five methods of a Ready, where the pointer is nil. -/
import Derived.Test.YtapncdhemhnphaaDoorQRox0
namespace Go.Proofs.YtapncdhemhnphaaDoor.QRo
open Go.RowKit Go.Proofs.YtapncdhemhnphaaDoorW.PrintWords Go.Proofs.YtapncdhemhnphaaDoorW.PrintLast Go.Proofs.YtapncdhemhnphaaDoorW.PrintMore
set_option linter.unusedVariables false
set_option linter.unusedSimpArgs false
def nil_First.f : Option (Int × Bool) := some (0, false)
def nil_Has.f : Option Bool := some false
def nil_Ahead.f : Option Bool := some false
def nil_Put.f : Option Bool := some false
def nil_Drop.f : Option Bool := some false
set_option maxHeartbeats 8000000 in
theorem nil_Has0 (i : Int) (w : World) :
    Calls Tryd.prog 16 #[.pointer none, .int .i64 i] w fun e w' => e = .returned (.bool false) ∧ Drawn0 w w' := by
  go_enter Tryd.func16, Tryd.ntmps16
  go_wp2
  go_ret
  exact ⟨by first | rfl | (simp; done) | (simp [*]; done), by repeat (first | exact Drawn0.refl _ | apply Drawn0.step)⟩
set_option maxHeartbeats 8000000 in
theorem nil_First.calls (r1 : Int) (r2 : Bool) (w : World) (h : nil_First.f = some (r1, r2)) :
    Calls Tryd.prog 18 #[.pointer none] w fun e w' => e = .returned (.tuple #[.int .i64 r1, .bool r2]) ∧ Drawn0 w w' := by
  simp only [nil_First.f, Option.some.injEq, Prod.mk.injEq] at h
  obtain ⟨rfl, rfl⟩ := h
  go_enter Tryd.func18, Tryd.ntmps18
  go_wp2
  first | go_ret2 | go_ret
  exact ⟨by first | rfl | (simp; done) | (simp [*]; done), by repeat (first | exact Drawn0.refl _ | apply Drawn0.step)⟩
theorem nil_Has.calls (r : Bool) (w : World) (h : nil_Has.f = some r) :
    Calls Tryd.prog 16 #[.pointer none, .int .i64 0] w fun e w' => e = .returned (.bool r) ∧ Drawn0 w w' := by
  obtain rfl := Option.some.inj h
  exact nil_Has0 0 w
set_option maxHeartbeats 8000000 in
theorem nil_Ahead.calls (r : Bool) (w : World) (h : nil_Ahead.f = some r) :
    Calls Tryd.prog 11 #[.pointer none, .int .i64 9] w fun e w' => e = .returned (.bool r) ∧ Drawn0 w w' := by
  obtain rfl := Option.some.inj h
  go_enter Tryd.func11, Tryd.ntmps11
  go_wp2_with (go_at_call 18; (refine (nil_First.calls 0 false _ rfl).mono ?_); rintro e w1 ⟨rfl, nd, rfl⟩)
  go_ret
  exact ⟨by first | rfl | (simp; done) | (simp [*]; done), by repeat (first | exact Drawn0.refl _ | exact ⟨_, rfl⟩ | apply Drawn0.step)⟩
set_option maxHeartbeats 8000000 in
theorem nil_Put.calls (r : Bool) (w : World) (h : nil_Put.f = some r) :
    Calls Tryd.prog 10 #[.pointer none, .int .i64 0] w fun e w' => e = .returned (.bool r) ∧ Drawn0 w w' := by
  obtain rfl := Option.some.inj h
  go_enter Tryd.func10, Tryd.ntmps10
  go_wp2
  go_ret
  exact ⟨by first | rfl | (simp; done) | (simp [*]; done), by repeat (first | exact Drawn0.refl _ | apply Drawn0.step)⟩
set_option maxHeartbeats 8000000 in
theorem nil_Drop.calls (r : Bool) (w : World) (h : nil_Drop.f = some r) :
    Calls Tryd.prog 14 #[.pointer none, .int .i64 0] w fun e w' => e = .returned (.bool r) ∧ Drawn0 w w' := by
  obtain rfl := Option.some.inj h
  go_enter Tryd.func14, Tryd.ntmps14
  go_wp2_with (go_at_call 16; (refine (nil_Has0 0 _).mono ?_); rintro e w1 ⟨rfl, nd, rfl⟩)
  go_ret
  exact ⟨by first | rfl | (simp; done) | (simp [*]; done), by repeat (first | exact Drawn0.refl _ | exact ⟨_, rfl⟩ | apply Drawn0.step)⟩
end Go.Proofs.YtapncdhemhnphaaDoor.QRo

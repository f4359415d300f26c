/- What is proved: what is read as data of this seat's structs is a value of the printed kinds; no conditions. -/
import Derived.Test.YtapncdhemhnphaaDoorOpen
import Derived.Test.YtapncdhemhnphaaDoorQRpx0
import Derived.KernelRfl
namespace Go.Proofs.YtapncdhemhnphaaDoor.QRp
open Go.RowKit Go.Proofs.YtapncdhemhnphaaDoorW.PrintWords Go.Proofs.YtapncdhemhnphaaDoorW.PrintLast Go.Proofs.YtapncdhemhnphaaDoor.Open
set_option linter.unusedVariables false
instance : Inhabited S34 := ⟨z34⟩
def wf34 (x : S34) : Prop := ((Lit.int .i64 x.f0).wf = true) ∧ ((Lit.int .i64 x.f1).wf = true)
theorem opens34 : Opens Tryd.prog k34 34 wf34 :=
  opens_struct Tryd.underlying34 (by kernel_rfl) (opensFrom_cons _ rfl rfl (by kernel_rfl) (opens_int Tryd.underlying3) (opensFrom_last _ rfl rfl (by kernel_rfl) (opens_int Tryd.underlying3))) (fun a => ⟨a.1, a.2⟩) (fun _ => rfl) (fun _ h => h)
end Go.Proofs.YtapncdhemhnphaaDoor.QRp

/- What is proved: what is read as data of this seat's structs is a value of the printed kinds; no conditions. -/
import Derived.Test.YtapncdhemhnphaaDoorOpen
import Derived.Test.YtapncdhemhnphaaDoorQCax0
import Derived.KernelRfl
namespace Go.Proofs.YtapncdhemhnphaaDoor.QCa
open Go.RowKit Go.Proofs.YtapncdhemhnphaaDoorW.PrintWords Go.Proofs.YtapncdhemhnphaaDoorW.PrintLast Go.Proofs.YtapncdhemhnphaaDoor.Open
set_option linter.unusedVariables false
instance : Inhabited S48 := ⟨z48⟩
def wf48 (x : S48) : Prop := ((Lit.int .i64 x.f0).wf = true) ∧ ((Lit.int .u64 x.f1).wf = true)
theorem opens48 : Opens Tryd.prog k48 48 wf48 :=
  opens_struct Tryd.underlying48 (by kernel_rfl) (opensFrom_cons _ rfl rfl (by kernel_rfl) (opens_int Tryd.underlying3) (opensFrom_last _ rfl rfl (by kernel_rfl) (opens_int Tryd.underlying40))) (fun a => ⟨a.1, a.2⟩) (fun _ => rfl) (fun _ h => h)
end Go.Proofs.YtapncdhemhnphaaDoor.QCa

/- What is proved: what is read as data of this seat's structs is a value of the printed kinds; no conditions. -/
import Derived.Test.YtapncdhemhnphaaOpen
import Derived.Test.YtapncdhemhnphaaQFixx0
import Derived.KernelRfl
namespace Go.Proofs.Ytapncdhemhnphaa.QFix
open Go.RowKit Go.Proofs.YtapncdhemhnphaaW.PrintWords Go.Proofs.YtapncdhemhnphaaW.PrintLast Go.Proofs.Ytapncdhemhnphaa.Open
set_option linter.unusedVariables false
instance : Inhabited S31 := ⟨z31⟩
def wf31 (x : S31) : Prop := ((Lit.int .i64 x.f0).wf = true) ∧ ((Lit.int .i64 x.f1).wf = true)
theorem opens31 : Opens Try.prog k31 31 wf31 :=
  opens_struct Try.underlying31 (by kernel_rfl) (opensFrom_cons _ rfl rfl (by kernel_rfl) (opens_int Try.underlying2) (opensFrom_last _ rfl rfl (by kernel_rfl) (opens_int Try.underlying2))) (fun a => ⟨a.1, a.2⟩) (fun _ => rfl) (fun _ h => h)
end Go.Proofs.Ytapncdhemhnphaa.QFix

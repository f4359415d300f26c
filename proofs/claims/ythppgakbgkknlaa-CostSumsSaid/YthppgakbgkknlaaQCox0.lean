/- What is proved: contracts of Go functions, each as a plain Lean function; written by a program of this session after the kit's print; conditions as each theorem names them. -/
import Derived.Test.YthppgakbgkknlaaProg
import Derived.Below
import Derived.Deep.Draws
import Derived.Deep.AppendLies
import Derived.Maps.AppendAt
import Derived.OwnWalk
import Derived.Laws.BytesArg
import Derived.Laws.MakeOwn
import Derived.Laws.OwnMore
import Derived.Deep.OwnRows
import Derived.Tactics
import Derived.Lib.ConvBytes
import Derived.Laws.Slices
import Derived.WalkKit
import Derived.KernelRfl
import Derived.RowKit3
import Derived.Deep.LoopGhost
import Derived.Deep.QuietTactic
import Derived.BigQuiet
import Derived.WideLaws
import Derived.Deep.DeepCutAuto
import Derived.Deep.CutBlock
import Derived.Deep.RegionHeld3
import Derived.Laws.Rows
import Derived.Lib.AppendStr
import Derived.ArgAppend
import Derived.Laws.IdiomCopy
import Derived.OrdersHeld
import Derived.Laws.BitsLemmas
import Derived.RowKit
import Derived.Test.YthppgakbgkknlaaWWords
import Derived.Test.YthppgakbgkknlaaWLast
import Derived.Test.YthppgakbgkknlaaWTab
import Derived.Test.YthppgakbgkknlaaWFour
import Derived.Test.YthppgakbgkknlaaWQPut
import Derived.Test.YthppgakbgkknlaaWApart
import Derived.Test.YthppgakbgkknlaaWArr
import Derived.Test.YthppgakbgkknlaaWZeros
import Derived.Test.YthppgakbgkknlaaWFoot
import Derived.Test.YthppgakbgkknlaaWKept
import Derived.Test.YthppgakbgkknlaaWShare
import Derived.Test.YthppgakbgkknlaaWN
import Derived.Test.YthppgakbgkknlaaWFootNe
import Derived.Test.YthppgakbgkknlaaWAt
import Derived.Test.YthppgakbgkknlaaWEqStruct
import Derived.Test.YthppgakbgkknlaaWRepsOne
import Derived.Test.YthppgakbgkknlaaWInv
import Derived.Test.YthppgakbgkknlaaWInvWords
import Derived.Test.YthppgakbgkknlaaWGuard
import Derived.Test.YthppgakbgkknlaaWNEv
import Derived.Test.YthppgakbgkknlaaWMore
import Derived.Test.YthppgakbgkknlaaWCx
namespace Go.Proofs.Ythppgakbgkknlaa.QCo
open Go.RowKit Go.Proofs.YthppgakbgkknlaaW.PrintWords Go.Proofs.YthppgakbgkknlaaW.PrintLast Go.Proofs.YthppgakbgkknlaaW.PrintMore
attribute [local go_sem] max2_int min2_int max_two min_two max_three min_three max_four min_four   -- for this text's walks alone
set_option linter.unusedVariables false
set_option linter.unusedSimpArgs false



def errW : Option Int → Value
  | none => .nilIface
  | some c => .iface 0 (.int .i64 c)
theorem errW_none : errW none = .nilIface := rfl
theorem errW_some (c : Int) : errW (some c) = .iface 0 (.int .i64 c) := rfl

theorem info22 : (Try.prog.info? 22).map (fun i => (i.zero, i.size, i.bytes)) = some (some (.complex .f64 0 0), 1, 16) := by kernel_rfl
-- the values' own types

end Go.Proofs.Ythppgakbgkknlaa.QCo

/- What is proved: what is read as data of this seat's structs is a value of the printed kinds; no conditions. -/
import Derived.Test.YtapncdhemhnphaaDoorOpen
import Derived.Test.YtapncdhemhnphaaDoorQRox0
import Derived.KernelRfl
namespace Go.Proofs.YtapncdhemhnphaaDoor.QRo
open Go.RowKit Go.Proofs.YtapncdhemhnphaaDoorW.PrintWords Go.Proofs.YtapncdhemhnphaaDoorW.PrintLast Go.Proofs.YtapncdhemhnphaaDoor.Open
set_option linter.unusedVariables false
end Go.Proofs.YtapncdhemhnphaaDoor.QRo

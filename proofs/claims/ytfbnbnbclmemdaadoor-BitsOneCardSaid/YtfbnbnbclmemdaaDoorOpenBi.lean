/- What is proved: what is read as data of this seat's structs is a value of the printed kinds; no conditions. -/
import Derived.Test.YtfbnbnbclmemdaaDoorOpen
import Derived.Test.YtfbnbnbclmemdaaDoorQBix0
import Derived.KernelRfl
namespace Go.Proofs.YtfbnbnbclmemdaaDoor.QBi
open Go.RowKit Go.Proofs.YtfbnbnbclmemdaaDoorW.PrintWords Go.Proofs.YtfbnbnbclmemdaaDoorW.PrintLast Go.Proofs.YtfbnbnbclmemdaaDoor.Open
set_option linter.unusedVariables false
end Go.Proofs.YtfbnbnbclmemdaaDoor.QBi

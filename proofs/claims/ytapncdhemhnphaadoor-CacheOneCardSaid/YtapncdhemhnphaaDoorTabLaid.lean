/- What is proved: what the row's condition says of the table of math/bits: the table stands as the contracts ask for it; the door's own heap meets the condition; conditions as each theorem names them. -/
import Derived.Test.YtapncdhemhnphaaDoorRows
import Derived.Test.YtapncdhemhnphaaDoorHandTz
import Derived.LaidMore
import Derived.MakeChecks
import Derived.Lib.LaidTab
import Derived.ProofKit
namespace Go.Proofs.YtapncdhemhnphaaDoor.QCa
open Go.RowKit
set_option linter.unusedVariables false

abbrev laidL : List (String × DataW Unit) := [("math/bits.deBruijn64tab", Rows.laid_math_bits_deBruijn64tab)]
def tabZ : List Int := List.map Int.ofNat Lib.deBruijn64tab
theorem laid_eq : (laidL : List (String × DataW Unit)) = [("math/bits.deBruijn64tab", Lib.tabData .u8 tabZ)] := by rfl
theorem gTab : Tryd.prog.globalNamed "math/bits.deBruijn64tab" = some 0 := by kernel_rfl
theorem tTab : (Tryd.prog.globals[0]?).map (·.type) = some 66 := by kernel_rfl
theorem tab_of_laid {W : World} (h : laidMetH Tryd.prog laidL W) : TabW W := by
  rw [MakeChecks.laidMetH_plain _ _ _ (by kernel_rfl), laid_eq] at h
  have ht : Lib.TabIs Tryd.prog W "math/bits.deBruijn64tab" .u8 tabZ := Lib.tabIs_of_head (e := 5) (n := 64) gTab tTab (by kernel_rfl) (by kernel_rfl) (by kernel_rfl) (by kernel_rfl) h
  have all : TabAt 0 Lib.deBruijn64tab W := fun j hj => by
    have hl : tabZ.length = 64 := by decide
    have hj' : j < 64 := hj
    rw [ht.cell gTab j (by omega)]
    have e : tabZ.getD j 0 = ((Lib.deBruijn64tab.getD j 0 : Nat) : Int) := (show ∀ j, j < 64 → tabZ.getD j 0 = ((Lib.deBruijn64tab.getD j 0 : Nat) : Int) by decide) j hj'
    rw [e]
  exact ⟨World.block_lt_of_cell? W _ (all 0 (by decide)), all⟩
theorem door_met (os : Os) (args : Array Value) : laidMetH Tryd.prog laidL ((World.doorLaid Tryd.prog 14 os).forCall (fun _ _ => 0) ⟨#[], args, []⟩).memory :=
  laidMetH_of_parts3 (fuel := 8) (laidMet_of_run' 8 (by kernel_rfl) (by kernel_rfl)) (by kernel_rfl) (by kernel_rfl)
end Go.Proofs.YtapncdhemhnphaaDoor.QCa

/- What is proved: complex numbers as elements of slices: their kind, how they are read; conditions as each theorem names them. -/
import Derived.Test.YthppgakbgkknlaaWWords
import Derived.Test.YthppgakbgkknlaaWFoot
import Derived.Test.YthppgakbgkknlaaWMore
import Derived.Laws.Cover2
import Derived.Laws.Cover3
import Derived.Laws.FloatArith
namespace Go.Proofs.YthppgakbgkknlaaW.PrintWords
open Go.RowKit
set_option linter.unusedVariables false
namespace Kd
/-- A complex number's value. -/
abbrev cxV (x : Nat × Nat) : Value := .complex .f64 x.1 x.2
def cx : Kd (Nat × Nat) := scalar cxV (fun _ => rfl)
theorem heap_cx : Heap Kd.cx := ⟨fun _ h => h⟩
theorem at_cx {w : World} {A : Option Addr} {n : Nat} {xs : List (Nat × Nat)} (h : Kd.cx.C w A n xs) (i : Int) (h0 : 0 ≤ i) (h1 : i < n) : ∃ ad, A = some ad ∧ w.cell? (ad.add i.toNat) = some (.complex .f64 (rdOf ((0, 0) : Nat × Nat) xs i).1 (rdOf ((0, 0) : Nat × Nat) xs i).2) :=
  ReadsOf.at_ (reads_of_C (enc := cxV) (d := ((0, 0) : Nat × Nat)) (h1 := fun _ => rfl) h) i h0 h1
end Kd
end Go.Proofs.YthppgakbgkknlaaW.PrintWords

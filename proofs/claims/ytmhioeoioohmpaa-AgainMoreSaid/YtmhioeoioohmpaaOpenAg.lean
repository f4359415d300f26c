/- What is proved: what is read as data of this seat's structs is a value of the printed kinds; no conditions. -/
import Derived.Test.YtmhioeoioohmpaaOpen
import Derived.Test.YtmhioeoioohmpaaQAgx0
import Derived.KernelRfl
namespace Go.Proofs.Ytmhioeoioohmpaa.QAg
open Go.RowKit Go.Proofs.YtmhioeoioohmpaaW.PrintWords Go.Proofs.YtmhioeoioohmpaaW.PrintLast Go.Proofs.Ytmhioeoioohmpaa.Open
set_option linter.unusedVariables false
instance : Inhabited S31 := ⟨z31⟩
def wf31 (x : S31) : Prop := ((x.f0).size ≤ maxLen) ∧ ((Lit.int .i64 x.f1).wf = true) ∧ ((Lit.int .i64 x.f2).wf = true) ∧ ((Lit.int .i64 x.f3).wf = true) ∧ ((Lit.int .i64 x.f4).wf = true) ∧ ((Lit.int .i64 x.f5).wf = true) ∧ (∀ y ∈ x.f6, (Lit.int .i64 y).wf = true) ∧ ((Lit.int .u64 x.f7).wf = true) ∧ ((Lit.int .u64 x.f8).wf = true)
theorem opens31 : Opens Try.prog k31 31 wf31 :=
  opens_struct Try.underlying31 (by kernel_rfl) (opensFrom_cons _ rfl rfl (by kernel_rfl) (opens_string Try.underlying9) (opensFrom_cons _ rfl rfl (by kernel_rfl) (opens_int Try.underlying2) (opensFrom_cons _ rfl rfl (by kernel_rfl) (opens_int Try.underlying2) (opensFrom_cons _ rfl rfl (by kernel_rfl) (opens_int Try.underlying3) (opensFrom_cons _ rfl rfl (by kernel_rfl) (opens_int Try.underlying2) (opensFrom_cons _ rfl rfl (by kernel_rfl) (opens_int Try.underlying3) (opensFrom_cons _ rfl rfl (by kernel_rfl) (opens_slice Try.underlying28 (by kernel_rfl) (opens_int Try.underlying2)) (opensFrom_cons _ rfl rfl (by kernel_rfl) (opens_int Try.underlying29) (opensFrom_last _ rfl rfl (by kernel_rfl) (opens_int Try.underlying29)))))))))) (fun a => ⟨a.1, a.2.1, a.2.2.1, a.2.2.2.1, a.2.2.2.2.1, a.2.2.2.2.2.1, a.2.2.2.2.2.2.1, a.2.2.2.2.2.2.2.1, a.2.2.2.2.2.2.2.2⟩) (fun _ => rfl) (fun _ h => h)
structure S24 where
  f0 : Int
  f1 : (List S31)
def z24 : S24 := ⟨0, []⟩
def k24 : Kd S24 := Kd.iso (Kd.pair (Kd.int .i64) (Kd.slice 31 k31)) (fun x : S24 => (x.f0, x.f1))
theorem k24_open {w : World} {x : S24} {cs : List Value} (h : k24.K w x cs) : ∃ A1 c1, cs = [.int .i64 x.f0, .slice A1 x.f1.length c1] ∧ x.f1.length ≤ c1 ∧ Kd.C k31 w A1 x.f1.length x.f1 := by
  obtain ⟨_, _, rfl, rfl, ⟨A1, c1, rfl, l1, g1⟩⟩ := h
  exact ⟨A1, c1, rfl, l1, g1⟩
instance : Inhabited S24 := ⟨z24⟩
def wf24 (x : S24) : Prop := ((Lit.int .i64 x.f0).wf = true) ∧ (∀ y ∈ x.f1, wf31 y)
theorem opens24 : Opens Try.prog k24 24 wf24 :=
  opens_struct Try.underlying24 (by kernel_rfl) (opensFrom_cons _ rfl rfl (by kernel_rfl) (opens_int Try.underlying2) (opensFrom_last _ rfl rfl (by kernel_rfl) (opens_slice Try.underlying22 (by kernel_rfl) opens31))) (fun a => ⟨a.1, a.2⟩) (fun _ => rfl) (fun _ h => h)
end Go.Proofs.Ytmhioeoioohmpaa.QAg

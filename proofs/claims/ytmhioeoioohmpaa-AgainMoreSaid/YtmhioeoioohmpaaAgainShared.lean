/- What is proved: what known of chapter 8 and the reference's Put (chapter 5) answer; conditions as each theorem names them. -/
import Derived.Test.YtmhioeoioohmpaaAgainPure
import Derived.Test.YtmhioeoioohmpaaQAgxf13
import Derived.Test.YtmhioeoioohmpaaQAgxf14
namespace Go.Proofs.Ytmhioeoioohmpaa.Pure
open Go.RowKit Go.Proofs.Ytmhioeoioohmpaa.QAg Go.Proofs.YtmhioeoioohmpaaW.PrintWords Go.Proofs.YtmhioeoioohmpaaW.PrintLast Go.Proofs.YtmhioeoioohmpaaW.PrintMore Go.Proofs.Ytmhioeoioohmpaa.RefSet Go.Proofs.Ytmhioeoioohmpaa.BitsPure Go.Proofs.Ytmhioeoioohmpaa.BitsMath Go.Proofs.Ytmhioeoioohmpaa.AgainPure
set_option linter.unusedVariables false

theorem known8 : Ev (fun k => taskmasterlaw8_known.f k) true := Ev.of (fun k => taskmasterlaw8_known.mono k) (k := 20) (by decide +kernel)
/-! ### A set whose tasks are new memory is the set -/
theorem put_loop (r : Int) (l : List S31) (hl : l.length ≤ 8) (hr : ∀ y ∈ l, y.f6.length ≤ 8) (d : Nat) : ∀ (i : Nat), i + d = l.length → Ev (fun k => taskmasterref5_Put.l0 k (i : Int) r l r (l.take i)) (r, l) := by
  induction d with
  | zero =>
    intro i hi
    refine Ev.step (fun k => by rw [taskmasterref5_Put.l0]) (evn (by omega) ?_)
    rw [List.take_of_length_le (by omega)]; exact Ev.now _
  | succ d ih =>
    intro i hi
    have hlt : i < l.length := by omega
    have hx := hr _ (rd_in (i := (i : Int)) (by omega) (by omega))
    have hn : ([] : List Int).length = 0 := rfl
    have ht : (l.take i).length ≤ 8 := by rw [List.length_take]; omega
    have e : l.take i ++ [rd_T31 l (i : Int)] = l.take (i + 1) := by
      rw [List.take_succ_eq_append_getElem hlt]
      unfold rd_T31
      rw [Int.toNat_natCast, List.getD_eq_getElem?_getD, List.getElem?_eq_getElem hlt]; rfl
    have := ih (i + 1) (by omega)
    rw [← e] at this
    exact Ev.step (fun k => by rw [taskmasterref5_Put.l0, if_pos (by omega), if_pos (by omega), Option.bind_some, if_pos (by omega), if_pos (by omega), w64 (by omega) (by omega), List.nil_append]; rfl) this
theorem put_ev (r : Int) (l : List S31) (hl : l.length ≤ 8) (hr : ∀ y ∈ l, y.f6.length ≤ 8) : Ev (fun k => taskmasterref5_Put.f k r l) (r, l) := by
  unfold taskmasterref5_Put.f
  exact put_loop r l hl hr l.length 0 (by omega)
theorem regs_of {r : Int} {l : List S31} (h : SetOK r l) : ∀ y ∈ l, y.f6.length ≤ 8 := by
  intro y hy
  obtain ⟨j, hj, rfl⟩ := List.mem_iff_getElem.1 hy
  have := (h.2.2.2.2 (j : Int) (by omega) (by omega)).2.1
  unfold rd_T31 at this
  rw [Int.toNat_natCast, List.getD_eq_getElem?_getD, List.getElem?_eq_getElem hj] at this
  exact this
theorem ticks_lin {n : Int} (h0 : 0 ≤ n) (h1 : n ≤ 100) (x : Nat) : ticksV n x = n * ticksV 1 x := by
  rw [(ticksV_in h0 (by omega) x).1, (ticksV_in (r := 1) (by omega) (by omega) x).1, Int.one_mul]
end Go.Proofs.Ytmhioeoioohmpaa.Pure

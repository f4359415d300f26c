/- What is proved: the pure statements of AgainBound and AgainReload (chapter 8) at any set: see each theorem; no conditions. -/
import Derived.Test.YtmhioeoioohmpaaAgainPure
import Derived.Test.YtmhioeoioohmpaaQAgxf3
import Derived.Test.YtmhioeoioohmpaaQAgxf13
import Derived.Test.YtmhioeoioohmpaaQAgxf5
import Derived.Test.YtmhioeoioohmpaaQAgxf14
namespace Go.Proofs.Ytmhioeoioohmpaa.Pure
open Go.RowKit Go.Proofs.Ytmhioeoioohmpaa.QAg Go.Proofs.YtmhioeoioohmpaaW.PrintWords Go.Proofs.YtmhioeoioohmpaaW.PrintLast Go.Proofs.YtmhioeoioohmpaaW.PrintMore Go.Proofs.Ytmhioeoioohmpaa.RefSet Go.Proofs.Ytmhioeoioohmpaa.BitsPure Go.Proofs.Ytmhioeoioohmpaa.BitsMath Go.Proofs.Ytmhioeoioohmpaa.AgainPure
set_option linter.unusedVariables false

theorem known8 : Ev (fun k => taskmasterlaw8_known.f k) true := Ev.of (fun k => taskmasterlaw8_known.mono k) (k := 20) (by decide +kernel)
theorem AgainBound (a0 : S24) (a1 : Int) (w0 : wf24 a0) (w1 : (Lit.int .i64 a1).wf = true) : ∃ k, taskmasterlaw8_AgainBound.f k a0.f0 a0.f1 a1 = some true := by
  refine Ev.rounds ?_
  have hS := sets_of w0.2
  obtain ⟨b, hb, hok⟩ := all_ends a0.f0 a0.f1 (sizes_of w0.2)
  generalize a0.f0 = r at *
  generalize a0.f1 = l at *
  have no : Ev (fun k => taskmasterlaw8_AgainBound.j0 k a1 true r l) true := Ev.step (fun k => by rw [taskmasterlaw8_AgainBound.j0, if_pos rfl]) (Ev.now true)
  unfold taskmasterlaw8_AgainBound.f
  by_cases c0 : (l.length : Int) > 10
  · exact evp c0 no
  refine evn c0 (Ev.bind hb ?_)
  by_cases c1 : b = true
  · refine evp c1 ?_
    obtain ⟨r0, r1, l1, l8, _⟩ := hok c1
    by_cases c2 : a1 < 0
    · exact evp c2 no
    refine evn c2 ?_
    by_cases c3 : a1 ≥ (l.length : Int)
    · rw [decide_eq_true c3]; exact no
    rw [decide_eq_false c3]
    have hx := (hS _ (rd_in (i := a1) (by omega) (by omega))).1
    have hm := madeV_in r0 r1 l a1
    have hc : Ev (fun k => taskmasterref2_Count.f k (rd_T31 l a1).f7) ((pop 64 (rd_T31 l a1).f7.toNat : Nat) : Int) := ⟨65, fun k hk => rcount_eq _ hx.1 hx.2 k (by omega)⟩
    have hle : madeV r l a1 ≤ ticksV r (rd_T31 l a1).f7.toNat := by
      unfold madeV
      rw [if_pos ⟨by omega, by omega⟩]
      exact ticks_mono r0 r1 (and_sub _ _)
    have hz : madeV r l ((l.length : Int) - 1) = 0 := by
      unfold madeV
      rw [if_pos ⟨by omega, by omega⟩, List.drop_eq_nil_of_le (by omega)]
      show ticksV r (_ &&& 0) = 0
      rw [Nat.and_zero, (ticksV_in r0 r1 0).1]
      have : pop 64 0 = 0 := by decide
      rw [this]; simp
    refine Ev.step (fun k => by rw [taskmasterlaw8_AgainBound.j0, if_neg (by simp)]) ?_
    refine Ev.bind (made_ev hS (by omega) a1) (evp hm.1 (evp (by omega) (evp (by omega) (Ev.bind hc ?_))))
    refine evp hle ?_
    rw [w64 (n := (l.length : Int) - 1) (by omega) (by omega)]
    refine Ev.bind (made_ev hS (by omega) _) (evp hz ?_)
    exact Ev.bind known8 (Ev.now true)
  · exact evn c1 no

/-! ### A set whose tasks are new memory is the set -/
theorem put_loop (r : Int) (l : List S31) (hl : l.length ≤ 8) (hr : ∀ y ∈ l, y.f6.length ≤ 8) (d : Nat) : ∀ (i : Nat), i + d = l.length → Ev (fun k => taskmasterref5_Put.l0 k (i : Int) r l r (l.take i)) (r, l) := by
  induction d with
  | zero =>
    intro i hi
    refine Ev.step (fun k => by rw [taskmasterref5_Put.l0]) (evn (by omega) ?_)
    rw [List.take_of_length_le (by omega)]; exact Ev.now _
  | succ d ih =>
    intro i hi
    have hlt : i < l.length := by omega
    have hx := hr _ (rd_in (i := (i : Int)) (by omega) (by omega))
    have hn : ([] : List Int).length = 0 := rfl
    have ht : (l.take i).length ≤ 8 := by rw [List.length_take]; omega
    have e : l.take i ++ [rd_T31 l (i : Int)] = l.take (i + 1) := by
      rw [List.take_succ_eq_append_getElem hlt]
      unfold rd_T31
      rw [Int.toNat_natCast, List.getD_eq_getElem?_getD, List.getElem?_eq_getElem hlt]; rfl
    have := ih (i + 1) (by omega)
    rw [← e] at this
    exact Ev.step (fun k => by rw [taskmasterref5_Put.l0, if_pos (by omega), if_pos (by omega), Option.bind_some, if_pos (by omega), if_pos (by omega), w64 (by omega) (by omega), List.nil_append]; rfl) this
theorem put_ev (r : Int) (l : List S31) (hl : l.length ≤ 8) (hr : ∀ y ∈ l, y.f6.length ≤ 8) : Ev (fun k => taskmasterref5_Put.f k r l) (r, l) := by
  unfold taskmasterref5_Put.f
  exact put_loop r l hl hr l.length 0 (by omega)
theorem regs_of {r : Int} {l : List S31} (h : SetOK r l) : ∀ y ∈ l, y.f6.length ≤ 8 := by
  intro y hy
  obtain ⟨j, hj, rfl⟩ := List.mem_iff_getElem.1 hy
  have := (h.2.2.2.2 (j : Int) (by omega) (by omega)).2.1
  unfold rd_T31 at this
  rw [Int.toNat_natCast, List.getD_eq_getElem?_getD, List.getElem?_eq_getElem hj] at this
  exact this
theorem ticks_lin {n : Int} (h0 : 0 ≤ n) (h1 : n ≤ 100) (x : Nat) : ticksV n x = n * ticksV 1 x := by
  rw [(ticksV_in h0 (by omega) x).1, (ticksV_in (r := 1) (by omega) (by omega) x).1, Int.one_mul]
theorem AgainReload (a0 : S24) (a1 : Int) (a2 : Int) (w0 : wf24 a0) (w1 : (Lit.int .i64 a1).wf = true) (w2 : (Lit.int .i64 a2).wf = true) : ∃ k, taskmasterlaw8_AgainReload.f k a0.f0 a0.f1 a1 a2 = some true := by
  refine Ev.rounds ?_
  have hS := sets_of w0.2
  obtain ⟨b, hb, hok⟩ := all_ends a0.f0 a0.f1 (sizes_of w0.2)
  generalize a0.f0 = r at *
  generalize a0.f1 = l at *
  have no : Ev (fun k => taskmasterlaw8_AgainReload.j0 k a1 a2 true r l) true := Ev.step (fun k => by rw [taskmasterlaw8_AgainReload.j0, if_pos rfl]) (Ev.now true)
  unfold taskmasterlaw8_AgainReload.f
  by_cases c0 : (l.length : Int) > 10
  · exact evp c0 no
  refine evn c0 (Ev.bind hb ?_)
  by_cases c1 : b = true
  · refine evp c1 ?_
    have hset := hok c1
    have hset2 := hset
    obtain ⟨r0, r1, l1, l8, _⟩ := hset2
    by_cases c2 : a1 < 0
    · exact evp c2 no
    refine evn c2 ?_
    by_cases c3 : a1 > 100
    · rw [decide_eq_true c3]; exact no
    rw [decide_eq_false c3]
    have hp := put_ev r l l8 (regs_of hset)
    have o1 := ownV_in (r := 1) (by omega) (by omega) l a2
    have m1 := madeV_in (r := 1) (by omega) (by omega) l a2
    have eo : ownV a1 l a2 = a1 * ownV 1 l a2 := by
      unfold ownV; split
      · exact ticks_lin (by omega) (by omega) _
      · simp
    have em : madeV a1 l a2 = a1 * madeV 1 l a2 := by
      unfold madeV; split
      · exact ticks_lin (by omega) (by omega) _
      · simp
    have bo : 0 ≤ a1 * ownV 1 l a2 ∧ a1 * ownV 1 l a2 ≤ 640000 := by rw [← eo]; exact ownV_in (by omega) (by omega) l a2
    have bm : 0 ≤ a1 * madeV 1 l a2 ∧ a1 * madeV 1 l a2 ≤ 640000 := by rw [← em]; exact madeV_in (by omega) (by omega) l a2
    refine Ev.step (fun k => by rw [taskmasterlaw8_AgainReload.j0, if_neg (by simp)]) ?_
    refine Ev.bind hp (Ev.bind hp (evb (own_eq hS a2) (evb (own_eq hS a2) (evp ?_ (Ev.bind (made_ev hS (by omega) a2) (Ev.bind (made_ev hS (by omega) a2) (evp ?_ (Ev.bind known8 (Ev.now true)))))))))
    · rw [w64 (by omega) (by omega)]; exact eo
    · rw [w64 (by omega) (by omega)]; exact em
  · exact evn c1 no
end Go.Proofs.Ytmhioeoioohmpaa.Pure

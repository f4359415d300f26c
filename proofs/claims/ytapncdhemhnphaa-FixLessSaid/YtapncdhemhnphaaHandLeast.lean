/- What is proved: the contract of fix.Least: at a base and loads that may be it answers 'leastR', else a refusal; conditions as the theorem names them. -/
import Derived.Test.YtapncdhemhnphaaFixSum
import Derived.ScopeJumps
import Derived.WalkMore
namespace Go.Proofs.Ytapncdhemhnphaa.QFix
open Go.RowKit Go.Proofs.YtapncdhemhnphaaW.PrintWords Go.Proofs.YtapncdhemhnphaaW.PrintLast Go.Proofs.YtapncdhemhnphaaW.PrintMore Go.Proofs.Ytapncdhemhnphaa.FixPure Go.Proofs.Ytapncdhemhnphaa.FixMath
set_option linter.unusedVariables false
set_option linter.unusedSimpArgs false
def fix_Least.f (a0 : Int) (l1 : List (S31)) : Option (Int × Bool) := some (leastV a0 l1)

set_option maxHeartbeats 2000000 in
theorem least_no (a0 : Int) (A1 : Option Addr) (c1 : Nat) (l1 : List (S31)) (w : World) (hr1 : Kd.C k31 w A1 l1.length l1) (hc1 : l1.length ≤ c1) (h : fix_is.f a0 l1 = some false) :
    Calls Try.prog 8 #[.int .i64 a0, .slice A1 l1.length c1] w fun e w' => e = .returned (.tuple #[.int .i64 0, .bool false]) ∧ Below w.heap.size w w' := by
  have HR := Aside0.mk hr1
  have HC := Aside0.mk hc1
  have HI := Aside0.mk h
  clear hr1 hc1 h
  have HB := Aside0.mk (Below.refl w.heap.size w)
  go_enter Try.func8, Try.ntmps8
  go_wp2
  go_step3
  go_wp2_with (first | (go_at_call 13; (with_reducible refine (fix_is.calls a0 A1 c1 l1 false _ (Kd.C_below HR.out (by repeat (first | (with_reducible first | exact HB.out | apply below_alloc | apply pw_below_drewN | apply below_drew1) | exact HB.out))) HC.out HI.out).mono ?_); rintro e w' ⟨rfl, hb⟩; have HB2 := Aside0.mk (HB.out.trans (hb.mono HB.out.size)); clear hb; clear HB; have HB := HB2; clear HB2))
  (try rw [Exit.noGoto_ret])
  go_ret2
  exact ⟨rfl, HB.out⟩

set_option maxHeartbeats 4000000 in
set_option maxRecDepth 100000 in
theorem least_yes (a0 : Int) (A1 : Option Addr) (c1 : Nat) (l1 : List (S31)) (w : World) (hr1 : Kd.C k31 w A1 l1.length l1) (hc1 : l1.length ≤ c1) (h : fix_is.f a0 l1 = some true) (hsum : ∀ v, 0 ≤ v → v ≤ 1000000 → fix_sum.f (l1.length + 1) a0 l1 v = some (tot a0 (prs l1) v)) (r : Int × Bool) (hg : leastGo (tot a0 (prs l1)) 1000001 1 = r) :
    Calls Try.prog 8 #[.int .i64 a0, .slice A1 l1.length c1] w fun e w' => e = .returned (.tuple #[.int .i64 r.1, .bool r.2]) ∧ Below w.heap.size w w' := by
  have HR := Aside0.mk hr1
  have HC := Aside0.mk hc1
  have HI := Aside0.mk h
  have HM := Aside0.mk hsum
  have HG := Aside0.mk (show leastGo (tot a0 (prs l1)) (1000000 + 1) 1 = r from hg)
  clear hr1 hc1 h hsum hg
  have HB := Aside0.mk (Below.refl w.heap.size w)
  go_enter Try.func8, Try.ntmps8
  go_wp2
  refine wp_scope_jumps 0 (fun a' w' => Below w.heap.size w w' ∧ ∃ (v : Int) (n : Nat) (u7 u8 u9 u10 u11 u12 u13 u14 u15 u16 u17 u18 u19 u20 u21 u22 u23 u24 u25 u26 u27 : Value), a' = { tmps := #[.int .i64 a0, .slice A1 l1.length c1, undef, undef, .int .i64 0, .bool false, .int .i64 v, u7, u8, u9, u10, u11, u12, u13, u14, u15, u16, u17, u18, u19, u20, u21, u22, u23, u24, u25, u26, u27], defers := [] } ∧ Aside0 (1 ≤ v ∧ v ≤ 1000000) ∧ Aside0 (1000000 - v < n) ∧ Aside0 (leastGo (tot a0 (prs l1)) n v = r)) (fun a' _ => (1000001 - intOf (a'.tmps.getD 6 undef)).toNat) rfl ?_ ?_
  · have HV := Aside0.mk (show (1 : Int) ≤ 1000000 by omega)
    obtain ⟨n, hn⟩ : ∃ n, n = 1000000 := ⟨_, rfl⟩
    rw [← hn] at HG
    have HN0 := Aside0.mk hn
    clear hn
    have HT := Aside0.mk (show tot a0 (prs l1) 1 = tot a0 (prs l1) 1 from rfl)
    have HS := Aside0.mk (HM.out 1 (by omega) (by omega))
    generalize hs : tot a0 (prs l1) 1 = s at HS
    replace HT := Aside0.mk hs
    clear hs
    by_cases c1' : s = 1
    · have q1 : (s == 1) = true := by simp [c1']
      have e : r = (1, true) := by have := HG.out; unfold leastGo at this; rw [HT.out, if_pos c1'] at this; exact this.symm
      subst e
      clear c1'
      go_wp2_with (first | (go_at_call 13; (with_reducible refine (fix_is.calls a0 A1 c1 l1 true _ (Kd.C_below HR.out (by repeat (first | (with_reducible first | exact HB.out | apply below_alloc | apply pw_below_drewN | apply below_drew1) | exact HB.out))) HC.out HI.out).mono ?_); rintro e w' ⟨rfl, hb⟩; have HB2 := Aside0.mk (HB.out.trans (hb.mono HB.out.size)); clear hb; clear HB; have HB := HB2; clear HB2) | (go_at_call 14; (with_reducible refine (fix_sum.calls (l1.length + 1) a0 A1 c1 l1 (1) s _ (Kd.C_below HR.out HB.out) HC.out HS.out).mono ?_); rintro e w' ⟨rfl, hb⟩; have HB2 := Aside0.mk (HB.out.trans (hb.mono HB.out.size)); clear hb; clear HB; have HB := HB2; clear HB2))
      go_step3
      go_wp2_with (first | (go_at_call 13; (with_reducible refine (fix_is.calls a0 A1 c1 l1 true _ (Kd.C_below HR.out (by repeat (first | (with_reducible first | exact HB.out | apply below_alloc | apply pw_below_drewN | apply below_drew1) | exact HB.out))) HC.out HI.out).mono ?_); rintro e w' ⟨rfl, hb⟩; have HB2 := Aside0.mk (HB.out.trans (hb.mono HB.out.size)); clear hb; clear HB; have HB := HB2; clear HB2) | (go_at_call 14; (with_reducible refine (fix_sum.calls (l1.length + 1) a0 A1 c1 l1 (1) s _ (Kd.C_below HR.out HB.out) HC.out HS.out).mono ?_); rintro e w' ⟨rfl, hb⟩; have HB2 := Aside0.mk (HB.out.trans (hb.mono HB.out.size)); clear hb; clear HB; have HB := HB2; clear HB2))
      (try simp only [Exit.jump])
      go_ret2
      exact ⟨by first | rfl | (simp; done), HB.out⟩
    · have q1 : (s == 1) = false := by simpa using c1'
      by_cases c2' : s < 1
      · have q2 : decide (s < 1) = true := decide_eq_true c2'
        have e : r = (0, false) := by have := HG.out; unfold leastGo at this; rw [HT.out, if_neg c1', if_pos (Or.inl c2')] at this; exact this.symm
        subst e
        clear c1' c2'
        go_wp2_with (first | (go_at_call 13; (with_reducible refine (fix_is.calls a0 A1 c1 l1 true _ (Kd.C_below HR.out (by repeat (first | (with_reducible first | exact HB.out | apply below_alloc | apply pw_below_drewN | apply below_drew1) | exact HB.out))) HC.out HI.out).mono ?_); rintro e w' ⟨rfl, hb⟩; have HB2 := Aside0.mk (HB.out.trans (hb.mono HB.out.size)); clear hb; clear HB; have HB := HB2; clear HB2) | (go_at_call 14; (with_reducible refine (fix_sum.calls (l1.length + 1) a0 A1 c1 l1 (1) s _ (Kd.C_below HR.out HB.out) HC.out HS.out).mono ?_); rintro e w' ⟨rfl, hb⟩; have HB2 := Aside0.mk (HB.out.trans (hb.mono HB.out.size)); clear hb; clear HB; have HB := HB2; clear HB2))
        go_step3
        go_wp2_with (first | (go_at_call 13; (with_reducible refine (fix_is.calls a0 A1 c1 l1 true _ (Kd.C_below HR.out (by repeat (first | (with_reducible first | exact HB.out | apply below_alloc | apply pw_below_drewN | apply below_drew1) | exact HB.out))) HC.out HI.out).mono ?_); rintro e w' ⟨rfl, hb⟩; have HB2 := Aside0.mk (HB.out.trans (hb.mono HB.out.size)); clear hb; clear HB; have HB := HB2; clear HB2) | (go_at_call 14; (with_reducible refine (fix_sum.calls (l1.length + 1) a0 A1 c1 l1 (1) s _ (Kd.C_below HR.out HB.out) HC.out HS.out).mono ?_); rintro e w' ⟨rfl, hb⟩; have HB2 := Aside0.mk (HB.out.trans (hb.mono HB.out.size)); clear hb; clear HB; have HB := HB2; clear HB2))
        (try simp only [Exit.jump])
        go_ret2
        exact ⟨by first | rfl | (simp; done), HB.out⟩
      · have q2 : decide (s < 1) = false := decide_eq_false c2'
        by_cases c3' : 1000000 < s
        · have q3 : decide (1000000 < s) = true := decide_eq_true c3'
          have e : r = (0, false) := by have := HG.out; unfold leastGo at this; rw [HT.out, if_neg c1', if_pos (Or.inr c3')] at this; exact this.symm
          subst e
          clear c1' c2' c3'
          go_wp2_with (first | (go_at_call 13; (with_reducible refine (fix_is.calls a0 A1 c1 l1 true _ (Kd.C_below HR.out (by repeat (first | (with_reducible first | exact HB.out | apply below_alloc | apply pw_below_drewN | apply below_drew1) | exact HB.out))) HC.out HI.out).mono ?_); rintro e w' ⟨rfl, hb⟩; have HB2 := Aside0.mk (HB.out.trans (hb.mono HB.out.size)); clear hb; clear HB; have HB := HB2; clear HB2) | (go_at_call 14; (with_reducible refine (fix_sum.calls (l1.length + 1) a0 A1 c1 l1 (1) s _ (Kd.C_below HR.out HB.out) HC.out HS.out).mono ?_); rintro e w' ⟨rfl, hb⟩; have HB2 := Aside0.mk (HB.out.trans (hb.mono HB.out.size)); clear hb; clear HB; have HB := HB2; clear HB2))
          go_step3
          go_wp2_with (first | (go_at_call 13; (with_reducible refine (fix_is.calls a0 A1 c1 l1 true _ (Kd.C_below HR.out (by repeat (first | (with_reducible first | exact HB.out | apply below_alloc | apply pw_below_drewN | apply below_drew1) | exact HB.out))) HC.out HI.out).mono ?_); rintro e w' ⟨rfl, hb⟩; have HB2 := Aside0.mk (HB.out.trans (hb.mono HB.out.size)); clear hb; clear HB; have HB := HB2; clear HB2) | (go_at_call 14; (with_reducible refine (fix_sum.calls (l1.length + 1) a0 A1 c1 l1 (1) s _ (Kd.C_below HR.out HB.out) HC.out HS.out).mono ?_); rintro e w' ⟨rfl, hb⟩; have HB2 := Aside0.mk (HB.out.trans (hb.mono HB.out.size)); clear hb; clear HB; have HB := HB2; clear HB2))
          (try simp only [Exit.jump])
          go_ret2
          exact ⟨by first | rfl | (simp; done), HB.out⟩
        · have q3 : decide (1000000 < s) = false := decide_eq_false c3'
          have HN := Aside0.mk (show (1 < s ∧ s ≤ 1000000) ∧ leastGo (tot a0 (prs l1)) n s = r by refine ⟨by omega, ?_⟩; have := HG.out; unfold leastGo at this; rw [HT.out, if_neg c1', if_neg (by omega)] at this; exact this)
          clear c1' c2' c3'
          go_wp2_with (first | (go_at_call 13; (with_reducible refine (fix_is.calls a0 A1 c1 l1 true _ (Kd.C_below HR.out (by repeat (first | (with_reducible first | exact HB.out | apply below_alloc | apply pw_below_drewN | apply below_drew1) | exact HB.out))) HC.out HI.out).mono ?_); rintro e w' ⟨rfl, hb⟩; have HB2 := Aside0.mk (HB.out.trans (hb.mono HB.out.size)); clear hb; clear HB; have HB := HB2; clear HB2) | (go_at_call 14; (with_reducible refine (fix_sum.calls (l1.length + 1) a0 A1 c1 l1 (1) s _ (Kd.C_below HR.out HB.out) HC.out HS.out).mono ?_); rintro e w' ⟨rfl, hb⟩; have HB2 := Aside0.mk (HB.out.trans (hb.mono HB.out.size)); clear hb; clear HB; have HB := HB2; clear HB2))
          go_step3
          go_wp2_with (first | (go_at_call 13; (with_reducible refine (fix_is.calls a0 A1 c1 l1 true _ (Kd.C_below HR.out (by repeat (first | (with_reducible first | exact HB.out | apply below_alloc | apply pw_below_drewN | apply below_drew1) | exact HB.out))) HC.out HI.out).mono ?_); rintro e w' ⟨rfl, hb⟩; have HB2 := Aside0.mk (HB.out.trans (hb.mono HB.out.size)); clear hb; clear HB; have HB := HB2; clear HB2) | (go_at_call 14; (with_reducible refine (fix_sum.calls (l1.length + 1) a0 A1 c1 l1 (1) s _ (Kd.C_below HR.out HB.out) HC.out HS.out).mono ?_); rintro e w' ⟨rfl, hb⟩; have HB2 := Aside0.mk (HB.out.trans (hb.mono HB.out.size)); clear hb; clear HB; have HB := HB2; clear HB2))
          go_step3
          exact ⟨rfl, HB.out, s, n, _, _, _, _, _, _, _, _, _, _, _, _, _, _, _, _, _, _, _, _, _, rfl, ⟨by have := HN.out.1; omega⟩, ⟨by have := HN0.out; have := HN.out.1; omega⟩, ⟨HN.out.2⟩⟩
  · rintro a' w' ⟨hb, v, n, u7, u8, u9, u10, u11, u12, u13, u14, u15, u16, u17, u18, u19, u20, u21, u22, u23, u24, u25, u26, u27, rfl, HV, HV2, HG⟩
    have HB := Aside0.mk hb
    clear hb
    obtain ⟨n, rfl⟩ : ∃ m, n = m + 1 := ⟨n - 1, by have := HV.out; have := HV2.out; omega⟩
    have HT := Aside0.mk (show tot a0 (prs l1) v = tot a0 (prs l1) v from rfl)
    have HS := Aside0.mk (HM.out v (by have := HV.out; omega) (HV.out.2))
    generalize hs : tot a0 (prs l1) v = s at HS
    replace HT := Aside0.mk hs
    clear hs
    by_cases c1' : s = v
    · have q1 : (s == v) = true := by simp [c1']
      have e : r = (v, true) := by have := HG.out; unfold leastGo at this; rw [HT.out, if_pos c1'] at this; exact this.symm
      subst e
      clear c1'
      go_wp2_with (first | (go_at_call 14; (with_reducible refine (fix_sum.calls (l1.length + 1) a0 A1 c1 l1 (v) s _ (Kd.C_below HR.out HB.out) HC.out HS.out).mono ?_); rintro e w' ⟨rfl, hb⟩; have HB2 := Aside0.mk (HB.out.trans (hb.mono HB.out.size)); clear hb; clear HB; have HB := HB2; clear HB2))
      (try simp only [Exit.jump])
      go_ret2
      exact ⟨by first | rfl | (simp; done), HB.out⟩
    · have q1 : (s == v) = false := by simpa using c1'
      by_cases c2' : s < v
      · have q2 : decide (s < v) = true := decide_eq_true c2'
        have e : r = (0, false) := by have := HG.out; unfold leastGo at this; rw [HT.out, if_neg c1', if_pos (Or.inl c2')] at this; exact this.symm
        subst e
        clear c1' c2'
        go_wp2_with (first | (go_at_call 14; (with_reducible refine (fix_sum.calls (l1.length + 1) a0 A1 c1 l1 (v) s _ (Kd.C_below HR.out HB.out) HC.out HS.out).mono ?_); rintro e w' ⟨rfl, hb⟩; have HB2 := Aside0.mk (HB.out.trans (hb.mono HB.out.size)); clear hb; clear HB; have HB := HB2; clear HB2))
        (try simp only [Exit.jump])
        go_ret2
        exact ⟨by first | rfl | (simp; done), HB.out⟩
      · have q2 : decide (s < v) = false := decide_eq_false c2'
        by_cases c3' : 1000000 < s
        · have q3 : decide (1000000 < s) = true := decide_eq_true c3'
          have e : r = (0, false) := by have := HG.out; unfold leastGo at this; rw [HT.out, if_neg c1', if_pos (Or.inr c3')] at this; exact this.symm
          subst e
          clear c1' c2' c3'
          go_wp2_with (first | (go_at_call 14; (with_reducible refine (fix_sum.calls (l1.length + 1) a0 A1 c1 l1 (v) s _ (Kd.C_below HR.out HB.out) HC.out HS.out).mono ?_); rintro e w' ⟨rfl, hb⟩; have HB2 := Aside0.mk (HB.out.trans (hb.mono HB.out.size)); clear hb; clear HB; have HB := HB2; clear HB2))
          (try simp only [Exit.jump])
          go_ret2
          exact ⟨by first | rfl | (simp; done), HB.out⟩
        · have q3 : decide (1000000 < s) = false := decide_eq_false c3'
          have HN := Aside0.mk (show (v < s ∧ s ≤ 1000000) ∧ leastGo (tot a0 (prs l1)) n s = r by refine ⟨by omega, ?_⟩; have := HG.out; unfold leastGo at this; rw [HT.out, if_neg c1', if_neg (by omega)] at this; exact this)
          clear c1' c2' c3'
          go_wp2_with (first | (go_at_call 14; (with_reducible refine (fix_sum.calls (l1.length + 1) a0 A1 c1 l1 (v) s _ (Kd.C_below HR.out HB.out) HC.out HS.out).mono ?_); rintro e w' ⟨rfl, hb⟩; have HB2 := Aside0.mk (HB.out.trans (hb.mono HB.out.size)); clear hb; clear HB; have HB := HB2; clear HB2))
          go_step3
          exact ⟨rfl, ⟨HB.out, s, n, _, _, _, _, _, _, _, _, _, _, _, _, _, _, _, _, _, _, _, _, _, rfl, ⟨by have := HN.out.1; have := HV.out; omega⟩, ⟨by have := HV.out; have := HV2.out; have := HN.out.1; omega⟩, ⟨HN.out.2⟩⟩, by have := HN.out.1; have := HV.out; simp [intOf]; omega⟩
theorem fix_Least.calls (a0 : Int) (A1 : Option Addr) (c1 : Nat) (l1 : List (S31)) (r1 : Int) (r2 : Bool) (w : World) (hr1 : Kd.C k31 w A1 l1.length l1) (hc1 : l1.length ≤ c1) (h : fix_Least.f a0 l1 = some (r1, r2)) :
    Calls Try.prog 8 #[.int .i64 a0, .slice A1 l1.length c1] w fun e w' => e = .returned (.tuple #[.int .i64 r1, .bool r2]) ∧ Below w.heap.size w w' := by
  have e : leastV a0 l1 = (r1, r2) := Option.some.inj h
  unfold leastV at e
  by_cases g : 0 ≤ a0 ∧ a0 ≤ 1000000 ∧ good (prs l1)
  · rw [if_pos g] at e
    have := least_yes a0 A1 c1 l1 w hr1 hc1 (by rw [is_fix, decide_eq_true g]) (fun v h0 h1 => sum_eq g.2.2 g.1 g.2.1 h0 h1 _ (by omega)) (r1, r2) e
    exact this
  · rw [if_neg g] at e
    obtain ⟨rfl, rfl⟩ := Prod.mk.inj e
    exact least_no a0 A1 c1 l1 w hr1 hc1 (by rw [is_fix, decide_eq_false g])
end Go.Proofs.Ytapncdhemhnphaa.QFix

/- What is proved: the pure statement of AgainMore (chapter 8) at any set: by more sets that are needed again what is loaded is no less; no conditions. -/
import Derived.Test.YtmhioeoioohmpaaAgainShared
import Derived.Test.YtmhioeoioohmpaaQAgxf4
namespace Go.Proofs.Ytmhioeoioohmpaa.Pure
open Go.RowKit Go.Proofs.Ytmhioeoioohmpaa.QAg Go.Proofs.YtmhioeoioohmpaaW.PrintWords Go.Proofs.YtmhioeoioohmpaaW.PrintLast Go.Proofs.YtmhioeoioohmpaaW.PrintMore Go.Proofs.Ytmhioeoioohmpaa.RefSet Go.Proofs.Ytmhioeoioohmpaa.BitsPure Go.Proofs.Ytmhioeoioohmpaa.BitsMath Go.Proofs.Ytmhioeoioohmpaa.AgainPure
set_option linter.unusedVariables false

/-- Two rows of tasks, the second's sets no less. -/
def More (l m : List S31) : Prop := l.length = m.length ∧ ∀ i : Int, 0 ≤ i → i < (l.length : Int) → (rd_T31 l i).f7 = (rd_T31 m i).f7 ∧ ∀ j, (rd_T31 l i).f8.toNat.testBit j = true → (rd_T31 m i).f8.toNat.testBit j = true
theorem orAll_more {l m : List S31} (h : More l m) (d : Nat) : ∀ (i a b : Nat), i + d = l.length → (∀ j, a.testBit j = true → b.testBit j = true) → ∀ j, (orAll (l.drop i) a).testBit j = true → (orAll (m.drop i) b).testBit j = true := by
  induction d with
  | zero =>
    intro i a b hi hab j hj
    have hm := h.1
    rw [List.drop_eq_nil_of_le (by omega)] at hj ⊢
    exact hab j hj
  | succ d ih =>
    intro i a b hi hab j hj
    have hm := h.1
    rw [rd_dropT (l := l) (i := i) (by omega)] at hj
    rw [rd_dropT (l := m) (i := i) (by omega)]
    refine ih (i + 1) _ _ (by omega) (fun j' hj' => ?_) j hj
    rw [Nat.testBit_or] at hj' ⊢
    rcases Bool.or_eq_true_iff.1 hj' with q | q
    · rw [hab j' q]; rfl
    · rw [(h.2 (i : Int) (by omega) (by omega)).2 j' q]; simp
theorem made_more {r : Int} (r0 : 0 ≤ r) (r1 : r ≤ 10000) {l m : List S31} (h : More l m) (i : Int) : madeV r l i ≤ madeV r m i := by
  unfold madeV
  by_cases c : 0 ≤ i ∧ i < (l.length : Int)
  · have hm := h.1
    rw [if_pos c, if_pos ⟨c.1, by omega⟩]
    refine ticks_mono r0 r1 (fun j hj => ?_)
    rw [Nat.testBit_and] at hj ⊢
    obtain ⟨q1, q2⟩ := Bool.and_eq_true_iff.1 hj
    rw [← (h.2 i c.1 c.2).1, q1, orAll_more h (l.length - (i.toNat + 1)) (i.toNat + 1) 0 0 (by omega) (fun _ q => q) j q2]; rfl
  · have hm := h.1
    rw [if_neg c, if_neg (by omega)]; exact Int.le_refl _
theorem own_more {r : Int} (r0 : 0 ≤ r) (r1 : r ≤ 10000) {l m : List S31} (h : More l m) (i : Int) : ownV r l i ≤ ownV r m i := by
  unfold ownV
  by_cases c : 0 ≤ i ∧ i < (l.length : Int)
  · have hm := h.1
    rw [if_pos c, if_pos ⟨c.1, by omega⟩]
    exact ticks_mono r0 r1 (h.2 i c.1 c.2).2
  · have hm := h.1
    rw [if_neg c, if_neg (by omega)]; exact Int.le_refl _
theorem more_loop {r : Int} {l m : List S31} (r0 : 0 ≤ r) (r1 : r ≤ 10000) (hl : l.length ≤ 8) (hL : SetsOK l) (hM : SetsOK m) (h : More l m) (d : Nat) : ∀ i : Nat, i + d = l.length → Ev (fun k => taskmasterlaw8_AgainMore.l0 k (i : Int) r l r m) true := by
  have hm := h.1
  induction d with
  | zero =>
    intro i hi
    refine Ev.step (fun k => by rw [taskmasterlaw8_AgainMore.l0]) ?_
    exact evn (by omega) (Ev.bind known8 (Ev.now true))
  | succ d ih =>
    intro i hi
    refine Ev.step (fun k => by rw [taskmasterlaw8_AgainMore.l0]) (evp (by omega) (Ev.bind (made_ev hM (by omega) _) (Ev.bind (made_ev hL (by omega) _) (evn ?_ (evb (own_eq hM _) (evb (own_eq hL _) (evn ?_ ?_)))))))
    · have := made_more r0 r1 h (i : Int); omega
    · have := own_more r0 r1 h (i : Int); omega
    · rw [w64 (by omega) (by omega)]; exact ih (i + 1) (by omega)
theorem u64_or {u a x : Int} (hu : 0 ≤ u ∧ u < 18446744073709551616) (ha : 0 ≤ a ∧ a < 18446744073709551616) (hx : 0 ≤ x ∧ x < 18446744073709551616) :
    Go.bits .or .u64 u (Go.bits .and .u64 a x) = ((u.toNat ||| (a.toNat &&& x.toNat) : Nat) : Int) := by
  obtain ⟨u, rfl⟩ := Int.eq_ofNat_of_zero_le hu.1
  obtain ⟨a, rfl⟩ := Int.eq_ofNat_of_zero_le ha.1
  obtain ⟨x, rfl⟩ := Int.eq_ofNat_of_zero_le hx.1
  rw [andN a x (by omega) (by omega), orN u (a &&& x) (by omega) (and_lt (by omega))]; rfl
theorem AgainMore (a0 : S24) (a1 : Int) (a2 : Int) (w0 : wf24 a0) (w1 : (Lit.int .i64 a1).wf = true) (w2 : (Lit.int .u64 a2).wf = true) : ∃ k, taskmasterlaw8_AgainMore.f k a0.f0 a0.f1 a1 a2 = some true := by
  refine Ev.rounds ?_
  have hS := sets_of w0.2
  have hu := u64_in w2
  obtain ⟨b, hb, hok⟩ := all_ends a0.f0 a0.f1 (sizes_of w0.2)
  generalize a0.f0 = r at *
  generalize a0.f1 = l at *
  have no : Ev (fun k => taskmasterlaw8_AgainMore.j0 k a1 a2 true r l) true := Ev.step (fun k => by rw [taskmasterlaw8_AgainMore.j0, if_pos rfl]) (Ev.now true)
  unfold taskmasterlaw8_AgainMore.f
  by_cases c0 : (l.length : Int) > 10
  · exact evp c0 no
  refine evn c0 (Ev.bind hb ?_)
  by_cases c1 : b = true
  · refine evp c1 ?_
    have hset := hok c1
    have hset2 := hset
    obtain ⟨r0, r1, l1, l8, _⟩ := hset2
    by_cases c2 : a1 < 0
    · exact evp c2 no
    refine evn c2 ?_
    by_cases c3 : a1 ≥ (l.length : Int)
    · rw [decide_eq_true c3]; exact no
    rw [decide_eq_false c3]
    have hx := hS _ (rd_in (i := a1) (by omega) (by omega))
    refine Ev.step (fun k => by rw [taskmasterlaw8_AgainMore.j0, if_neg (by simp)]) (Ev.bind (put_ev r l l8 (regs_of hset)) ?_)
    refine evp (show 0 ≤ a1 by omega) (evp (show a1 < (l.length : Int) by omega) ?_)
    show Ev (fun k => taskmasterlaw8_AgainMore.l0 k ((0 : Nat) : Int) r l r (l.set a1.toNat (⟨(rd_T31 l a1).f0, (rd_T31 l a1).f1, (rd_T31 l a1).f2, (rd_T31 l a1).f3, (rd_T31 l a1).f4, (rd_T31 l a1).f5, (rd_T31 l a1).f6, (rd_T31 l a1).f7, Go.bits .or .u64 (rd_T31 l a1).f8 (Go.bits .and .u64 a2 (rd_T31 l a1).f7)⟩ : S31))) true
    have hor := u64_or hx.2 hu hx.1
    have hlt : (rd_T31 l a1).f8.toNat ||| (a2.toNat &&& (rd_T31 l a1).f7.toNat) < 18446744073709551616 := or_lt (by omega) (and_lt (by omega))
    generalize hy : (⟨(rd_T31 l a1).f0, (rd_T31 l a1).f1, (rd_T31 l a1).f2, (rd_T31 l a1).f3, (rd_T31 l a1).f4, (rd_T31 l a1).f5, (rd_T31 l a1).f6, (rd_T31 l a1).f7, Go.bits .or .u64 (rd_T31 l a1).f8 (Go.bits .and .u64 a2 (rd_T31 l a1).f7)⟩ : S31) = y
    have hrd : ∀ i : Int, 0 ≤ i → i < (l.length : Int) → rd_T31 (l.set a1.toNat y) i = if i = a1 then y else rd_T31 l i := fun i h0 h1 => by
      unfold rd_T31
      rw [List.getD_eq_getElem?_getD, List.getD_eq_getElem?_getD, List.getElem?_set]
      by_cases q : i = a1
      · subst q; rw [if_pos rfl, if_pos (by omega), if_pos rfl]; rfl
      · rw [if_neg (by omega), if_neg q]
    have hM : SetsOK (l.set a1.toNat y) := fun z hz => by
      rcases List.mem_or_eq_of_mem_set hz with q | rfl
      · exact hS z q
      · subst hy
        refine ⟨hx.1, ?_⟩
        show 0 ≤ Go.bits .or .u64 _ _ ∧ Go.bits .or .u64 _ _ < _
        rw [hor]; omega
    have hmore : More l (l.set a1.toNat y) := by
      refine ⟨by rw [List.length_set], fun i h0 h1 => ?_⟩
      rw [hrd i h0 h1]
      by_cases q : i = a1
      · subst q
        rw [if_pos rfl]; subst hy
        refine ⟨rfl, fun j hj => ?_⟩
        show (Go.bits .or .u64 _ _).toNat.testBit j = true
        rw [hor, Int.toNat_natCast, Nat.testBit_or, hj]; rfl
      · rw [if_neg q]; exact ⟨rfl, fun _ hj => hj⟩
    exact more_loop r0 r1 l8 hS hM hmore l.length 0 (by omega)
  · exact evn c1 no
end Go.Proofs.Ytmhioeoioohmpaa.Pure

/- What is proved: by less base, by one load less, what fix.Least answers is no greater; no conditions; the statement is the printed one (Pure). -/
import Derived.Test.YtapncdhemhnphaaFixTells
import Derived.Test.YtapncdhemhnphaaQFixxf4
import Derived.Test.YtapncdhemhnphaaOpenFix
namespace Go.Proofs.Ytapncdhemhnphaa.Pure
open Go.RowKit Go.Proofs.Ytapncdhemhnphaa.QFix Go.Proofs.YtapncdhemhnphaaW.PrintWords Go.Proofs.YtapncdhemhnphaaW.PrintLast Go.Proofs.Ytapncdhemhnphaa.FixPure Go.Proofs.Ytapncdhemhnphaa.FixMath
set_option linter.unusedVariables false

theorem mask_in (x : Int) : 0 ≤ Go.bits .and .i64 x 65535 ∧ Go.bits .and .i64 x 65535 ≤ 65535 := by
  have h : (BitVec.ofInt 64 x &&& BitVec.ofInt 64 65535).toNat ≤ 65535 := by
    rw [BitVec.toNat_and]
    exact Nat.le_trans Nat.and_le_right (by decide)
  have e : Go.bits .and .i64 x 65535 = IntKind.i64.wrap ((BitVec.ofInt 64 x &&& BitVec.ofInt 64 65535).toNat : Int) := rfl
  rw [e, IntKind.wrap_i64]
  omega
theorem less_of {S S' : Int → Int} {n r : Int} {ok : Bool} (hL : Least S n true) (hle : ∀ w, 1 ≤ w → S' w ≤ S w) (hL' : Least S' r ok) : (ok = true ∧ r ≤ n) ∨ (ok = false ∧ r = 0 ∧ S' 1 < 1) := by
  rcases hL with ⟨_, g1, g2, g3, g4⟩ | ⟨q, _⟩
  · by_cases h1 : S' 1 < 1
    · rcases hL' with ⟨_, f1, f2, f3, f4⟩ | ⟨e, e', _⟩
      · exfalso
        by_cases e : r = 1
        · subst e; omega
        · have := f4 1 (by omega) (by omega); omega
      · exact Or.inr ⟨e, e', h1⟩
    · have := hL'.le (w := n) g1 g2 (by have := hle n g1; omega) (by omega)
      exact Or.inl this
  · cases q
theorem prs_split {l : List S31} {i : Nat} (h : i < l.length) : ∃ x : Int × Int, x ∈ prs l ∧ prs l = prs (l.take i) ++ x :: prs (l.drop (i + 1)) := by
  refine ⟨(l[i].f0, l[i].f1), List.mem_map.2 ⟨_, List.getElem_mem h, rfl⟩, ?_⟩
  unfold prs
  rw [← List.map_cons (f := fun x : S31 => (x.f0, x.f1)), ← List.map_append, ← List.drop_eq_getElem_cons h, List.take_append_drop]
theorem prs_app (l m : List S31) : prs (l ++ m) = prs l ++ prs m := by unfold prs; exact List.map_append
theorem FixLess (a b : Int) (l : List S31) (x : Int) (wa : (Lit.int .i64 a).wf = true) (wb : (Lit.int .i64 b).wf = true) (_ : ∀ y ∈ l, wf31 y) (_ : (Lit.int .i64 x).wf = true) : ∃ k, taskmasterlaw10_FixLess.f k a b l x = some true := by
  refine ⟨200, ?_⟩
  have no : taskmasterlaw10_FixLess.j0 200 a b l x true = some true := by rw [taskmasterlaw10_FixLess.j0, if_pos rfl]
  unfold taskmasterlaw10_FixLess.f
  by_cases h0 : (l.length : Int) < 1
  · rw [if_pos h0, no]
  rw [if_neg h0]
  by_cases h1 : (l.length : Int) > 20
  · rw [if_pos h1, no]
  rw [if_neg h1]
  by_cases h2 : b < 0
  · rw [if_pos h2, no]
  rw [if_neg h2]
  by_cases h3 : b > a
  · rw [decide_eq_true h3, no]
  rw [decide_eq_false h3, taskmasterlaw10_FixLess.j0, if_neg (by simp), Least_eq, Option.bind_some]
  rcases leastV_tells a l with ⟨e1, hg, hL⟩ | ⟨e1, _⟩
  · rw [e1, if_pos rfl, if_neg (by omega), Least_eq, Option.bind_some, Option.bind_some]
    have hm := mask_in x
    generalize Go.bits .and .i64 x 65535 = m at hm ⊢
    rw [Int.tmod_eq_emod_of_nonneg hm.1]
    have hi0 := Int.emod_nonneg m (show (l.length : Int) ≠ 0 by omega)
    have hi1 := Int.emod_lt_of_pos m (show 0 < (l.length : Int) by omega)
    generalize m % (l.length : Int) = i at hi0 hi1 ⊢
    have w64 : ∀ {n : Int}, -9223372036854775808 ≤ n → n ≤ 9223372036854775807 → wrap64 n = n := fun h0 h1 => by unfold wrap64; omega
    have wa' : -9223372036854775808 ≤ a ∧ a ≤ 9223372036854775807 := by omega
    rw [w64 (n := i + 1) (by omega) (by omega), w64 (n := a - b) (by omega) (by omega)]
    rw [if_pos hi0, if_pos (by omega), Option.bind_some]
    have ht : (l.take i.toNat).length ≤ l.length := List.length_take_le' _ _
    have hd : (l.drop (i + 1).toNat).length ≤ l.length := by rw [List.length_drop]; omega
    have hn : ([] : List S31).length = 0 := rfl
    rw [if_pos (by omega), Option.bind_some, if_pos (by omega), if_pos (by omega), Option.bind_some, List.nil_append, if_pos (by omega), Least_eq, Option.bind_some]
    obtain ⟨y, hy, hs⟩ := prs_split (l := l) (i := i.toNat) (by omega)
    rw [show (i + 1).toNat = i.toNat + 1 by omega]
    have hgood : good (prs (l.take i.toNat ++ l.drop (i.toNat + 1))) := by
      have g := hg.2.2
      rw [prs_app]
      refine ⟨?_, fun z hz => g.2 z ?_⟩
      · have := g.1
        rw [hs] at this
        simp only [List.length_append, List.length_cons] at this ⊢
        omega
      · rw [hs]
        rcases List.mem_append.1 hz with hz | hz
        · exact List.mem_append.2 (Or.inl hz)
        · exact List.mem_append.2 (Or.inr (List.mem_cons_of_mem _ hz))
    have hle2 : ∀ w, 1 ≤ w → tot a (prs (l.take i.toNat ++ l.drop (i.toNat + 1))) w ≤ tot a (prs l) w := fun w hw => by
      have hx := good_two hg.2.2 y hy
      rw [hs, prs_app, tot_append, tot_append]
      refine tot_mono_base _ _ _ w ?_
      have := Int.mul_nonneg hx.2 (up_nonneg hx.1 (show 0 ≤ w by omega))
      omega
    have hV1 : leastV (a - b) l = leastR (a - b) (prs l) := if_pos ⟨by omega, by omega, hg.2.2⟩
    have hV2 : leastV a (l.take i.toNat ++ l.drop (i.toNat + 1)) = leastR a (prs (l.take i.toNat ++ l.drop (i.toNat + 1))) := if_pos ⟨hg.1, hg.2.1, hgood⟩
    have hb1 := tot_ge (good_two hg.2.2) (a - b) (w := 1) (by omega)
    have hb2 := tot_ge (good_two hgood) a (w := 1) (by omega)
    have c1 := less_of hL (fun w _ => tot_mono_base _ (a - b) a w (by omega)) (leastR_least (a := a - b) hg.2.2)
    have c2 := less_of hL hle2 (leastR_least (a := a) hgood)
    rw [hV1, hV2, known_eq]
    generalize (leastV a l).1 = n at *
    generalize leastR (a - b) (prs l) = p at *
    generalize leastR a (prs (l.take i.toNat ++ l.drop (i.toNat + 1))) = q at *
    rcases c1 with ⟨p1, p2⟩ | ⟨p1, _, p3⟩
    · rw [p1, if_pos rfl, if_pos p2]
      rcases c2 with ⟨q1, q2⟩ | ⟨q1, _, q3⟩
      · rw [q1, if_pos rfl, if_pos q2]; rfl
      · rw [q1, if_neg (by simp), if_pos (by omega)]; rfl
    · rw [p1, if_neg (by simp)]
      rcases c2 with ⟨q1, q2⟩ | ⟨q1, _, q3⟩
      · rw [q1, if_pos rfl, if_pos q2, if_pos (by omega)]; rfl
      · rw [q1, if_neg (by simp), if_pos (by omega), if_pos (by omega)]; rfl
  · rw [e1, if_neg (by simp), known_eq]; rfl

end Go.Proofs.Ytapncdhemhnphaa.Pure

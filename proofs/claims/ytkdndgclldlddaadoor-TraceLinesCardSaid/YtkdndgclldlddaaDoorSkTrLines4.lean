/- What is proved: contracts and plain facts on the way to the row RowTraceLines, and, in the last text, the row itself; conditions as each theorem names them. -/
import Derived.ChangeArms
import Derived.Deep.Slices
import Derived.DataReads
import Derived.WideShapes
import Derived.KernelRfl
import Derived.Test.YtkdndgclldlddaaDoorRows
import Derived.LaidMore
import Derived.MakeChecks
import Derived.Lib.LaidTab
import Derived.ProofKit
import Derived.Shelf.Vars
import Derived.Handed
import Derived.Lay
import Derived.WalkKit
import Derived.OpenShut
import Derived.ShutString
import Derived.ChangeOld
import Derived.Below
import Derived.SizedLaws
import Derived.Test.YtkdndgclldlddaaDoorTie
import Derived.Test.YtkdndgclldlddaaDoorCards
import Derived.SevenTiedAt
import Derived.Stop.Joined
import Derived.Test.YtkdndgclldlddaaDoorSkTrLines1
import Derived.Test.YtkdndgclldlddaaDoorSkTrLines2
import Derived.Test.YtkdndgclldlddaaDoorSkTrLines3
namespace Go.Proofs.YtkdndgclldlddaaDoor.Pure
open Go.RowKit Go.Proofs.YtkdndgclldlddaaDoor.QTr Go.Proofs.YtkdndgclldlddaaDoorW.PrintWords Go.Proofs.YtkdndgclldlddaaDoorW.PrintLast Go.Proofs.YtkdndgclldlddaaDoorW.PrintMore
set_option linter.unusedVariables false
set_option linter.unusedSimpArgs false
abbrev En := S44
def wordsL : List (List UInt8) := [[], [97, 100, 109, 105, 116], [114, 101, 102, 117, 115, 101], [108, 97, 116, 101], [115, 116, 97, 114, 116], [112, 114, 101, 101, 109, 112, 116], [114, 101, 115, 117, 109, 101], [114, 101, 103, 105, 111, 110], [102, 105, 110, 105, 115, 104], [97, 98, 111, 114, 116], [105, 100, 108, 101]]
def wd (i : Int) : List UInt8 := wordsL.getD i.toNat []
theorem words_eq : trace_words.f = some (wordsL.map B) := rfl
theorem rwords_eq : taskmasterref26_Words.f = some (wordsL.map B) := rfl
theorem rd_map (l : List (List UInt8)) (i : Int) : rdOf ByteArray.empty (l.map B) i = B (l.getD i.toNat []) := by
  unfold rdOf
  rw [List.getD_eq_getElem?_getD, List.getD_eq_getElem?_getD, List.getElem?_map]
  cases l[i.toNat]? <;> rfl
def okE (e : En) : Prop := (0 ≤ e.f0 ∧ e.f0 ≤ 1099511627776) ∧ (0 ≤ e.f3 ∧ e.f3 ≤ 1099511627776) ∧ (1 ≤ e.f1 ∧ e.f1 ≤ 10) ∧ (if e.f1 = 10 then e.f2 = -1 else 0 ≤ e.f2 ∧ e.f2 < 8)
instance : DecidablePred okE := fun e => by unfold okE; infer_instance
def tk (e : En) : List UInt8 := if e.f1 = 10 then [45] else Lib.itoa e.f2
def bodyT (e : En) : List UInt8 := Lib.itoa e.f0 ++ 32 :: (wd e.f1 ++ 32 :: (tk e ++ 32 :: Lib.itoa e.f3))
def lineT (e : En) : List UInt8 := bodyT e ++ [10]
def flat (l : List En) : List UInt8 := (l.map lineT).flatten
def allE (l : List En) : Prop := ∀ e ∈ l, okE e
theorem it_len13 {n : Int} (h0 : 0 ≤ n) (h : n ≤ 1099511627776) : (Lib.itoa n).length ≤ 13 := by
  obtain ⟨m, rfl⟩ := Int.eq_ofNat_of_zero_le h0
  rw [itoa_nat]; exact dd_len13 (by omega)
theorem it_isD {n : Int} (h : 0 ≤ n) : ∀ c ∈ Lib.itoa n, isD c := by
  obtain ⟨m, rfl⟩ := Int.eq_ofNat_of_zero_le h
  rw [itoa_nat]; exact dd_isD m
theorem wd_len {i : Int} (h0 : 1 ≤ i) (h1 : i ≤ 10) : (wd i).length ≤ 7 := by
  rcases (by omega : i = 1 ∨ i = 2 ∨ i = 3 ∨ i = 4 ∨ i = 5 ∨ i = 6 ∨ i = 7 ∨ i = 8 ∨ i = 9 ∨ i = 10) with rfl | rfl | rfl | rfl | rfl | rfl | rfl | rfl | rfl | rfl <;> decide
theorem wd_low {i : Int} (h0 : 1 ≤ i) (h1 : i ≤ 10) : ∀ c ∈ wd i, 97 ≤ c.toNat := by
  rcases (by omega : i = 1 ∨ i = 2 ∨ i = 3 ∨ i = 4 ∨ i = 5 ∨ i = 6 ∨ i = 7 ∨ i = 8 ∨ i = 9 ∨ i = 10) with rfl | rfl | rfl | rfl | rfl | rfl | rfl | rfl | rfl | rfl <;> decide
theorem wd_inj {i j : Int} (h0 : 1 ≤ i) (h1 : i ≤ 10) (k0 : 1 ≤ j) (k1 : j ≤ 10) (e : wd i = wd j) : i = j := by
  have all : ∀ a : Fin 11, ∀ b : Fin 11, wordsL.getD a.val [] = wordsL.getD b.val [] → a = b := by decide
  obtain ⟨m, rfl⟩ := Int.eq_ofNat_of_zero_le (show 0 ≤ i by omega)
  obtain ⟨n, rfl⟩ := Int.eq_ofNat_of_zero_le (show 0 ≤ j by omega)
  have := all ⟨m, by omega⟩ ⟨n, by omega⟩ (by simpa [wd] using e)
  have := congrArg Fin.val this
  simp at this
  omega
theorem tk_len {e : En} (h : okE e) : (tk e).length ≤ 13 := by
  unfold tk
  split
  · decide
  · next c =>
    have := h.2.2.2
    rw [if_neg c] at this
    exact it_len13 this.1 (by omega)
theorem tk_chars {e : En} (h : okE e) : ∀ c ∈ tk e, c.toNat = 45 ∨ isD c := by
  unfold tk
  split
  · intro c hc; left; rw [List.mem_singleton.mp hc]; rfl
  · next c =>
    have := h.2.2.2
    rw [if_neg c] at this
    exact fun x hx => Or.inr (it_isD this.1 x hx)
theorem not_d {c : UInt8} {l : List UInt8} (hl : ∀ x ∈ l, isD x) (hc : c.toNat < 48) : c ∉ l := fun h => by
  have := hl c h
  unfold isD at this
  omega
theorem tk_not {e : En} (h : okE e) {c : UInt8} (hc : c.toNat < 45) : c ∉ tk e := fun z => by
  have := tk_chars h c z
  unfold isD at this
  omega
theorem wd_not {i : Int} (h0 : 1 ≤ i) (h1 : i ≤ 10) {c : UInt8} (hc : c.toNat < 45) : c ∉ wd i := fun z => by
  have := wd_low h0 h1 c z
  omega
theorem body_len {e : En} (h : okE e) : (bodyT e).length ≤ 60 := by
  have h1 := it_len13 h.1.1 h.1.2
  have h2 := it_len13 h.2.1.1 h.2.1.2
  have h3 := wd_len h.2.2.1.1 h.2.2.1.2
  have h4 := tk_len h
  unfold bodyT
  simp only [List.length_append, List.length_cons]
  omega
theorem body_not10 {e : En} (h : okE e) : (10 : UInt8) ∉ bodyT e := by
  have h1 := not_d (it_isD h.1.1) (show (10 : UInt8).toNat < 48 by decide)
  have h2 := not_d (it_isD h.2.1.1) (show (10 : UInt8).toNat < 48 by decide)
  have h3 := wd_not h.2.2.1.1 h.2.2.1.2 (show (10 : UInt8).toNat < 45 by decide)
  have h4 := tk_not h (show (10 : UInt8).toNat < 45 by decide)
  unfold bodyT
  simp only [List.mem_append, List.mem_cons, not_or]
  exact ⟨h1, by decide, h3, by decide, h4, by decide, h2⟩
theorem body_split {e : En} (h : okE e) (k : Nat) : Lib.splitK [32] 0 (k + 3) (bodyT e) = Lib.itoa e.f0 :: wd e.f1 :: tk e :: Lib.splitK [32] 0 k (Lib.itoa e.f3) := by
  have h1 := not_d (it_isD h.1.1) (show (32 : UInt8).toNat < 48 by decide)
  have h3 := wd_not h.2.2.1.1 h.2.2.1.2 (show (32 : UInt8).toNat < 45 by decide)
  have h4 := tk_not h (show (32 : UInt8).toNat < 45 by decide)
  unfold bodyT
  rw [splitK_at (k + 2) h1, splitK_at (k + 1) h3, splitK_at k h4]
theorem body_count {e : En} (h : okE e) : (bodyT e).count 32 = 3 := by
  have h1 := List.count_eq_zero.mpr (not_d (it_isD h.1.1) (show (32 : UInt8).toNat < 48 by decide))
  have h2 := List.count_eq_zero.mpr (not_d (it_isD h.2.1.1) (show (32 : UInt8).toNat < 48 by decide))
  have h3 := List.count_eq_zero.mpr (wd_not h.2.2.1.1 h.2.2.1.2 (show (32 : UInt8).toNat < 45 by decide))
  have h4 := List.count_eq_zero.mpr (tk_not h (show (32 : UInt8).toNat < 45 by decide))
  unfold bodyT
  simp only [List.count_append, List.count_cons_self, h1, h2, h3, h4]
theorem e32 : (⟨#[32]⟩ : ByteArray) = B [32] := rfl
theorem e10 : (⟨#[10]⟩ : ByteArray) = B [10] := rfl
theorem e45 : (⟨#[45]⟩ : ByteArray) = B [45] := rfl
theorem fmt_eq {n : Int} (h0 : 0 ≤ n) (h1 : n ≤ 1099511627776) : strconv_FormatInt_49.f n 10 = some (B (Lib.itoa n)) := by
  unfold strconv_FormatInt_49.f
  rw [if_pos ⟨rfl, by omega, by omega⟩]; rfl
theorem itoa_eq {n : Int} (h0 : 0 ≤ n) (h1 : n ≤ 1099511627776) : strconv_Itoa_68.f n = some (B (Lib.itoa n)) := by
  unfold strconv_Itoa_68.f
  rw [if_pos ⟨by omega, by omega⟩]; rfl
theorem isNum_eq (n : Int) : trace_isNum.f n = some (decide (0 ≤ n ∧ n ≤ 1099511627776)) := by
  unfold trace_isNum.f
  by_cases h : n ≥ 0
  · rw [if_pos h]; congr 1; exact decide_eq_decide.mpr ⟨fun x => ⟨h, x⟩, fun x => x.2⟩
  · rw [if_neg h, decide_eq_false (fun x => h x.1)]
theorem isTask_eq (a b c d : Int) : trace_isTask.f a b c d = some (decide (if b = 10 then c = -1 else 0 ≤ c ∧ c < 8)) := by
  unfold trace_isTask.f
  by_cases h : b = 10
  · rw [if_pos h]; simp only [if_pos h]; congr 1
  · rw [if_neg h]; simp only [if_neg h]
    by_cases h2 : c ≥ 0
    · rw [if_pos h2]; congr 1; exact decide_eq_decide.mpr ⟨fun x => ⟨h2, x⟩, fun x => x.2⟩
    · rw [if_neg h2, decide_eq_false (fun x => h2 x.1)]
theorem line_ok (k : Nat) (e : En) (h : okE e) : trace_line.j0 (k + 1) false e.f0 e.f1 e.f2 e.f3 = some (B (lineT e), true) := by
  have h1 := it_len13 h.1.1 h.1.2
  have h2 := it_len13 h.2.1.1 h.2.1.2
  have h3 := wd_len h.2.2.1.1 h.2.2.1.2
  have h4 := h.2.2.1
  rw [trace_line.j0, if_neg (by simp), words_eq, fmt_eq h.1.1 h.1.2, fmt_eq h.2.1.1 h.2.1.2]
  have hw : rdOf ByteArray.empty (wordsL.map B) e.f1 = B (wd e.f1) := rd_map _ _
  by_cases c : e.f1 = 10
  · rw [if_pos c]
    simp only [Option.bind_some, hw, e32, e10, e45, B_app, B_size]
    rw [if_pos (by omega), if_pos (by omega), if_pos (show e.f1 < (((wordsL.map B).length : Nat) : Int) by rw [c]; decide)]
    repeat rw [if_pos (by simp only [List.length_append, List.length_cons, List.length_nil]; omega)]
    simp [lineT, bodyT, tk, c]
  · rw [if_neg c]
    have h5 := h.2.2.2
    rw [if_neg c] at h5
    have h6 := it_len13 h5.1 (by omega)
    rw [itoa_eq h5.1 (by omega)]
    simp only [Option.bind_some, hw, e32, e10, e45, B_app, B_size]
    rw [if_pos (by omega), if_pos (by omega), if_pos (show e.f1 < (((wordsL.map B).length : Nat) : Int) by show e.f1 < 11; omega)]
    repeat rw [if_pos (by simp only [List.length_append, List.length_cons, List.length_nil]; omega)]
    simp [lineT, bodyT, tk, c]
theorem line_no (k : Nat) (a b c d : Int) : trace_line.j0 (k + 1) true a b c d = some (B [], false) := by
  rw [trace_line.j0, if_pos rfl]; rfl
theorem line_eq (k : Nat) (e : En) : trace_line.f (k + 1) e.f0 e.f1 e.f2 e.f3 = some (if okE e then (B (lineT e), true) else (B [], false)) := by
  unfold trace_line.f
  rw [isNum_eq, isNum_eq, isTask_eq]
  simp only [Option.bind_some, line_no]
  by_cases h0 : 0 ≤ e.f0 ∧ e.f0 ≤ 1099511627776
  · rw [if_pos (decide_eq_true h0)]
    by_cases h3 : 0 ≤ e.f3 ∧ e.f3 ≤ 1099511627776
    · rw [if_pos (decide_eq_true h3)]
      by_cases h1 : e.f1 < 1
      · rw [if_pos h1, if_neg (fun x => by have := x.2.2.1.1; omega)]
      · rw [if_neg h1]
        by_cases h2 : e.f1 > 10
        · rw [if_pos h2, if_neg (fun x => by have := x.2.2.1.2; omega)]
        · rw [if_neg h2]
          by_cases h4 : (if e.f1 = 10 then e.f2 = -1 else 0 ≤ e.f2 ∧ e.f2 < 8)
          · have hok : okE e := ⟨h0, h3, ⟨by omega, by omega⟩, h4⟩
            rw [decide_eq_true h4, Bool.not_true, line_ok k e hok, if_pos hok]
          · rw [decide_eq_false h4, Bool.not_false, line_no, if_neg (fun x => h4 x.2.2.2)]
    · rw [if_neg (by simpa using h3), if_neg (fun x => h3 x.2.1)]
  · rw [if_neg (by simpa using h0), if_neg (fun x => h0 x.1)]
theorem line_ev (e : En) : Ev (fun k => trace_line.f k e.f0 e.f1 e.f2 e.f3) (if okE e then (B (lineT e), true) else (B [], false)) := Ev.step (fun k => line_eq k e) (Ev.now _)
theorem flat_cons (e : En) (l : List En) : flat (e :: l) = lineT e ++ flat l := rfl
theorem line_len {e : En} (h : okE e) : (lineT e).length ≤ 61 := by
  have := body_len h
  unfold lineT
  rw [List.length_append]; simp; omega
theorem flat_len : ∀ {l : List En}, allE l → (flat l).length ≤ 61 * l.length
  | [], _ => by simp [flat]
  | e :: l, h => by
    have h1 := line_len (h e List.mem_cons_self)
    have h2 := flat_len (l := l) (fun x hx => h x (List.mem_cons_of_mem _ hx))
    rw [flat_cons, List.length_append, List.length_cons]; omega
theorem g_eq : ∀ (l : List En) (acc : List UInt8), acc.length + 61 * l.length ≤ 100000 → (allE l → trace_Text.g acc l = some (acc ++ flat l, true)) ∧ (¬ allE l → trace_Text.g acc l = some ([], false))
  | [], acc, _ => ⟨fun _ => by simp [trace_Text.g, flat], fun h => absurd (fun e he => by cases he) h⟩
  | e :: l, acc, hl => by
    rw [List.length_cons] at hl
    by_cases h : okE e
    · have hle := line_len h
      have ih := g_eq l (acc ++ lineT e) (by rw [List.length_append]; omega)
      have hs : trace_Text.g acc (e :: l) = trace_Text.g (acc ++ lineT e) l := by
        rw [trace_Text.g, line_eq 4 e, if_pos h]
        show (if _ then _ else _) = _
        rw [if_pos (show acc.length + (B (lineT e)).size ≤ 100000 by rw [B_size]; omega)]; rfl
      refine ⟨fun ha => ?_, fun ha => ?_⟩
      · rw [hs, ih.1 (fun x hx => ha x (List.mem_cons_of_mem _ hx)), flat_cons, List.append_assoc]
      · rw [hs, ih.2 (fun z => ha (fun x hx => by
          rcases List.mem_cons.mp hx with rfl | hx
          · exact h
          · exact z x hx))]
    · refine ⟨fun ha => absurd (ha e List.mem_cons_self) h, fun _ => ?_⟩
      rw [trace_Text.g, line_eq 4 e, if_neg h]
      rfl
theorem text_eq (l : List En) (h : l.length ≤ 1000) : (allE l → trace_Text.f l = some (B (flat l), true)) ∧ (¬ allE l → trace_Text.f l = some (B [], false)) := by
  have hg := g_eq l [] (by simp; omega)
  unfold trace_Text.f
  rw [if_pos h]
  exact ⟨fun ha => by rw [hg.1 ha]; rfl, fun ha => by rw [hg.2 ha]; rfl⟩
theorem piece_len (c : UInt8) : ∀ (k : Nat) (s : List UInt8), ∀ x ∈ Lib.splitK [c] 0 k s, x.length ≤ s.length
  | 0, s, x, hx => by
    rw [Lib.splitK] at hx
    rw [List.mem_singleton.mp hx]; exact Nat.le_refl _
  | k + 1, s, x, hx => by
    rw [Lib.splitK] at hx
    split at hx
    · rw [List.mem_singleton.mp hx]; exact Nat.le_refl _
    · rcases List.mem_cons.mp hx with rfl | hx
      · rw [List.length_take]; omega
      · have := piece_len c k _ x hx
        rw [List.length_drop] at this; omega
theorem split_eq (s : List UInt8) (h : s.length ≤ 20000) : strings_Split.f (B s) (⟨#[32]⟩ : ByteArray) = some ((Lib.splitK [32] 0 (s.count 32) s).map B) := by
  unfold strings_Split.f
  rw [if_pos ⟨by rw [B_size]; omega, by decide⟩]
  exact congrArg some (split_B s 32)
theorem index_eq (x : ByteArray) : slices_Index_string_string.f (wordsL.map B) x = some (Lib.idxOfS (wordsL.map B) x) := by
  unfold slices_Index_string_string.f
  rw [if_pos (by decide)]
theorem pint_eq (l : List UInt8) (h : l.length ≤ 20000) : strconv_ParseInt_62.f (B l) 10 64 = some (numV (Lib.parseIntB 64 l) (Lib.intSat 64 l)) := by
  unfold strconv_ParseInt_62.f
  rw [if_pos ⟨by rw [B_size]; omega, rfl, rfl⟩]; rfl
theorem patoi_eq (l : List UInt8) (h : l.length ≤ 20000) : strconv_Atoi_63.f (B l) = some (numV (Lib.atoiAll l) (Lib.atoiSat l)) := by
  unfold strconv_Atoi_63.f
  rw [if_pos (by rw [B_size]; omega)]; rfl
theorem idx_wd {i : Int} (h0 : 1 ≤ i) (h1 : i ≤ 10) : Lib.idxOfS (wordsL.map B) (B (wd i)) = i := by
  have key : ∀ k : Nat, 1 ≤ k → k ≤ 10 → Lib.idxOfS (wordsL.map B) (B (wd (k : Int))) = (k : Int) := fun k hk0 hk1 => by
    have hg : ∀ j, (wordsL.map B).getD j ByteArray.empty = B (wordsL.getD j []) := fun j => rd_map wordsL (j : Int)
    have := Lib.idxOfS_hit (wordsL.map B) 11 k (B (wd (k : Int))) (by omega) (by decide) (hg k) (fun j hj e => by
      rw [hg j] at e
      have e := B_inj e
      by_cases hj0 : j = 0
      · subst hj0
        have : ∀ m : Fin 11, 1 ≤ m.val → wordsL.getD 0 [] ≠ wordsL.getD m.val [] := by decide
        exact this ⟨k, by omega⟩ hk0 e
      · have := wd_inj (i := (j : Int)) (j := (k : Int)) (by omega) (by omega) (by omega) (by omega) e
        omega)
    rwa [List.take_of_length_le (by decide)] at this
  obtain ⟨m, rfl⟩ := Int.eq_ofNat_of_zero_le (show 0 ≤ i by omega)
  exact key m (by omega) (by omega)
theorem again_ev (s : List UInt8) (hs : s.length ≤ 20000) (a b c d : Int) : Ev (fun k => (trace_line.f k a b c d).bind fun q => (if q.2 = true then (if (B s).size + 1 ≤ 9223372036854775807 then (some (a, b, c, d, (q.1.toList == ((B s) ++ (⟨#[10]⟩ : ByteArray)).toList))) else none) else (some (a, b, c, d, false)))) (a, b, c, d, decide (okE ⟨a, b, c, d⟩ ∧ s = bodyT ⟨a, b, c, d⟩)) := by
  have h := line_ev ⟨a, b, c, d⟩
  refine Ev.bind h ?_
  by_cases hok : okE ⟨a, b, c, d⟩
  · rw [if_pos hok]
    refine evp rfl (evp (by rw [B_size]; omega) ?_)
    rw [e10, B_app, B_list, B_list]
    by_cases e : s = bodyT ⟨a, b, c, d⟩
    · rw [decide_eq_true ⟨hok, e⟩, beq_iff_eq.mpr (show lineT ⟨a, b, c, d⟩ = s ++ [10] by rw [e]; rfl)]
      exact Ev.now _
    · have hne : (lineT ⟨a, b, c, d⟩ == s ++ [10]) = false := beq_eq_false_iff_ne.mpr (fun x => e (List.append_cancel_right (show bodyT ⟨a, b, c, d⟩ ++ [10] = s ++ [10] from x)).symm)
      rw [decide_eq_false (fun x => e x.2), hne]
      exact Ev.now _
  · rw [if_neg hok, decide_eq_false (fun x => hok x.1)]
    exact evn (by simp) (Ev.now _)
theorem rd4 {l : List (List UInt8)} (i : Nat) : rdOf ByteArray.empty (l.map B) (i : Int) = B (l.getD i []) := by rw [rd_map, Int.toNat_natCast]
theorem getD_len {l : List (List UInt8)} {n : Nat} (h : ∀ x ∈ l, x.length ≤ n) (i : Nat) : (l.getD i []).length ≤ n := by
  rw [List.getD_eq_getElem?_getD]
  cases hi : l[i]? with
  | none => simp
  | some x => exact h x (List.mem_of_getElem? hi)
theorem event_sound (s : List UInt8) (hs : s.length ≤ 20000) : ∃ a b c d q, Ev (fun k => trace_event.f k (B s)) (a, b, c, d, q) ∧ (q = true → okE ⟨a, b, c, d⟩ ∧ s = bodyT ⟨a, b, c, d⟩) := by
  unfold trace_event.f
  rw [split_eq s hs, words_eq]
  generalize hp : Lib.splitK [32] 0 (s.count 32) s = ps
  have hpl : ∀ x ∈ ps, x.length ≤ 20000 := fun x hx => Nat.le_trans (piece_len 32 _ s x (by rw [hp]; exact hx)) hs
  by_cases h4 : (((ps.map B).length : Nat) : Int) = 4
  · have hno : ∀ x4 x6 x8 a b c d, Ev (fun k => trace_event.j0 k (B s) x4 x6 x8 true a b c d) (0, 0, 0, 0, false) := fun x4 x6 x8 a b c d => Ev.step (fun k => by rw [trace_event.j0]) (evp rfl (Ev.now _))
    have hd : ∀ (x6 x8 x1 : Int), ∃ a b c d q, Ev (fun k => trace_event.j0 k (B s) (ps.map B) x6 x8 false 0 x1 (-1) 0) (a, b, c, d, q) ∧ (q = true → okE ⟨a, b, c, d⟩ ∧ s = bodyT ⟨a, b, c, d⟩) := fun x6 x8 x1 => by
      have e2 : rdOf ByteArray.empty (ps.map B) 2 = B (ps.getD 2 []) := rd4 2
      by_cases h2 : (rdOf ByteArray.empty (ps.map B) 2).toList = ([45] : List UInt8)
      · exact ⟨_, _, _, _, _, Ev.step (fun k => by rw [trace_event.j0]) (evn (by simp) (evp (by omega) (evp h2 (again_ev s hs x6 x1 (-1) x8)))), fun q => of_decide_eq_true q⟩
      · by_cases hb : (numV (Lib.atoiAll (ps.getD 2 [])) (Lib.atoiSat (ps.getD 2 []))).2 = true
        · refine ⟨_, _, _, _, _, Ev.step (fun k => by rw [trace_event.j0]) (evn (by simp) (evp (by omega) (evn h2 (evb (a := numV (Lib.atoiAll (ps.getD 2 [])) (Lib.atoiSat (ps.getD 2 []))) (by rw [e2]; exact patoi_eq _ (getD_len hpl 2)) (evp hb (Ev.now _)))))), fun q => by cases q⟩
        · exact ⟨_, _, _, _, _, Ev.step (fun k => by rw [trace_event.j0]) (evn (by simp) (evp (by omega) (evn h2 (evb (a := numV (Lib.atoiAll (ps.getD 2 [])) (Lib.atoiSat (ps.getD 2 []))) (by rw [e2]; exact patoi_eq _ (getD_len hpl 2)) (evn hb (again_ev s hs x6 x1 _ x8)))))), fun q => of_decide_eq_true q⟩
    have e0' : rdOf ByteArray.empty (ps.map B) 0 = B (ps.getD 0 []) := rd4 0
    have e3' : rdOf ByteArray.empty (ps.map B) 3 = B (ps.getD 3 []) := rd4 3
    have start : ∀ a b c d q, (Ev (fun k => (if (numV (Lib.parseIntB 64 (ps.getD 0 [])) (Lib.intSat 64 (ps.getD 0 []))).2 = true then (trace_event.j0 k (B s) (ps.map B) (numV (Lib.parseIntB 64 (ps.getD 0 [])) (Lib.intSat 64 (ps.getD 0 []))).1 (numV (Lib.parseIntB 64 (ps.getD 3 [])) (Lib.intSat 64 (ps.getD 3 []))).1 true 0 (Lib.idxOfS (wordsL.map B) (rdOf ByteArray.empty (ps.map B) 1)) (-1) 0) else (trace_event.j0 k (B s) (ps.map B) (numV (Lib.parseIntB 64 (ps.getD 0 [])) (Lib.intSat 64 (ps.getD 0 []))).1 (numV (Lib.parseIntB 64 (ps.getD 3 [])) (Lib.intSat 64 (ps.getD 3 []))).1 (numV (Lib.parseIntB 64 (ps.getD 3 [])) (Lib.intSat 64 (ps.getD 3 []))).2 0 (Lib.idxOfS (wordsL.map B) (rdOf ByteArray.empty (ps.map B) 1)) (-1) 0))) (a, b, c, d, q)) → Ev (fun k => (some (ps.map B)).bind fun t159 => (if (t159.length : Int) = 4 then ((some (wordsL.map B)).bind fun t162 => (if 1 < (t159.length : Int) then ((slices_Index_string_string.f t162 (rdOf ByteArray.empty t159 1)).bind fun t166 => (if 0 < (t159.length : Int) then ((strconv_ParseInt_62.f (rdOf ByteArray.empty t159 0) 10 64).bind fun bt169 => (if 3 < (t159.length : Int) then ((strconv_ParseInt_62.f (rdOf ByteArray.empty t159 3) 10 64).bind fun bt172 => (if bt169.2 = true then (trace_event.j0 k (B s) t159 bt169.1 bt172.1 true 0 t166 (-1) 0) else (trace_event.j0 k (B s) t159 bt169.1 bt172.1 bt172.2 0 t166 (-1) 0))) else (none))) else (none))) else (none))) else (some (0, 0, 0, 0, false)))) (a, b, c, d, q) := fun a b c d q h =>
      evb rfl (evp h4 (evb rfl (evp (by omega) (evb (index_eq _) (evp (by omega) (evb (by rw [e0']; exact pint_eq _ (getD_len hpl 0)) (evp (by omega) (evb (by rw [e3']; exact pint_eq _ (getD_len hpl 3)) h))))))))
    by_cases hb0 : (numV (Lib.parseIntB 64 (ps.getD 0 [])) (Lib.intSat 64 (ps.getD 0 []))).2 = true
    · exact ⟨_, _, _, _, _, start _ _ _ _ _ (evp hb0 (hno _ _ _ _ _ _ _)), fun q => by cases q⟩
    · cases hb3 : (numV (Lib.parseIntB 64 (ps.getD 3 [])) (Lib.intSat 64 (ps.getD 3 []))).2 with
      | true =>
        rw [hb3] at start
        exact ⟨_, _, _, _, _, start _ _ _ _ _ (evn hb0 (hno _ _ _ _ _ _ _)), fun q => by cases q⟩
      | false =>
        rw [hb3] at start
        obtain ⟨a, b, c, d, q, h1, h2⟩ := hd (numV (Lib.parseIntB 64 (ps.getD 0 [])) (Lib.intSat 64 (ps.getD 0 []))).1 (numV (Lib.parseIntB 64 (ps.getD 3 [])) (Lib.intSat 64 (ps.getD 3 []))).1 (Lib.idxOfS (wordsL.map B) (rdOf ByteArray.empty (ps.map B) 1))
        exact ⟨a, b, c, d, q, start _ _ _ _ _ (evn hb0 h1), h2⟩
  · exact ⟨_, _, _, _, _, evb rfl (evn h4 (Ev.now _)), fun q => by cases q⟩
theorem event_whole {e : En} (h : okE e) : Ev (fun k => trace_event.f k (B (bodyT e))) (e.f0, e.f1, e.f2, e.f3, true) := by
  have hs : (bodyT e).length ≤ 20000 := by have := body_len h; omega
  have hm : okE ⟨e.f0, e.f1, e.f2, e.f3⟩ ∧ bodyT e = bodyT ⟨e.f0, e.f1, e.f2, e.f3⟩ := ⟨h, rfl⟩
  unfold trace_event.f
  rw [split_eq _ hs, words_eq, body_count h, body_split h 0]
  have e0' : rdOf ByteArray.empty ((Lib.itoa e.f0 :: wd e.f1 :: tk e :: Lib.splitK [32] 0 0 (Lib.itoa e.f3)).map B) 0 = B (Lib.itoa e.f0) := rfl
  have e1' : rdOf ByteArray.empty ((Lib.itoa e.f0 :: wd e.f1 :: tk e :: Lib.splitK [32] 0 0 (Lib.itoa e.f3)).map B) 1 = B (wd e.f1) := rfl
  have e2' : rdOf ByteArray.empty ((Lib.itoa e.f0 :: wd e.f1 :: tk e :: Lib.splitK [32] 0 0 (Lib.itoa e.f3)).map B) 2 = B (tk e) := rfl
  have e3' : rdOf ByteArray.empty ((Lib.itoa e.f0 :: wd e.f1 :: tk e :: Lib.splitK [32] 0 0 (Lib.itoa e.f3)).map B) 3 = B (Lib.itoa e.f3) := rfl
  have p : ∀ n : Int, 0 ≤ n → n ≤ 1099511627776 → strconv_ParseInt_62.f (B (Lib.itoa n)) 10 64 = some (n, false) := fun n h0 h1 => by
    obtain ⟨m, rfl⟩ := Int.eq_ofNat_of_zero_le h0
    rw [itoa_nat]
    have hl := dd_len13 (n := m) (by omega)
    rw [pint_eq _ (by omega), parse_dd (by omega)]; rfl
  have l4 : (((Lib.itoa e.f0 :: wd e.f1 :: tk e :: Lib.splitK [32] 0 0 (Lib.itoa e.f3)).map B).length : Int) = 4 := rfl
  generalize hps : (Lib.itoa e.f0 :: wd e.f1 :: tk e :: Lib.splitK [32] 0 0 (Lib.itoa e.f3)).map B = ps at e0' e1' e2' e3' l4
  have hag := again_ev (bodyT e) hs e.f0 e.f1 e.f2 e.f3
  rw [decide_eq_true hm] at hag
  have hj : Ev (fun k => trace_event.j0 k (B (bodyT e)) ps e.f0 e.f3 false 0 e.f1 (-1) 0) (e.f0, e.f1, e.f2, e.f3, true) := by
    refine Ev.step (fun k => by rw [trace_event.j0]) (evn (by simp) (evp (by omega) ?_))
    rw [e2', B_list]
    by_cases c : e.f1 = 10
    · have h5 := h.2.2.2
      rw [if_pos c] at h5
      rw [h5] at hag
      rw [h5]
      exact evp (by unfold tk; rw [if_pos c]) hag
    · have h5 := h.2.2.2
      rw [if_neg c] at h5
      have htk : tk e = Lib.itoa e.f2 := by unfold tk; rw [if_neg c]
      rw [htk]
      refine evn (fun z => ?_) (evb (a := (e.f2, false)) ?_ (evn (by simp) hag))
      · have := it_isD h5.1 45 (by rw [z]; exact List.mem_singleton.mpr rfl)
        exact absurd this (by unfold isD; decide)
      · obtain ⟨m, hm2⟩ := Int.eq_ofNat_of_zero_le h5.1
        rw [hm2, itoa_nat, patoi_eq _ (by have := dd_len13 (n := m) (by omega); omega), atoi_dd (by omega)]; rfl
  refine evb rfl (evp l4 (evb rfl (evp (by omega) (evb (by rw [e1', index_eq, idx_wd h.2.2.1.1 h.2.2.1.2]) (evp (by omega) (evb (by rw [e0', p _ h.1.1 h.1.2]) (evp (by omega) (evb (by rw [e3', p _ h.2.1.1 h.2.1.2]) (evn (by simp) hj)))))))))
theorem is_no (a b c d : Int) : Ev (fun k => taskmasterref26_Is.j0 k true a b c d) false := Ev.step (fun k => by rw [taskmasterref26_Is.j0]) (evp rfl (Ev.now _))
theorem is_ev (e : En) : Ev (fun k => taskmasterref26_Is.f k e.f0 e.f1 e.f2 e.f3) (decide (okE e)) := by
  unfold taskmasterref26_Is.f
  by_cases h0 : e.f0 < 0
  · rw [decide_eq_false (fun x : okE e => by have := x.1.1; omega)]; exact evp h0 (is_no _ _ _ _)
  refine evn h0 ?_
  by_cases h1 : e.f0 > 1099511627776
  · rw [decide_eq_false (fun x : okE e => by have := x.1.2; omega)]; exact evp h1 (is_no _ _ _ _)
  refine evn h1 ?_
  by_cases h2 : e.f3 < 0
  · rw [decide_eq_false (fun x : okE e => by have := x.2.1.1; omega)]; exact evp h2 (is_no _ _ _ _)
  refine evn h2 ?_
  by_cases h3 : e.f3 > 1099511627776
  · rw [decide_eq_false (fun x : okE e => by have := x.2.1.2; omega)]; exact evp h3 (is_no _ _ _ _)
  refine evn h3 ?_
  by_cases h4 : e.f1 < 1
  · rw [decide_eq_false (fun x : okE e => by have := x.2.2.1.1; omega)]; exact evp h4 (is_no _ _ _ _)
  refine evn h4 ?_
  by_cases h5 : e.f1 > 10
  · rw [decide_eq_true h5, decide_eq_false (fun x : okE e => by have := x.2.2.1.2; omega)]; exact is_no _ _ _ _
  rw [decide_eq_false h5]
  refine Ev.step (fun k => by rw [taskmasterref26_Is.j0]) (evn (by simp) ?_)
  have hi : okE e ↔ (if e.f1 = 10 then e.f2 = -1 else 0 ≤ e.f2 ∧ e.f2 < 8) := ⟨fun x => x.2.2.2, fun x => ⟨⟨by omega, by omega⟩, ⟨by omega, by omega⟩, ⟨by omega, by omega⟩, x⟩⟩
  by_cases h6 : e.f1 = 10
  · refine evp h6 ?_
    rw [if_pos h6] at hi
    rw [decide_eq_decide.mpr hi]
    exact Ev.now _
  · refine evn h6 ?_
    rw [if_neg h6] at hi
    by_cases h7 : e.f2 ≥ 0
    · refine evp h7 ?_
      rw [decide_eq_decide.mpr (hi.trans (show (0 ≤ e.f2 ∧ e.f2 < 8) ↔ e.f2 < 8 from ⟨fun x => x.2, fun x => ⟨h7, x⟩⟩))]
      exact Ev.now _
    · rw [decide_eq_false (fun x => h7 (hi.mp x).1)]
      exact evn h7 (Ev.now _)
theorem dig_ev {n : Int} (h0 : 0 ≤ n) (h1 : n ≤ 1099511627776) : Ev (fun k => taskmasterref7_Digits.f k n) (B (Lib.itoa n)) := by
  obtain ⟨m, rfl⟩ := Int.eq_ofNat_of_zero_le h0
  rw [itoa_nat]; exact digits_ev m (by omega)
theorem rdE {l : List En} {i : Nat} (h : i < l.length) : l.drop i = rd_T44 l (i : Int) :: l.drop (i + 1) := by
  rw [List.drop_eq_getElem_cons h]
  unfold rd_T44
  rw [Int.toNat_natCast, List.getD_eq_getElem?_getD, List.getElem?_eq_getElem h]; rfl
theorem rtext_l0 (l : List En) (hl : l.length ≤ 100000) (d : Nat) : ∀ (i : Nat) (acc : List UInt8), i + d = l.length → acc.length ≤ 61 * i →
    (allE (l.drop i) → Ev (fun k => taskmasterref26_Text.l0 k l (B acc) (wordsL.map B) (i : Int)) (B (acc ++ flat (l.drop i)), true)) ∧ (¬ allE (l.drop i) → Ev (fun k => taskmasterref26_Text.l0 k l (B acc) (wordsL.map B) (i : Int)) (B [], false)) := by
  induction d with
  | zero =>
    intro i acc hi ha
    have hz : l.drop i = [] := List.drop_of_length_le (by omega)
    rw [hz]
    refine ⟨fun _ => Ev.step (fun k => by rw [taskmasterref26_Text.l0]) (evn (by omega) ?_), fun h => absurd (fun e he => by cases he) h⟩
    rw [show acc ++ flat [] = acc from List.append_nil acc]
    exact Ev.now _
  | succ d ih =>
    intro i acc hi ha
    have hil : i < l.length := by omega
    rw [rdE hil]
    generalize hx : rd_T44 l (i : Int) = x
    by_cases h : okE x
    · have hle := line_len h
      have ih := ih (i + 1) (acc ++ lineT x) (by omega) (by rw [List.length_append]; omega)
      have next : ∀ r, Ev (fun k => taskmasterref26_Text.l0 k l (B (acc ++ lineT x)) (wordsL.map B) ((i + 1 : Nat) : Int)) r → Ev (fun k => taskmasterref26_Text.l0 k l (B acc) (wordsL.map B) (i : Int)) r := fun r hr => by
        rw [← wi (by omega)] at hr
        have h1 := it_len13 h.1.1 h.1.2
        have h2 := it_len13 h.2.1.1 h.2.1.2
        have h3 := wd_len h.2.2.1.1 h.2.2.1.2
        have h4 := h.2.2.1
        have hw : rdOf ByteArray.empty (wordsL.map B) x.f1 = B (wd x.f1) := rd_map _ _
        have hlt : x.f1 < (((wordsL.map B).length : Nat) : Int) := by show x.f1 < 11; omega
        have hge : 0 ≤ x.f1 := by omega
        refine Ev.step (fun k => by rw [taskmasterref26_Text.l0]) (evp (by omega) (evp (by omega) ?_))
        rw [hx]
        have hi_ := is_ev x
        rw [decide_eq_true h] at hi_
        refine Ev.bind hi_ (evp rfl ?_)
        by_cases c : x.f1 = 10
        · refine evp c (Ev.bind (dig_ev h.1.1 h.1.2) ?_)
          simp only [hw, e32, e10, e45, B_app, B_size]
          refine evp (by (try simp only [List.length_append, List.length_cons, List.length_nil]); omega) (evp (by (try simp only [List.length_append, List.length_cons, List.length_nil]); omega) (evp hge (evp hlt (evp (by (try simp only [List.length_append, List.length_cons, List.length_nil]); omega) (evp (by (try simp only [List.length_append, List.length_cons, List.length_nil]); omega) (evp (by (try simp only [List.length_append, List.length_cons, List.length_nil]); omega) (evp (by (try simp only [List.length_append, List.length_cons, List.length_nil]); omega) (Ev.bind (dig_ev h.2.1.1 h.2.1.2) ?_))))))))
          simp only [B_app, B_size]
          refine evp (by (try simp only [List.length_append, List.length_cons, List.length_nil]); omega) (evp (by (try simp only [List.length_append, List.length_cons, List.length_nil]); omega) ?_)
          have e_ : ((((((((acc ++ Lib.itoa x.f0) ++ [32]) ++ wd x.f1) ++ [32]) ++ [45]) ++ [32]) ++ Lib.itoa x.f3) ++ [10]) = acc ++ lineT x := by simp [lineT, bodyT, tk, c]
          rw [e_]; exact hr
        · have h5 := h.2.2.2
          rw [if_neg c] at h5
          have h6 := it_len13 h5.1 (by omega)
          refine evn c (Ev.bind (dig_ev h5.1 (by omega)) (Ev.bind (dig_ev h.1.1 h.1.2) ?_))
          simp only [hw, e32, e10, e45, B_app, B_size]
          refine evp (by (try simp only [List.length_append, List.length_cons, List.length_nil]); omega) (evp (by (try simp only [List.length_append, List.length_cons, List.length_nil]); omega) (evp hge (evp hlt (evp (by (try simp only [List.length_append, List.length_cons, List.length_nil]); omega) (evp (by (try simp only [List.length_append, List.length_cons, List.length_nil]); omega) (evp (by (try simp only [List.length_append, List.length_cons, List.length_nil]); omega) (evp (by (try simp only [List.length_append, List.length_cons, List.length_nil]); omega) (Ev.bind (dig_ev h.2.1.1 h.2.1.2) ?_))))))))
          simp only [B_app, B_size]
          refine evp (by (try simp only [List.length_append, List.length_cons, List.length_nil]); omega) (evp (by (try simp only [List.length_append, List.length_cons, List.length_nil]); omega) ?_)
          have e_ : ((((((((acc ++ Lib.itoa x.f0) ++ [32]) ++ wd x.f1) ++ [32]) ++ Lib.itoa x.f2) ++ [32]) ++ Lib.itoa x.f3) ++ [10]) = acc ++ lineT x := by simp [lineT, bodyT, tk, c]
          rw [e_]; exact hr
      refine ⟨fun ha => ?_, fun ha => ?_⟩
      · have := next _ (ih.1 (fun y hy => ha y (List.mem_cons_of_mem _ hy)))
        rw [flat_cons, ← List.append_assoc]; exact this
      · exact next _ (ih.2 (fun z => ha (fun y hy => by
          rcases List.mem_cons.mp hy with rfl | hy
          · exact h
          · exact z y hy)))
    · refine ⟨fun ha => absurd (ha x List.mem_cons_self) h, fun _ => ?_⟩
      refine Ev.step (fun k => by rw [taskmasterref26_Text.l0]) (evp (by omega) (evp (by omega) ?_))
      rw [hx]
      have hi_ := is_ev x
      rw [decide_eq_false h] at hi_
      exact Ev.bind hi_ (evn (by simp) (Ev.now _))
theorem rtext_ev (l : List En) (hl : l.length ≤ 100000) : (allE l → Ev (fun k => taskmasterref26_Text.f k l) (B (flat l), true)) ∧ (¬ allE l → Ev (fun k => taskmasterref26_Text.f k l) (B [], false)) := by
  have h := rtext_l0 l hl l.length 0 [] (by omega) (by simp)
  rw [List.drop_zero] at h
  unfold taskmasterref26_Text.f
  exact ⟨fun ha => evb rwords_eq (h.1 ha), fun ha => evb rwords_eq (h.2 ha)⟩
end Go.Proofs.YtkdndgclldlddaaDoor.Pure
namespace Go.Proofs.YtkdndgclldlddaaDoor.QTr
open Go.RowKit Go.Proofs.YtkdndgclldlddaaDoorW.PrintWords Go.Proofs.YtkdndgclldlddaaDoorW.PrintLast Go.Proofs.YtkdndgclldlddaaDoorW.PrintMore
attribute [local go_sem] max2_int min2_int max_two min_two max_three min_three max_four min_four
set_option linter.unusedVariables false
set_option linter.unusedSimpArgs false

end Go.Proofs.YtkdndgclldlddaaDoor.QTr
namespace Go.Proofs.YtkdndgclldlddaaDoor.Pure
open Go.RowKit Go.Proofs.YtkdndgclldlddaaDoor.QTr Go.Proofs.YtkdndgclldlddaaDoorW.PrintWords Go.Proofs.YtkdndgclldlddaaDoorW.PrintLast Go.Proofs.YtkdndgclldlddaaDoorW.PrintMore
set_option linter.unusedVariables false
set_option linter.unusedSimpArgs false
def Canon (l : List En) (s : List UInt8) : Prop := allE l ∧ s = flat l
theorem flat_cons' (e : En) (l : List En) : flat (e :: l) = bodyT e ++ 10 :: flat l := by rw [flat_cons, lineT, List.append_assoc]; rfl
theorem canon_nil {s : List UInt8} (h : Canon [] s) : s = [] := h.2
theorem canon_cons {l : List En} {a r : List UInt8} (hn : (10 : UInt8) ∉ a) (h : Canon l (a ++ 10 :: r)) : ∃ e l', l = e :: l' ∧ okE e ∧ a = bodyT e ∧ Canon l' r := by
  cases l with
  | nil => have := canon_nil h; simp at this
  | cons e l' =>
    have he := h.1 e List.mem_cons_self
    have h2 := h.2
    rw [flat_cons'] at h2
    obtain ⟨h3, h4⟩ := cut_uniq hn (body_not10 he) h2
    exact ⟨e, l', rfl, he, h3, fun x hx => h.1 x (List.mem_cons_of_mem _ hx), h4⟩
theorem canon_no {l : List En} {s : List UInt8} (hs : s ≠ []) (hn : (10 : UInt8) ∉ s) : ¬ Canon l s := fun h => by
  cases l with
  | nil => exact hs (canon_nil h)
  | cons e l' =>
    have h2 := h.2
    rw [flat_cons'] at h2
    exact hn (by rw [h2]; simp)
theorem body_inj {e e' : En} (h : okE e) (h' : okE e') (he : bodyT e = bodyT e') : e = e' := by
  have h1 := event_whole h
  have h2 := event_whole h'
  rw [← he] at h2
  have := ev_uniq h1 h2
  simp only [Prod.mk.injEq] at this
  obtain ⟨a, b, c, d⟩ := e
  obtain ⟨a', b', c', d'⟩ := e'
  simp only at this
  obtain ⟨rfl, rfl, rfl, rfl, _⟩ := this
  rfl
theorem canon_uniq : ∀ {l l' : List En} {s : List UInt8}, Canon l s → Canon l' s → l = l'
  | [], l', s, h, h' => by
    have hs := canon_nil h
    subst hs
    cases l' with
    | nil => rfl
    | cons e t => have := h'.2; rw [flat_cons'] at this; simp at this
  | e :: t, l', s, h, h' => by
    have he := h.1 e List.mem_cons_self
    have hs := h.2
    rw [flat_cons'] at hs
    subst hs
    obtain ⟨e', t', rfl, he', hb, ht'⟩ := canon_cons (body_not10 he) h'
    have ht : Canon t (flat t) := ⟨fun x hx => h.1 x (List.mem_cons_of_mem _ hx), rfl⟩
    rw [body_inj he he' hb, canon_uniq ht ht']
theorem cut_eq (s : List UInt8) (h : s.length ≤ 20000) : strings_Cut.f (B s) (⟨#[10]⟩ : ByteArray) = some (B (Lib.cut s [10]).1, B (Lib.cut s [10]).2.1, (Lib.cut s [10]).2.2) := by
  unfold strings_Cut.f
  rw [if_pos (by rw [B_size]; omega)]; rfl
theorem read_l0 : ∀ (n : Nat) (s : List UInt8) (acc : List En), s.length ≤ n → n ≤ 20000 → acc.length + n ≤ 100000 →
    (∃ l, Canon l s ∧ Ev (fun k => trace_Read.l0 k (B s) acc) (acc ++ l, true)) ∨ ((∀ l, ¬ Canon l s) ∧ Ev (fun k => trace_Read.l0 k (B s) acc) ([], false)) := by
  intro n
  induction n with
  | zero =>
    intro s acc hs _ _
    have hz : s = [] := List.length_eq_zero_iff.mp (by omega)
    subst hz
    exact Or.inl ⟨[], ⟨fun e he => (by cases he), rfl⟩, Ev.step (fun k => by rw [trace_Read.l0]) (evp (B_list []) (by rw [List.append_nil]; exact Ev.now _))⟩
  | succ n ih =>
    intro s acc hs hn ha
    by_cases hz : s = []
    · subst hz
      exact Or.inl ⟨[], ⟨fun e he => (by cases he), rfl⟩, Ev.step (fun k => by rw [trace_Read.l0]) (evp (B_list []) (by rw [List.append_nil]; exact Ev.now _))⟩
    have hz' : ¬ (B s).toList = ([] : List UInt8) := by rw [B_list]; exact hz
    by_cases h10 : (10 : UInt8) ∈ s
    · obtain ⟨a, r, rfl, hna⟩ := has_cut s 10 h10
      rw [List.length_append, List.length_cons] at hs
      have hcut := cut_eq (a ++ 10 :: r) (by rw [List.length_append, List.length_cons]; omega)
      rw [cut_at hna] at hcut
      obtain ⟨x0, x1, x2, x3, q, hev, hq⟩ := event_sound a (by omega)
      cases q with
      | true =>
        obtain ⟨hok, hb⟩ := hq rfl
        have step : ∀ z, Ev (fun k => trace_Read.l0 k (B r) (acc ++ [⟨x0, x1, x2, x3⟩])) z → Ev (fun k => trace_Read.l0 k (B (a ++ 10 :: r)) acc) z := fun z hz =>
          Ev.step (fun k => by rw [trace_Read.l0]) (evn hz' (evb hcut (evp rfl (Ev.bind hev (evp (show (x0, x1, x2, x3, true).2.2.2.2 = true from rfl) (evp (show acc.length < 4398046511104 by omega) hz))))))
        rcases ih r (acc ++ [⟨x0, x1, x2, x3⟩]) (by omega) (by omega) (by rw [List.length_append]; simp; omega) with ⟨l, hl, he⟩ | ⟨hno, he⟩
        · refine Or.inl ⟨⟨x0, x1, x2, x3⟩ :: l, ⟨fun x hx => ?_, ?_⟩, ?_⟩
          · rcases List.mem_cons.mp hx with rfl | hx
            · exact hok
            · exact hl.1 x hx
          · rw [flat_cons', ← hb, ← hl.2]
          · have := step _ he
            rw [List.append_assoc] at this
            exact this
        · refine Or.inr ⟨fun l hl => ?_, step _ he⟩
          obtain ⟨e, l', _, _, _, hr⟩ := canon_cons hna hl
          exact hno l' hr
      | false =>
        have hfin : Ev (fun k => trace_Read.l0 k (B (a ++ 10 :: r)) acc) ([], false) := by
          refine Ev.step (fun k => by rw [trace_Read.l0]) (evn hz' (evb hcut (evp rfl ?_)))
          refine Ev.bind hev ?_
          refine evn Bool.false_ne_true ?_
          exact Ev.now _
        refine Or.inr ⟨fun l hl => ?_, hfin⟩
        obtain ⟨e, l', _, hok, hb, _⟩ := canon_cons hna hl
        subst hb
        have := ev_uniq hev (event_whole hok)
        simp at this
    · have hcut := cut_eq s (by omega)
      rw [cut_no h10] at hcut
      exact Or.inr ⟨fun l => canon_no hz h10, Ev.step (fun k => by rw [trace_Read.l0]) (evn hz' (evb hcut (evn Bool.false_ne_true (Ev.now _))))⟩
theorem read_ev (s : List UInt8) (hs : s.length ≤ 20000) : (∃ l, Canon l s ∧ Ev (fun k => trace_Read.f k (B s)) (l, true)) ∨ ((∀ l, ¬ Canon l s) ∧ Ev (fun k => trace_Read.f k (B s)) ([], false)) := by
  have h := read_l0 s.length s [] (Nat.le_refl _) hs (by simp; omega)
  simp only [List.nil_append] at h
  exact h
theorem read_whole {l : List En} {s : List UInt8} (hs : s.length ≤ 20000) (h : Canon l s) : Ev (fun k => trace_Read.f k (B s)) (l, true) := by
  rcases read_ev s hs with ⟨l', h1, h2⟩ | ⟨h1, _⟩
  · rw [canon_uniq h h1]; exact h2
  · exact absurd h (h1 l)
theorem same_l0 (l : List En) (hl : l.length ≤ 100000) (d : Nat) : ∀ i, i + d = l.length → Ev (fun k => taskmasterref25_Same.l0 k l l (i : Int)) true := by
  induction d with
  | zero => intro i hi; exact Ev.step (fun k => by rw [taskmasterref25_Same.l0]) (evn (by omega) (Ev.now _))
  | succ d ih =>
    intro i hi
    have next := ih (i + 1) (by omega)
    rw [← wi (by omega)] at next
    exact Ev.step (fun k => by rw [taskmasterref25_Same.l0]) (evp (by omega) (evp (by omega) (evp (by omega) (evn (by simp) next))))
theorem same_ev (l : List En) (hl : l.length ≤ 100000) : Ev (fun k => taskmasterref25_Same.f k l l) true := by
  unfold taskmasterref25_Same.f
  exact evp rfl (same_l0 l hl l.length 0 (by omega))
theorem it_small {n : Nat} (h : n < 10) : Lib.itoa (n : Int) = [UInt8.ofNat (48 + n)] := by rw [itoa_nat, Lib.decDigits_one h]
theorem known_eq : taskmasterlaw26_known.f = some true := by
  have h : allE [⟨3, 4, 1, 0⟩] := fun e he => by
    rw [List.mem_singleton.mp he]
    exact ⟨⟨by decide, by decide⟩, ⟨by decide, by decide⟩, ⟨by decide, by decide⟩, by decide⟩
  have e3 : Lib.itoa 3 = [51] := it_small (n := 3) (by decide)
  have e1 : Lib.itoa 1 = [49] := it_small (n := 1) (by decide)
  have e0_ : Lib.itoa 0 = [48] := it_small (n := 0) (by decide)
  have hf : flat [⟨3, 4, 1, 0⟩] = [51, 32, 115, 116, 97, 114, 116, 32, 49, 32, 48, 10] := by
    rw [flat_cons']
    unfold bodyT tk
    rw [if_neg (by decide)]
    simp only [e3, e1, e0_]
    rfl
  unfold taskmasterlaw26_known.f
  rw [(text_eq [⟨3, 4, 1, 0⟩] (by decide)).1 h]
  simp only [Option.bind_some]
  rw [if_pos trivial, B_list, hf]
  rfl
end Go.Proofs.YtkdndgclldlddaaDoor.Pure
namespace Go.Proofs.YtkdndgclldlddaaDoor.QTr
open Go.RowKit Go.Proofs.YtkdndgclldlddaaDoorW.PrintWords Go.Proofs.YtkdndgclldlddaaDoorW.PrintLast Go.Proofs.YtkdndgclldlddaaDoorW.PrintMore
attribute [local go_sem] max2_int min2_int max_two min_two max_three min_three max_four min_four
set_option linter.unusedVariables false
set_option linter.unusedSimpArgs false

end Go.Proofs.YtkdndgclldlddaaDoor.QTr
namespace Go.Proofs.YtkdndgclldlddaaDoor.Open
open Go.RowKit Go.Proofs.YtkdndgclldlddaaDoorW.PrintWords Go.Proofs.YtkdndgclldlddaaDoorW.PrintLast Go.WideShapes
set_option linter.unusedVariables false
structure Opens (P : Program) {α : Type} (k : Kd α) (t : TypeId) (W : α → Prop) : Prop where
  out : ∀ {H : Type} {enc : TypeId × Value → H} {w : World} {base : Nat} {spare : Nat → Bool} {held : Bool} {fuel : Nat} {cs : List Value} {x : DataW H × List MemPlace},
    DataW.trod enc P w base spare held fuel t cs = some x → ∃ a : α, k.K w a cs ∧ W a
theorem opens_int {P : Program} {t : TypeId} {k : IntKind} (ht : P.underlying t = some (.int k)) : Opens P (Kd.int k) t (fun n => (Lit.int k n).wf = true) := by
  refine ⟨fun {H enc w base spare held fuel cs x} h => ?_⟩
  obtain ⟨n, rfl, _, hw⟩ := DataW.trod_int ht h
  exact ⟨n, rfl, hw⟩
theorem addr_add (a : Addr) (i j : Nat) : (a.add i).add j = a.add (i + j) := Go.Deep.add_add a i j
theorem opens_slice {P : Program} {α : Type} [Inhabited α] {d : Kd α} {t e : TypeId} {W : α → Prop} (ht : P.underlying t = some (.slice e)) (hs : P.cellsOf e = d.sz) (hd : Opens P d e W) :
    Opens P (Kd.slice e d) t (fun xs => ∀ x ∈ xs, W x) := by
  refine ⟨fun {H enc w base spare held fuel cs x} h => ?_⟩
  rcases Go.Deep.open_slice ht h with ⟨rfl, _⟩ | ⟨a, len, cap, m, n, D, Pl, rfl, hb, hl, hc, hm, _, hel⟩
  · exact ⟨[], ⟨none, 0, rfl, Nat.le_refl _, rfl, Nat.zero_le _, fun h => absurd h (Nat.lt_irrefl _)⟩, fun x hx => absurd hx (List.not_mem_nil)⟩
  · have hlm : len ≤ m := by rw [hm]; split <;> omega
    have each : ∀ i, i < len → ∃ y : α, (∃ cs', w.cells? base (a.add (i * P.cellsOf e)) (P.cellsOf e) = some cs' ∧ d.K w y cs') ∧ W y := fun i hi => by
      obtain ⟨cs', h1, h2⟩ := hel i (by omega)
      obtain ⟨y, hy, hw⟩ := hd.out h2
      exact ⟨y, ⟨cs', h1, hy⟩, hw⟩
    obtain ⟨f, hf⟩ := Go.Deep.choose_lt each
    have hlen : ((List.range len).map f).length = len := by simp
    refine ⟨(List.range len).map f, ⟨some a, cap, by rw [hlen], by rw [hlen]; exact hl, rfl, ?_, ?_⟩, ?_⟩
    · rw [hlen]; unfold maxLen at hc; omega
    · intro _
      refine ⟨a, rfl, fun j p hp => ?_⟩
      obtain ⟨hj, rfl⟩ := List.getElem?_eq_some_iff.1 hp
      rw [hlen] at hj
      obtain ⟨⟨cs', h1, h2⟩, _⟩ := hf j hj
      obtain ⟨_, h4, h5⟩ := World.cells?_some h1
      refine ⟨cs', by rw [h4, hs], by simpa using h2, fun i u hu => ?_⟩
      have hi : i < cs'.length := by
        by_cases q : i < cs'.length
        · exact q
        · rw [List.getElem?_eq_none (by omega)] at hu; cases hu
      have := h5 i (by omega)
      rw [addr_add, hs] at this
      rw [this]; exact hu
    · intro x hx
      obtain ⟨i, hi, rfl⟩ := List.mem_map.1 hx
      exact (hf i (List.mem_range.1 hi)).2
structure OpensFrom (P : Program) (fs : Array Field) (i : Nat) (off : Nat) {α : Type} (k : Kd α) (W : α → Prop) : Prop where
  out : ∀ {H : Type} {enc : TypeId × Value → H} {w : World} {base : Nat} {spare : Nat → Bool} {held : Bool} {n : Nat} {cs : List Value} {xs : List (DataW H × List MemPlace)},
    xs.length = fs.size → cs.length = off + k.sz →
    (∀ (j : Nat) (f : Field), fs[j]? = some f → DataW.trod enc P w base spare held n f.type ((cs.drop f.offset).take (P.cellsOf f.type)) = xs[j]?) → ∃ a : α, k.K w a (cs.drop off) ∧ W a
theorem opensFrom_last {P : Program} {fs : Array Field} {i off : Nat} {α : Type} {k : Kd α} {W : α → Prop} (f : Field) (hf : fs[i]? = some f) (ho : f.offset = off) (hs : P.cellsOf f.type = k.sz) (hd : Opens P k f.type W) : OpensFrom P fs i off k W := by
  refine ⟨fun {H enc w base spare held n cs xs} hx hl h => ?_⟩
  have hi : i < xs.length := by
    rw [hx]
    by_cases q : i < fs.size
    · exact q
    · rw [Array.getElem?_eq_none (by omega)] at hf; cases hf
  have h1 := h i f hf
  rw [List.getElem?_eq_getElem hi, ho, hs, List.take_of_length_le (by simp; omega)] at h1
  exact hd.out h1
theorem opensFrom_cons {P : Program} {fs : Array Field} {i off : Nat} {α β : Type} {k : Kd α} {l : Kd β} {W : α → Prop} {V : β → Prop} (f : Field) (hf : fs[i]? = some f) (ho : f.offset = off) (hs : P.cellsOf f.type = k.sz)
    (hd : Opens P k f.type W) (hr : OpensFrom P fs (i + 1) (off + k.sz) l V) : OpensFrom P fs i off (Kd.pair k l) (fun x => W x.1 ∧ V x.2) := by
  refine ⟨fun {H enc w base spare held n cs xs} hx hl h => ?_⟩
  have hi : i < xs.length := by
    rw [hx]
    by_cases q : i < fs.size
    · exact q
    · rw [Array.getElem?_eq_none (by omega)] at hf; cases hf
  have hl' : cs.length = off + (k.sz + l.sz) := hl
  have h1 := h i f hf
  rw [List.getElem?_eq_getElem hi, ho, hs] at h1
  obtain ⟨a, ka, wa⟩ := hd.out h1
  obtain ⟨b, kb, wb⟩ := hr.out hx (by omega) h
  refine ⟨(a, b), ⟨_, _, ?_, ka, kb⟩, wa, wb⟩
  rw [← List.drop_drop, List.take_append_drop]
theorem opens_struct {P : Program} {t : TypeId} {fs : Array Field} {α β : Type} {k : Kd α} {g : β → α} {W : α → Prop} {V : β → Prop} (ht : P.underlying t = some (.struct fs)) (hs : P.cellsOf t = k.sz) (hd : OpensFrom P fs 0 0 k W)
    (inv : α → β) (hg : ∀ a, g (inv a) = a) (hW : ∀ a, W a → V (inv a)) : Opens P (Kd.iso k g) t V := by
  refine ⟨fun {H enc w base spare held fuel cs x} h => ?_⟩
  obtain ⟨xs, n, _, _, hl, hx, hall⟩ := DataW.trod_struct ht h
  obtain ⟨a, ka, wa⟩ := hd.out hx (by rw [hl, hs]; omega) hall
  exact ⟨inv a, by show k.K w (g (inv a)) cs; rw [hg]; simpa using ka, hW a wa⟩
theorem arg_slice {P : Program} {H : Type} {enc : TypeId × Value → H} {w : World} {base : Nat} {spare : Nat → Bool} {held : Bool} {α : Type} {d : Kd α} {t e : TypeId} {W : List α → Prop} {v : Value} {x : DataW H} {ps : List MemPlace} {r : Reach} {b0 : Nat}
    (ht : P.underlying t = some (.slice e)) (hv : Value.okWide P w r b0 t v) (ho : Opens P (Kd.slice e d) t W) (h : DataW.Trod enc P w base spare held t v x ps) :
    ∃ (A : Option Addr) (c : Nat) (xs : List α), v = .slice A xs.length c ∧ xs.length ≤ c ∧ Kd.C d w A xs.length xs ∧ W xs := by
  obtain ⟨fuel, hf⟩ := h
  obtain ⟨a, len, cap, rfl⟩ := okWide_slice ht hv
  obtain ⟨xs, ⟨A, c, e1, h1, h2⟩, hw⟩ := ho.out hf
  have e2 : ([.slice a len cap] : List Value) = [.slice A xs.length c] := e1
  injection e2 with e2
  exact ⟨A, c, xs, e2, h1, h2, hw⟩
end Go.Proofs.YtkdndgclldlddaaDoor.Open
namespace Go.Proofs.YtkdndgclldlddaaDoor.QTr
open Go.RowKit Go.Proofs.YtkdndgclldlddaaDoorW.PrintWords Go.Proofs.YtkdndgclldlddaaDoorW.PrintLast Go.Proofs.YtkdndgclldlddaaDoor.Open
set_option linter.unusedVariables false
instance : Inhabited S44 := ⟨z44⟩
def wf44 (x : S44) : Prop := ((Lit.int .i64 x.f0).wf = true) ∧ ((Lit.int .i64 x.f1).wf = true) ∧ ((Lit.int .i64 x.f2).wf = true) ∧ ((Lit.int .i64 x.f3).wf = true)
theorem opens44 : Opens Tryd.prog k44 44 wf44 :=
  opens_struct Tryd.underlying44 (by kernel_rfl) (opensFrom_cons _ rfl rfl (by kernel_rfl) (opens_int Tryd.underlying2) (opensFrom_cons _ rfl rfl (by kernel_rfl) (opens_int Tryd.underlying3) (opensFrom_cons _ rfl rfl (by kernel_rfl) (opens_int Tryd.underlying3) (opensFrom_last _ rfl rfl (by kernel_rfl) (opens_int Tryd.underlying2))))) (fun a => ⟨a.1, a.2.1, a.2.2.1, a.2.2.2⟩) (fun _ => rfl) (fun _ h => h)
end Go.Proofs.YtkdndgclldlddaaDoor.QTr
namespace Go.Proofs.YtkdndgclldlddaaDoor.Pure
open Go.RowKit Go.Proofs.YtkdndgclldlddaaDoor.QTr Go.Proofs.YtkdndgclldlddaaDoorW.PrintWords Go.Proofs.YtkdndgclldlddaaDoorW.PrintLast Go.Proofs.YtkdndgclldlddaaDoorW.PrintMore
set_option linter.unusedVariables false
set_option linter.unusedSimpArgs false
theorem allE_app {a b : List En} : allE (a ++ b) ↔ allE a ∧ allE b := by
  unfold allE
  constructor
  · exact fun h => ⟨fun e he => h e (List.mem_append_left _ he), fun e he => h e (List.mem_append_right _ he)⟩
  · rintro ⟨h1, h2⟩ e he
    rcases List.mem_append.mp he with he | he
    · exact h1 e he
    · exact h2 e he
theorem flat_app (a b : List En) : flat (a ++ b) = flat a ++ flat b := by simp [flat]
theorem lines_j1 (l : List En) (hl : l.length ≤ 50) : (allE l → Ev (fun k => taskmasterlaw26_TraceLines.j1 k l (B (flat l)) true false) true) ∧ (¬ allE l → Ev (fun k => taskmasterlaw26_TraceLines.j1 k l (B []) false false) true) := by
  have ht := rtext_ev l (by omega)
  refine ⟨fun h => ?_, fun h => ?_⟩
  · have hf := flat_len h
    have hr := read_whole (l := l) (s := flat l) (by omega) ⟨h, rfl⟩
    refine Ev.step (fun k => by rw [taskmasterlaw26_TraceLines.j1]) (evn (by simp) (Ev.bind (ht.1 h) (Ev.bind hr ?_)))
    refine evp rfl (evp rfl (evp rfl (Ev.bind (same_ev l (by omega)) (evp rfl (evb known_eq (Ev.now _))))))
  · have hr : ∃ r, Ev (fun k => trace_Read.f k (B [])) r := by
      rcases read_ev [] (by simp) with ⟨_, _, h⟩ | ⟨_, h⟩
      · exact ⟨_, h⟩
      · exact ⟨_, h⟩
    obtain ⟨r, hr⟩ := hr
    refine Ev.step (fun k => by rw [taskmasterlaw26_TraceLines.j1]) (evn (by simp) (Ev.bind (ht.2 h) (Ev.bind hr ?_)))
    exact evp rfl (evn (by simp) (evb known_eq (Ev.now _)))
theorem TraceLines (l0 l1 : List En) (w0 : ∀ y ∈ l0, wf44 y) (w1 : ∀ y ∈ l1, wf44 y) : ∃ k : Nat, taskmasterlaw26_TraceLines.f k l0 l1 = some true := by
  refine Ev.rounds ?_
  unfold taskmasterlaw26_TraceLines.f
  have hyes : Ev (fun k => taskmasterlaw26_TraceLines.j0 k l0 l1 true) true := Ev.step (fun k => by rw [taskmasterlaw26_TraceLines.j0]) (evp rfl (Ev.now _))
  by_cases c : (l0.length : Int) > 50
  · exact evp c hyes
  refine evn c ?_
  by_cases c1 : (l1.length : Int) > 50
  · rw [decide_eq_true c1]; exact hyes
  rw [decide_eq_false c1]
  have h0 := text_eq l0 (by omega)
  have h1 := text_eq l1 (by omega)
  have h01 := text_eq (l0 ++ l1) (by rw [List.length_append]; omega)
  have hj := lines_j1 l0 (by omega)
  refine Ev.step (fun k => by rw [taskmasterlaw26_TraceLines.j0]) (evn (by simp) ?_)
  by_cases a : allE l0
  · have f0 := flat_len a
    by_cases b : allE l1
    · have f1 := flat_len b
      rw [h0.1 a, h1.1 b]
      refine evb rfl (evb rfl (evb rfl (evp (by simp; omega) (evb rfl (evp (by simp; omega) (evb (a := (B (flat l0 ++ flat l1), true)) ?_ ?_))))))
      · show trace_Text.f ([] ++ l0 ++ l1) = _
        rw [List.nil_append, h01.1 (allE_app.mpr ⟨a, b⟩), flat_app]
      · refine evp rfl (evn (by simp) (evp rfl (evp (by simp only [B_size]; omega) ?_)))
        have e : ((B (flat l0 ++ flat l1)).toList != (B (flat l0) ++ B (flat l1)).toList) = false := by rw [B_app]; exact bne_eq_false_iff_eq.mpr rfl
        show Ev (fun k => taskmasterlaw26_TraceLines.j1 k l0 (B (flat l0)) true ((B (flat l0 ++ flat l1)).toList != (B (flat l0) ++ B (flat l1)).toList)) true
        rw [e]
        exact hj.1 a
    · rw [h0.1 a, h1.2 b]
      refine evb rfl (evb rfl (evb rfl (evp (by simp; omega) (evb rfl (evp (by simp; omega) (evb (a := (B [], false)) ?_ ?_))))))
      · show trace_Text.f ([] ++ l0 ++ l1) = _
        rw [List.nil_append, h01.2 (fun z => b (allE_app.mp z).2)]
      · exact evp rfl (evn (by simp) (evn (by simp) (hj.1 a)))
  · have hn : ∀ t, (trace_Text.f ([] ++ l0 ++ l1)) = t → (B [], false) = t.getD (B [], true) → t = some (B [], false) := fun t h2 _ => by
      rw [← h2, List.nil_append]; exact h01.2 (fun z => a (allE_app.mp z).1)
    have hcat : trace_Text.f ([] ++ l0 ++ l1) = some (B [], false) := by rw [List.nil_append]; exact h01.2 (fun z => a (allE_app.mp z).1)
    by_cases b : allE l1
    · rw [h0.2 a, h1.1 b]
      refine evb rfl (evb rfl (evb rfl (evp (by simp; omega) (evb rfl (evp (by simp; omega) (evb (a := (B [], false)) hcat ?_))))))
      exact evn (by simp) (evn (by simp) (evn (by simp) (hj.2 a)))
    · rw [h0.2 a, h1.2 b]
      refine evb rfl (evb rfl (evb rfl (evp (by simp; omega) (evb rfl (evp (by simp; omega) (evb (a := (B [], false)) hcat ?_))))))
      exact evn (by simp) (evn (by simp) (evn (by simp) (hj.2 a)))
end Go.Proofs.YtkdndgclldlddaaDoor.Pure
namespace Go.Proofs.YtkdndgclldlddaaDoor.QTr
open Go.RowKit
set_option linter.unusedVariables false
theorem returnsInHanded_and_shaped {H : Type} {enc : TypeId × Value → H} {a : Assume} {C : Checked} {os : Os} {f : FuncId} {fn : Func} {s : ChangeSpec} {conds : List PathCond} {apart fresh handsOn again : Bool} {X : World → Array Value → Prop}
    (hX : ∀ (w w' : World) (args : Array Value), w.heap = w'.heap → X w args → X w' args)
    (own : ownKnob C.prog.godebug = none) (started : os.Started) (noInit : C.prog.inits.idxOf? f = none) (hfn : C.prog.funcs[f]? = some fn)
    (witness : ∃ (w : World) (tape : Tape) (i : Input), w.os = os ∧ (w.forCall tape i).Shaped C.prog ∧ i.vars = [] ∧ Input.okWide C.prog (w.forCall tape i) .any w.heap.size f i ∧
      ((s.pre enc C.prog fn conds apart (w.forCall tape i).memory i.args ∧ X (w.forCall tape i).memory i.args) ∧ sizedMet enc C.prog fn (OpenSpec.ofChange s) apart (w.forCall tape i).memory i.args) ∧ a.holds C.prog (lone (Frame.enter C.prog f i.args .normal) [] (w.forCall tape i)))
    (contract : ∀ (W : World) (base : Nat) (args : Array Value) (ds gs : List (DataW H)) (before : List MemPlace),
      (∀ (j : Nat) t v, fn.params[j]? = some t → args[j]? = some v → Value.okWide C.prog W .any base t v) →
      DataW.Whole enc C.prog fn.params.toList s.vars apart W args.toList ds gs before →
      conds.all (PathCond.test C.prog ⟨fn.params.toList, ds, s.plain.varTypes C.prog, gs⟩) = true →
      (DataW.weightsEach C.prog (fn.params.toList ++ s.plain.varTypes C.prog) (ds ++ gs)).all (· ≤ reachBytes) = true → X W args → W.ShapedOpen C.prog →
      a.holds C.prog (lone (Frame.enter C.prog f args .normal) [] W) →
      Calls C.prog f args W fun e W' => ∃ v, e = .returned v ∧ s.post enc C.prog fn apart fresh handsOn again W args v W') :
    ReturnsInHanded a C os f .any (fun w args => (s.pre enc C.prog fn conds apart w args ∧ X w args) ∧ sizedMet enc C.prog fn (OpenSpec.ofChange s) apart w args) (s.post enc C.prog fn apart fresh handsOn again) := by
  refine returnsInHanded_of_calls own started noInit witness ?_
  intro w tape i _ hsh _ hok hpre hholds
  obtain ⟨_, _, _, fn', hfn', _, _, _, _, hval⟩ := hok
  have e : fn' = fn := Option.some.inj (hfn'.symm.trans hfn)
  subst e
  obtain ⟨⟨⟨ds, gs, before, hw, hc⟩, hx⟩, hz⟩ := hpre
  have hw' := DataW.Whole.of_heap (w' := w.forCall tape i) (by rfl) hw
  refine (contract (w.forCall tape i) w.heap.size i.args ds gs before hval hw' hc (hz.weights hw) (hX _ _ _ (by rfl) hx) hsh hholds).mono fun e W' ⟨v, he, hp⟩ => ?_
  subst he
  exact ChangeSpec.post_blind hp
abbrev laidL : List (String × DataW Unit) := [("math/bits.deBruijn32tab", Rows.laid_math_bits_deBruijn32tab), ("math/bits.deBruijn64tab", Rows.laid_math_bits_deBruijn64tab), ("internal/strconv.uint64pow10", Rows.laid_internal_strconv_uint64pow10), ("unicode/utf8.acceptRanges", Rows.laid_unicode_utf8_acceptRanges), ("strconv.ErrRange", Rows.laid_strconv_ErrRange), ("strconv.ErrSyntax", Rows.laid_strconv_ErrSyntax), ("unicode/utf8.first", Rows.laid_unicode_utf8_first)]
theorem vars_tail {W : World} {x : String × DataW Unit} {r : List (String × DataW Unit)} {ps : List MemPlace} (h : DataW.LaidVars Tryd.prog W (x :: r) ps) : ∃ q, DataW.LaidVars Tryd.prog W r q := by
  obtain ⟨_, _, _, _, _, q, _, _, _, _, h2, _⟩ := h
  exact ⟨q, h2⟩
theorem tab_of_vars {W : World} {name : String} {k : IntKind} {zs : List Int} {rest : List (String × DataW Unit)} {ps : List MemPlace} {g : Nat} {t e : TypeId} {n : Nat}
    (hg : Tryd.prog.globalNamed name = some g) (hty : (Tryd.prog.globals[g]?).map (·.type) = some t) (ht : Tryd.prog.underlying t = some (.array n e)) (he : Tryd.prog.underlying e = some (.int k)) (hce : Tryd.prog.cellsOf e = 1) (hct : Tryd.prog.cellsOf t = n)
    (h : DataW.LaidVars Tryd.prog W ((name, Lib.tabData k zs) :: rest) ps) : Lib.TabIs Tryd.prog W name k zs := by
  obtain ⟨g', t', cs, fuel, p, q, hg', ht', hvar, hd, _, _⟩ := h
  obtain rfl := Option.some.inj (hg.symm.trans hg')
  obtain rfl := Option.some.inj (hty.symm.trans ht')
  unfold Lib.TabIs
  rw [hvar, ← Lib.cells_of_tab ht he hce hct hd]
theorem iface_of_vars {W : World} {name nm : String} {d : DataW Unit} {rest : List (String × DataW Unit)} {ps : List MemPlace} {g : Nat} {t : TypeId} {ms : Array (String × TypeId)}
    (hg : Tryd.prog.globalNamed name = some g) (hty : (Tryd.prog.globals[g]?).map (·.type) = some t) (ht : Tryd.prog.underlying t = some (.interface ms))
    (h : DataW.LaidVars Tryd.prog W ((name, .iface nm d) :: rest) ps) : ∃ te pe, W.cell? ⟨g, 0, none⟩ = some (.iface te pe) := by
  obtain ⟨g', t', cs, fuel, p, q, hg', ht', hvar, hd, _, _⟩ := h
  obtain rfl := Option.some.inj (hg.symm.trans hg')
  obtain rfl := Option.some.inj (hty.symm.trans ht')
  have hc := World.var?_cell hg hvar 0
  obtain ⟨l⟩ := cs
  have hl : ∃ te pe, l = [.iface te pe] := by
    cases fuel with
    | zero => simp [DataW.trod] at hd
    | succ fuel =>
      rcases l with _ | ⟨x, _ | ⟨y, r⟩⟩
      · simp [DataW.trod, ht] at hd
      · cases x <;> first | exact ⟨_, _, rfl⟩ | (simp [DataW.trod, ht] at hd)
      · simp [DataW.trod, ht] at hd
  obtain ⟨te, pe, rfl⟩ := hl
  exact ⟨te, pe, by rw [hc]; rfl⟩
theorem gSyn : Tryd.prog.globalNamed "strconv.ErrSyntax" = some 3 := by kernel_rfl
theorem gRan : Tryd.prog.globalNamed "strconv.ErrRange" = some 4 := by kernel_rfl
theorem tSyn : (Tryd.prog.globals[3]?).map (·.type) = some 78 := by kernel_rfl
theorem tRan : (Tryd.prog.globals[4]?).map (·.type) = some 78 := by kernel_rfl
theorem pow_eq : (Rows.laid_internal_strconv_uint64pow10 : DataW Unit) = Lib.tabData .u64 Lib.pow10Tab := by rfl
theorem tPow : (Tryd.prog.globals[2]?).map (·.type) = some 130 := by kernel_rfl
theorem tab_of_laid {W : World} (h : laidMetH Tryd.prog laidL W) (hsh : W.ShapedOpen Tryd.prog) : TabW W := by
  rw [MakeChecks.laidMetH_plain _ _ _ (by kernel_rfl)] at h
  obtain ⟨ps, hv, _⟩ := h
  obtain ⟨q1, h1⟩ := vars_tail hv
  obtain ⟨q2, h2⟩ := vars_tail h1
  obtain ⟨q3, h3⟩ := vars_tail h2
  obtain ⟨q4, h4⟩ := vars_tail h3
  obtain ⟨q5, h5⟩ := vars_tail h4
  rw [pow_eq] at h2
  exact ⟨tab_of_vars (e := 28) (n := 20) gPow tPow (by kernel_rfl) (by kernel_rfl) (by kernel_rfl) (by kernel_rfl) h2,
    cell_of_shapedOpen_int (P := Tryd.prog) (g := 1) (t := 3) (zero := #[.int .i64 0]) hsh (of_decide_eq_true (by kernel_rfl)) (by kernel_rfl) rfl (by kernel_rfl) (by kernel_rfl) Tryd.underlying3,
    iface_of_vars gSyn tSyn Tryd.underlying78 h5, iface_of_vars gRan tRan Tryd.underlying78 h4⟩
theorem door_met (os : Os) (args : Array Value) : laidMetH Tryd.prog laidL ((World.laidAll Tryd.prog os laidL).forCall (fun _ _ => 0) ⟨#[], args, []⟩).memory := by
  rw [MakeChecks.laidMetH_plain _ _ _ (by kernel_rfl)]
  exact laidMet_laidAll _ (by kernel_rfl) (by kernel_rfl)
end Go.Proofs.YtkdndgclldlddaaDoor.QTr
namespace Go.Proofs.YtkdndgclldlddaaDoor.traceLines
open Go.ChangeShapes Go.WideShapes Go.ChangeAt Go.RowKit
open Go.ChangeMaps (open_string shut_string)
open Go.Proofs.YtkdndgclldlddaaDoorW.PrintWords Go.Proofs.YtkdndgclldlddaaDoorW.PrintLast Go.Proofs.YtkdndgclldlddaaDoor.QTr Go.Proofs.YtkdndgclldlddaaDoor.Open
set_option linter.unusedVariables false
theorem own : ownKnob Tryd.prog.godebug = none := by kernel_rfl
theorem laidOut : laidOutB Tryd.prog = true := by kernel_rfl
set_option maxRecDepth 100000 in
theorem lifted (os : Os) (started : os.Started) (H : Type) (enc : TypeId × Value → H) :
    ReturnsInHanded {} Tryd.checked os 9 .any (fun w args => (Rows.traceLinesSpec.pre enc Tryd.prog Tryd.f9 [] false w args ∧ laidMetH Tryd.prog laidL w) ∧ sizedMet enc Tryd.prog Tryd.f9 (OpenSpec.ofChange Rows.traceLinesSpec) false w args) (Rows.traceLinesSpec.post enc Tryd.prog Tryd.f9 false true false false) := by
  refine returnsInHanded_and_shaped (C := Tryd.checked) (X := fun w _ => laidMetH Tryd.prog laidL w) (fun _ _ _ hh h => h.of_heap hh) own started (by kernel_rfl) Tryd.func9
    (ChangeSpec.witness_shaped (enc := enc) (C := Tryd.checked) (os := os) (X := fun w _ => laidMetH Tryd.prog laidL w) false (World.laidAll Tryd.prog os laidL) #[.slice none 0 0, .slice none 0 0] 8 (World.laidAll_os _ _ _) (World.shaped_of_ZipB (by kernel_rfl) (by kernel_rfl)) (by kernel_rfl) (by kernel_rfl) (by kernel_rfl) (door_met os _)) ?_
  intro W base args ds gs before hval0 hW hcnd hsz0 hL hShp _
  have hTab := tab_of_laid hL hShp
  clear hL hShp
  have hsz : (DataW.weightsEach Tryd.prog (Tryd.f9.params.toList ++ Rows.traceLinesSpec.plain.varTypes Tryd.prog) (ds ++ gs)).all (· ≤ reachBytes) = true := hsz0
  have hval : ∀ (j : Nat) t v, Tryd.f9.params[j]? = some t → args[j]? = some v → Value.okWide Tryd.prog W .any base t v := hval0
  have hW' := hW
  obtain ⟨p, q, hA0, hV, rfl, hfz, hnd⟩ := hW
  have hA : DataW.TrodAll enc Tryd.prog W 0 (fun _ => true) true Tryd.f9.params.toList args.toList ds p := hA0
  rw [Tryd.params9] at hA hval hsz
  obtain ⟨v0, vs0, d0, ds0, p0, q0, hargs, rfl, rfl, h0, r0⟩ := trodAll_cons hA
  obtain ⟨v1, vs1, d1, ds1, p1, q1, rfl, rfl, rfl, h1, r1⟩ := trodAll_cons r0
  obtain ⟨rfl, rfl, rfl⟩ := trodAll_nil r1
  obtain rfl : args = #[v0, v1] := by cases args; simp_all
  obtain ⟨rfl, rfl⟩ := trodVars_none hV
  have k0 := h0
  have lt0 : ∀ x ∈ p0, x.block < W.heap.size := by obtain ⟨m, hm⟩ := k0; exact DataW.trod_lt m _ _ _ hm
  obtain ⟨A0, c0, l0, rfl, hc0, hr0, hw0⟩ := arg_slice Tryd.underlying37 (hval 0 37 v0 rfl rfl) (opens_slice Tryd.underlying37 (by kernel_rfl) opens44) h0
  have k1 := h1
  have lt1 : ∀ x ∈ p1, x.block < W.heap.size := by obtain ⟨m, hm⟩ := k1; exact DataW.trod_lt m _ _ _ hm
  obtain ⟨A1, c1, l1, rfl, hc1, hr1, hw1⟩ := arg_slice Tryd.underlying37 (hval 1 37 v1 rfl rfl) (opens_slice Tryd.underlying37 (by kernel_rfl) opens44) h1
  clear hA0 hval0 hsz0 hsz
  obtain ⟨k, hk⟩ := Pure.TraceLines l0 l1 hw0 hw1
  refine (taskmasterlaw26_TraceLines.calls (w := W) (h := hk) (hT := hTab) (hc0 := hc0) (hc1 := hc1) (hr0 := hr0) (hr1 := hr1)).mono fun e W' ⟨he, bel0⟩ => ?_
  have bel : Below W.heap.size W W' := bel0
  subst he
  exact ⟨_, rfl, _, _, _, [], _, [], hW', trodAll_mk1 (shut_bool Tryd.underlying4 _), (trodAll_cons_mk (Below.trod laidOut (by kernel_rfl) (of_decide_eq_true (by kernel_rfl)) k0 bel lt0) (trodAll_cons_mk (Below.trod laidOut (by kernel_rfl) (of_decide_eq_true (by kernel_rfl)) k1 bel lt1) trodAll_mk0)), rfl, bel.frame _, fun h => by cases h⟩
theorem over : Rows.traceLinesRow.holds Tryd.pinned (OpenSpec.ofChange Rows.traceLinesSpec) :=
  OpenClaim.holds_of_wide 9 Tryd.f9 rfl rfl rfl rfl rfl rfl rfl ⟨rfl, rfl, rfl, rfl, rfl⟩ rfl rfl rfl rfl rfl (by kernel_rfl) Tryd.func9 (by kernel_rfl)
    (of_decide_eq_true (by kernel_rfl)) (by unfold Func.isWrapper; first | (rw [if_pos (by decide +kernel)]; kernel_rfl) | (rw [if_neg (by decide +kernel)]; exact ⟨rfl, rfl⟩))
    (fun os started H enc _ => lifted os started H enc)
theorem proved : Rows.TraceLinesSaid := over
end Go.Proofs.YtkdndgclldlddaaDoor.traceLines
namespace Go.Proofs.YtkdndgclldlddaaDoor
theorem traceLines_holds : Rows.TraceLinesCardSaid :=
  Claim7.holds_tied_plain_at .later [] [.data, .data, .data, .data, .sentinel, .sentinel, .pinned] true Rows.traceLinesCard.stood.harness Rows.traceLinesCard.stood.looks
    traceLines.proved (fun _ h => by cases h) (by kernel_rfl) (fun _ h => by cases h) traceLines_row_tie rfl ⟨rfl, rfl⟩ (by kernel_rfl) rfl
    (fun f fn hf hfn => by
      obtain rfl : f = 9 := Option.some.inj ((show Tryd.prog.funcNamed "taskmaster/taskmasterlaw26.TraceLines" = some 9 by kernel_rfl).symm.trans hf) |>.symm
      obtain rfl : fn = Tryd.f9 := (Option.some.inj (Tryd.func9.symm.trans hfn)).symm
      exact ⟨by kernel_rfl, fun j t ht => by
        rw [Tryd.params9] at ht
        have hm : t ∈ [37, 37] := by simpa using Array.mem_of_getElem? ht
        have hall : ([37, 37].all fun u => !Tryd.prog.wantsStandIn u) = true := by kernel_rfl
        exact (show Tryd.prog.wantsStandIn t = false by simpa using List.all_eq_true.1 hall t hm)⟩)
    (by kernel_rfl)
end Go.Proofs.YtkdndgclldlddaaDoor

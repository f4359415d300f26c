/- What is proved: plain facts for this seat's laws (joined out of: Open, OpenPt, PointMath, PointPure, PointChoose, PointLaws); conditions as each theorem names them. -/
import Derived.Test.YtbkkmlhoobkimaaWWords
import Derived.Test.YtbkkmlhoobkimaaWLast
import Derived.ChangeArms
import Derived.Deep.Slices
import Derived.DataReads
import Derived.WideShapes
import Derived.Test.YtbkkmlhoobkimaaQPtx0
import Derived.KernelRfl
import Derived.Laws.BitsLemmas
import Derived.Test.YtbkkmlhoobkimaaQPtxf9
import Derived.Test.YtbkkmlhoobkimaaQPtxf13
import Derived.Test.YtbkkmlhoobkimaaQPtxf10
import Derived.Test.YtbkkmlhoobkimaaQPtxf14
import Derived.Test.YtbkkmlhoobkimaaQPtxf11
import Derived.Test.YtbkkmlhoobkimaaQPtxf15
import Derived.Test.YtbkkmlhoobkimaaQPtxf12
import Derived.Test.YtbkkmlhoobkimaaQPtxf3
import Derived.Test.YtbkkmlhoobkimaaQPtxf4
import Derived.Test.YtbkkmlhoobkimaaQPtxf5
import Derived.Test.YtbkkmlhoobkimaaQPtxf6
import Derived.Test.YtbkkmlhoobkimaaQPtxf7
import Derived.Test.YtbkkmlhoobkimaaQPtxf8
/-! ## Open -/
namespace Go.Proofs.Ytbkkmlhoobkimaa.Open
open Go.RowKit Go.Proofs.YtbkkmlhoobkimaaW.PrintWords Go.Proofs.YtbkkmlhoobkimaaW.PrintLast Go.WideShapes
set_option linter.unusedVariables false

/-- Whatever is read at type t is a value of the kind k, of which W holds. -/
structure Opens (P : Program) {α : Type} (k : Kd α) (t : TypeId) (W : α → Prop) : Prop where
  out : ∀ {H : Type} {enc : TypeId × Value → H} {w : World} {base : Nat} {spare : Nat → Bool} {held : Bool} {fuel : Nat} {cs : List Value} {x : DataW H × List MemPlace},
    DataW.trod enc P w base spare held fuel t cs = some x → ∃ a : α, k.K w a cs ∧ W a

theorem opens_int {P : Program} {t : TypeId} {k : IntKind} (ht : P.underlying t = some (.int k)) : Opens P (Kd.int k) t (fun n => (Lit.int k n).wf = true) := by
  refine ⟨fun {H enc w base spare held fuel cs x} h => ?_⟩
  obtain ⟨n, rfl, _, hw⟩ := DataW.trod_int ht h
  exact ⟨n, rfl, hw⟩
theorem opens_bool {P : Program} {t : TypeId} (ht : P.underlying t = some .bool) : Opens P Kd.bool t (fun _ => True) := by
  refine ⟨fun {H enc w base spare held fuel cs x} h => ?_⟩
  obtain ⟨n, rfl, _⟩ := DataW.trod_bool ht h
  exact ⟨n, rfl, trivial⟩
theorem opens_string {P : Program} {t : TypeId} (ht : P.underlying t = some .string) : Opens P Kd.string t (fun s => s.size ≤ maxLen) := by
  refine ⟨fun {H enc w base spare held fuel cs x} h => ?_⟩
  obtain ⟨s, rfl, _, hs⟩ := DataW.trod_string ht h
  exact ⟨s, rfl, hs⟩
theorem addr_add (a : Addr) (i j : Nat) : (a.add i).add j = a.add (i + j) := Go.Deep.add_add a i j
theorem opens_slice {P : Program} {α : Type} [Inhabited α] {d : Kd α} {t e : TypeId} {W : α → Prop} (ht : P.underlying t = some (.slice e)) (hs : P.cellsOf e = d.sz) (hd : Opens P d e W) :
    Opens P (Kd.slice e d) t (fun xs => ∀ x ∈ xs, W x) := by
  refine ⟨fun {H enc w base spare held fuel cs x} h => ?_⟩
  rcases Go.Deep.open_slice ht h with ⟨rfl, _⟩ | ⟨a, len, cap, m, n, D, Pl, rfl, hb, hl, hc, hm, _, hel⟩
  · exact ⟨[], ⟨none, 0, rfl, Nat.le_refl _, rfl, Nat.zero_le _, fun h => absurd h (Nat.lt_irrefl _)⟩, fun x hx => absurd hx (List.not_mem_nil)⟩
  · have hlm : len ≤ m := by rw [hm]; split <;> omega
    have each : ∀ i, i < len → ∃ y : α, (∃ cs', w.cells? base (a.add (i * P.cellsOf e)) (P.cellsOf e) = some cs' ∧ d.K w y cs') ∧ W y := fun i hi => by
      obtain ⟨cs', h1, h2⟩ := hel i (by omega)
      obtain ⟨y, hy, hw⟩ := hd.out h2
      exact ⟨y, ⟨cs', h1, hy⟩, hw⟩
    obtain ⟨f, hf⟩ := Go.Deep.choose_lt each
    have hlen : ((List.range len).map f).length = len := by simp
    refine ⟨(List.range len).map f, ⟨some a, cap, by rw [hlen], by rw [hlen]; exact hl, rfl, ?_, ?_⟩, ?_⟩
    · rw [hlen]; unfold maxLen at hc; omega
    · intro _
      refine ⟨a, rfl, fun j p hp => ?_⟩
      obtain ⟨hj, rfl⟩ := List.getElem?_eq_some_iff.1 hp
      rw [hlen] at hj
      obtain ⟨⟨cs', h1, h2⟩, _⟩ := hf j hj
      obtain ⟨_, h4, h5⟩ := World.cells?_some h1
      refine ⟨cs', by rw [h4, hs], by simpa using h2, fun i u hu => ?_⟩
      have hi : i < cs'.length := by
        by_cases q : i < cs'.length
        · exact q
        · rw [List.getElem?_eq_none (by omega)] at hu; cases hu
      have := h5 i (by omega)
      rw [addr_add, hs] at this
      rw [this]; exact hu
    · intro x hx
      obtain ⟨i, hi, rfl⟩ := List.mem_map.1 hx
      exact (hf i (List.mem_range.1 hi)).2

/-- From field i on: what the fields of a struct read as. -/
structure OpensFrom (P : Program) (fs : Array Field) (i : Nat) (off : Nat) {α : Type} (k : Kd α) (W : α → Prop) : Prop where
  out : ∀ {H : Type} {enc : TypeId × Value → H} {w : World} {base : Nat} {spare : Nat → Bool} {held : Bool} {n : Nat} {cs : List Value} {xs : List (DataW H × List MemPlace)},
    xs.length = fs.size → cs.length = off + k.sz →
    (∀ (j : Nat) (f : Field), fs[j]? = some f → DataW.trod enc P w base spare held n f.type ((cs.drop f.offset).take (P.cellsOf f.type)) = xs[j]?) → ∃ a : α, k.K w a (cs.drop off) ∧ W a
theorem opensFrom_last {P : Program} {fs : Array Field} {i off : Nat} {α : Type} {k : Kd α} {W : α → Prop} (f : Field) (hf : fs[i]? = some f) (ho : f.offset = off) (hs : P.cellsOf f.type = k.sz) (hd : Opens P k f.type W) : OpensFrom P fs i off k W := by
  refine ⟨fun {H enc w base spare held n cs xs} hx hl h => ?_⟩
  have hi : i < xs.length := by
    rw [hx]
    by_cases q : i < fs.size
    · exact q
    · rw [Array.getElem?_eq_none (by omega)] at hf; cases hf
  have h1 := h i f hf
  rw [List.getElem?_eq_getElem hi, ho, hs, List.take_of_length_le (by simp; omega)] at h1
  exact hd.out h1
theorem opensFrom_cons {P : Program} {fs : Array Field} {i off : Nat} {α β : Type} {k : Kd α} {l : Kd β} {W : α → Prop} {V : β → Prop} (f : Field) (hf : fs[i]? = some f) (ho : f.offset = off) (hs : P.cellsOf f.type = k.sz)
    (hd : Opens P k f.type W) (hr : OpensFrom P fs (i + 1) (off + k.sz) l V) : OpensFrom P fs i off (Kd.pair k l) (fun x => W x.1 ∧ V x.2) := by
  refine ⟨fun {H enc w base spare held n cs xs} hx hl h => ?_⟩
  have hi : i < xs.length := by
    rw [hx]
    by_cases q : i < fs.size
    · exact q
    · rw [Array.getElem?_eq_none (by omega)] at hf; cases hf
  have hl' : cs.length = off + (k.sz + l.sz) := hl
  have h1 := h i f hf
  rw [List.getElem?_eq_getElem hi, ho, hs] at h1
  obtain ⟨a, ka, wa⟩ := hd.out h1
  obtain ⟨b, kb, wb⟩ := hr.out hx (by omega) h
  refine ⟨(a, b), ⟨_, _, ?_, ka, kb⟩, wa, wb⟩
  rw [← List.drop_drop, List.take_append_drop]
theorem opens_struct {P : Program} {t : TypeId} {fs : Array Field} {α β : Type} {k : Kd α} {g : β → α} {W : α → Prop} {V : β → Prop} (ht : P.underlying t = some (.struct fs)) (hs : P.cellsOf t = k.sz) (hd : OpensFrom P fs 0 0 k W)
    (inv : α → β) (hg : ∀ a, g (inv a) = a) (hW : ∀ a, W a → V (inv a)) : Opens P (Kd.iso k g) t V := by
  refine ⟨fun {H enc w base spare held fuel cs x} h => ?_⟩
  obtain ⟨xs, n, _, _, hl, hx, hall⟩ := DataW.trod_struct ht h
  obtain ⟨a, ka, wa⟩ := hd.out hx (by rw [hl, hs]; omega) hall
  exact ⟨inv a, by show k.K w (g (inv a)) cs; rw [hg]; simpa using ka, hW a wa⟩

/-- A slice that is handed in. -/
theorem arg_slice {P : Program} {H : Type} {enc : TypeId × Value → H} {w : World} {base : Nat} {spare : Nat → Bool} {held : Bool} {α : Type} {d : Kd α} {t e : TypeId} {W : List α → Prop} {v : Value} {x : DataW H} {ps : List MemPlace} {r : Reach} {b0 : Nat}
    (ht : P.underlying t = some (.slice e)) (hv : Value.okWide P w r b0 t v) (ho : Opens P (Kd.slice e d) t W) (h : DataW.Trod enc P w base spare held t v x ps) :
    ∃ (A : Option Addr) (c : Nat) (xs : List α), v = .slice A xs.length c ∧ xs.length ≤ c ∧ Kd.C d w A xs.length xs ∧ W xs := by
  obtain ⟨fuel, hf⟩ := h
  obtain ⟨a, len, cap, rfl⟩ := okWide_slice ht hv
  obtain ⟨xs, ⟨A, c, e1, h1, h2⟩, hw⟩ := ho.out hf
  have e2 : ([.slice a len cap] : List Value) = [.slice A xs.length c] := e1
  injection e2 with e2
  exact ⟨A, c, xs, e2, h1, h2, hw⟩
/-- A struct that is handed in. -/
theorem arg_struct {P : Program} {H : Type} {enc : TypeId × Value → H} {w : World} {base : Nat} {spare : Nat → Bool} {held : Bool} {α : Type} {d : Kd α} {t : TypeId} {fs : Array Field} {W : α → Prop} {v : Value} {x : DataW H} {ps : List MemPlace} {r : Reach} {b0 : Nat}
    (ht : P.underlying t = some (.struct fs)) (hv : Value.okWide P w r b0 t v) (ho : Opens P d t W) (h : DataW.Trod enc P w base spare held t v x ps) :
    ∃ (a : α) (cs : List Value), v = .agg cs.toArray ∧ d.K w a cs ∧ W a := by
  obtain ⟨fuel, hf⟩ := h
  obtain ⟨cs, rfl, _⟩ := okWide_struct ht hv
  obtain ⟨a, ha, hw⟩ := ho.out hf
  exact ⟨a, cs.toList, by simp, ha, hw⟩
end Go.Proofs.Ytbkkmlhoobkimaa.Open
/-! ## OpenPt -/
namespace Go.Proofs.Ytbkkmlhoobkimaa.QPt
open Go.RowKit Go.Proofs.YtbkkmlhoobkimaaW.PrintWords Go.Proofs.YtbkkmlhoobkimaaW.PrintLast Go.Proofs.Ytbkkmlhoobkimaa.Open
set_option linter.unusedVariables false
end Go.Proofs.Ytbkkmlhoobkimaa.QPt
/-! ## PointMath -/
namespace Go.Proofs.Ytbkkmlhoobkimaa.PointMath
set_option linter.unusedVariables false

/-- The regions: of d blocks from the i-th on, acc being in the region already. -/
def cutF (b c : Nat → Int) (S : Nat → Bool) : Nat → Nat → Int → List Int
  | 0, _, acc => [acc]
  | d + 1, i, acc => if S i = true then (acc + b i) :: cutF b c S d (i + 1) (c i) else cutF b c S d (i + 1) (acc + b i)
theorem cutF_congr {b c : Nat → Int} {S T : Nat → Bool} : ∀ (d i : Nat) (acc : Int), (∀ j, i ≤ j → j < i + d → S j = T j) → cutF b c S d i acc = cutF b c T d i acc
  | 0, _, _, _ => rfl
  | d + 1, i, acc, h => by
    have e := h i (Nat.le_refl _) (by omega)
    have r := fun a => cutF_congr (b := b) (c := c) d (i + 1) a (fun j h1 h2 => h j (by omega) (by omega))
    unfold cutF
    rw [e, r, r]
theorem cutF_bound {b c : Nat → Int} {S : Nat → Bool} : ∀ (d i : Nat) (acc : Int), (∀ j, j < i + d → 0 ≤ b j ∧ b j ≤ 10000) → (∀ j, j < i + d → S j = true → 0 ≤ c j ∧ c j ≤ 10000) → 0 ≤ acc → acc ≤ 10000 * (i + 1) → ∀ y ∈ cutF b c S d i acc, 0 ≤ y ∧ y ≤ 10000 * (i + d + 1)
  | 0, i, acc, _, _, h0, h1, y, hy => by
    unfold cutF at hy
    rw [List.mem_singleton] at hy
    subst hy; omega
  | d + 1, i, acc, hb, hc, h0, h1, y, hy => by
    have b1 := hb i (by omega)
    unfold cutF at hy
    by_cases hS : S i = true
    · rw [if_pos hS] at hy
      have c1 := hc i (by omega) hS
      rcases List.mem_cons.mp hy with rfl | hy
      · omega
      · have := cutF_bound d (i + 1) (c i) (fun j h => hb j (by omega)) (fun j h => hc j (by omega)) c1.1 (by omega) y hy
        omega
    · rw [if_neg hS] at hy
      have := cutF_bound d (i + 1) (acc + b i) (fun j h => hb j (by omega)) (fun j h => hc j (by omega)) (by omega) (by omega) y hy
      omega
/-- The places that are in S. -/
def ptsF (S : Nat → Bool) : Nat → Nat → List Int
  | 0, _ => []
  | d + 1, i => if S i = true then (i : Int) :: ptsF S d (i + 1) else ptsF S d (i + 1)
theorem cutF_length {b c : Nat → Int} {S : Nat → Bool} : ∀ (d i : Nat) (acc : Int), (cutF b c S d i acc).length = (ptsF S d i).length + 1
  | 0, _, _ => rfl
  | d + 1, i, acc => by
    unfold cutF ptsF
    by_cases hS : S i = true
    · rw [if_pos hS, if_pos hS, List.length_cons, List.length_cons, cutF_length d]
    · rw [if_neg hS, if_neg hS, cutF_length d]
theorem ptsF_le (S : Nat → Bool) : ∀ (d i : Nat), (ptsF S d i).length ≤ d
  | 0, _ => Nat.le_refl _
  | d + 1, i => by
    have := ptsF_le S d (i + 1)
    unfold ptsF
    split
    · rw [List.length_cons]; omega
    · omega
theorem ptsF_mem (S : Nat → Bool) : ∀ (d i j : Nat), ((j : Int) ∈ ptsF S d i) ↔ (i ≤ j ∧ j < i + d ∧ S j = true)
  | 0, i, j => by unfold ptsF; simp; omega
  | d + 1, i, j => by
    have r := ptsF_mem S d (i + 1) j
    unfold ptsF
    by_cases hS : S i = true
    · rw [if_pos hS, List.mem_cons, r]
      constructor
      · rintro (h | h)
        · obtain rfl : j = i := by omega
          exact ⟨Nat.le_refl _, by omega, hS⟩
        · exact ⟨by omega, by omega, h.2.2⟩
      · rintro ⟨h1, h2, h3⟩
        by_cases e : j = i
        · exact Or.inl (by omega)
        · exact Or.inr ⟨by omega, by omega, h3⟩
    · rw [if_neg hS, r]
      constructor
      · rintro ⟨h1, h2, h3⟩; exact ⟨by omega, by omega, h3⟩
      · rintro ⟨h1, h2, h3⟩
        refine ⟨?_, by omega, h3⟩
        by_cases e : j = i
        · subst e; exact absurd h3 hS
        · omega
theorem ptsF_last {S : Nat → Bool} : ∀ (d i : Nat), S (i + d) = false → ptsF S (d + 1) i = ptsF S d i
  | 0, i, h => by
    simp only [Nat.add_zero] at h
    show (if S i = true then _ else _) = _
    rw [if_neg (by rw [h]; simp)]
    rfl
  | d + 1, i, h => by
    have r := ptsF_last (S := S) d (i + 1) (by rw [show i + 1 + d = i + (d + 1) by omega]; exact h)
    show (if S i = true then _ else _) = (if S i = true then _ else _)
    rw [r]
theorem cutF_ge {b c : Nat → Int} {S : Nat → Bool} : ∀ (d i : Nat) (acc : Int), (∀ j, j < i + d → 0 ≤ b j) → (∀ j, j < i + d → S j = true → 0 ≤ c j) → 0 ≤ acc →
    (∃ y ∈ cutF b c S d i acc, acc ≤ y) ∧ ∀ j, i ≤ j → j < i + d → ∃ y ∈ cutF b c S d i acc, b j ≤ y
  | 0, i, acc, _, _, h0 => ⟨⟨acc, by unfold cutF; exact List.mem_singleton.mpr rfl, by omega⟩, fun j h1 h2 => absurd h1 (by omega)⟩
  | d + 1, i, acc, hb, hc, h0 => by
    have b1 := hb i (by omega)
    unfold cutF
    by_cases hS : S i = true
    · rw [if_pos hS]
      have c1 := hc i (by omega) hS
      obtain ⟨_, r⟩ := cutF_ge d (i + 1) (c i) (fun j h => hb j (by omega)) (fun j h => hc j (by omega)) c1
      refine ⟨⟨_, List.mem_cons_self, by omega⟩, fun j h1 h2 => ?_⟩
      by_cases e : j = i
      · subst e; exact ⟨_, List.mem_cons_self, by omega⟩
      · obtain ⟨y, hy, hj⟩ := r j (by omega) (by omega)
        exact ⟨y, List.mem_cons_of_mem _ hy, hj⟩
    · rw [if_neg hS]
      obtain ⟨⟨y, hy, ha⟩, r⟩ := cutF_ge d (i + 1) (acc + b i) (fun j h => hb j (by omega)) (fun j h => hc j (by omega)) (by omega)
      refine ⟨⟨y, hy, by omega⟩, fun j h1 h2 => ?_⟩
      by_cases e : j = i
      · subst e; exact ⟨y, hy, by omega⟩
      · exact r j (by omega) (by omega)
theorem cutF_full {b c : Nat → Int} {S : Nat → Bool} {M : Int} : ∀ (d i : Nat) (acc : Int), (∀ j, i ≤ j → j < i + d → S j = true) → S (i + d) = false → acc + b i ≤ M → (∀ j, i ≤ j → j < i + d → c j + b (j + 1) ≤ M) → ∀ y ∈ cutF b c S (d + 1) i acc, y ≤ M
  | 0, i, acc, _, hl, ha, _, y, hy => by
    simp only [Nat.add_zero] at hl
    unfold cutF at hy
    rw [if_neg (by rw [hl]; simp)] at hy
    unfold cutF at hy
    rw [List.mem_singleton] at hy
    omega
  | d + 1, i, acc, hS, hl, ha, hc, y, hy => by
    unfold cutF at hy
    rw [if_pos (hS i (Nat.le_refl _) (by omega))] at hy
    rcases List.mem_cons.mp hy with rfl | hy
    · exact ha
    · exact cutF_full d (i + 1) (c i) (fun j h1 h2 => hS j (by omega) (by omega)) (by rw [show i + 1 + d = i + (d + 1) by omega]; exact hl) (hc i (Nat.le_refl _) (by omega)) (fun j h1 h2 => hc j (by omega) (by omega)) y hy

/-! ### The reference's way: a pointer into the points -/
def refF (b c : Nat → Int) (n : Nat) : Nat → Nat → Int → List Int → List Int × List Int
  | 0, _, acc, r => ([acc], r)
  | d + 1, i, acc, [] => refF b c n d (i + 1) (acc + b i) []
  | d + 1, i, acc, p :: r => if p = (i : Int) ∧ i < n then ((acc + b i) :: (refF b c n d (i + 1) (c i) r).1, (refF b c n d (i + 1) (c i) r).2) else refF b c n d (i + 1) (acc + b i) (p :: r)
/-- They rise, and lie below n. -/
def valid (n : Nat) : Int → List Int → Bool
  | _, [] => true
  | last, p :: r => decide (last < p) && (decide (p < (n : Int)) && valid n p r)
theorem valid_all {n : Nat} : ∀ (l : List Int) (last : Int), valid n last l = true → ∀ p ∈ l, last < p ∧ p < (n : Int)
  | [], _, _, p, hp => by cases hp
  | q :: r, last, h, p, hp => by
    unfold valid at h
    simp only [Bool.and_eq_true, decide_eq_true_eq] at h
    rcases List.mem_cons.mp hp with rfl | hp
    · exact ⟨h.1, h.2.1⟩
    · have := valid_all r q h.2.2 p hp
      exact ⟨by omega, this.2⟩
theorem ref_left {b c : Nat → Int} {n : Nat} : ∀ (d i : Nat) (acc : Int) (r : List Int), i + d = n + 1 → ((refF b c n d i acc r).2 = [] ↔ valid n ((i : Int) - 1) r = true)
  | 0, i, acc, r, h => by
    unfold refF
    constructor
    · rintro rfl; rfl
    · intro hv
      cases r with
      | nil => rfl
      | cons p r =>
        have := valid_all _ _ hv p List.mem_cons_self
        omega
  | d + 1, i, acc, [], h => by
    unfold refF
    rw [ref_left d (i + 1) _ [] (by omega)]
    simp [valid]
  | d + 1, i, acc, p :: r, h => by
    unfold refF
    by_cases hp : p = (i : Int) ∧ i < n
    · rw [if_pos hp]
      show (refF b c n d (i + 1) (c i) r).2 = [] ↔ _
      rw [ref_left d (i + 1) _ r (by omega), show ((i + 1 : Nat) : Int) - 1 = (i : Int) by omega]
      obtain ⟨rfl, hn⟩ := hp
      have e : valid n ((i : Int) - 1) ((i : Int) :: r) = (decide ((i : Int) - 1 < (i : Int)) && (decide ((i : Int) < (n : Int)) && valid n (i : Int) r)) := rfl
      rw [e, decide_eq_true (show (i : Int) - 1 < (i : Int) by omega), decide_eq_true (show (i : Int) < (n : Int) by omega), Bool.true_and, Bool.true_and]
    · rw [if_neg hp, ref_left d (i + 1) _ (p :: r) (by omega), show ((i + 1 : Nat) : Int) - 1 = (i : Int) by omega]
      unfold valid
      simp only [Bool.and_eq_true, decide_eq_true_eq]
      constructor
      · rintro ⟨h1, h2, h3⟩; exact ⟨by omega, h2, h3⟩
      · rintro ⟨h1, h2, h3⟩; exact ⟨by omega, h2, h3⟩
theorem ref_list {b c : Nat → Int} {n : Nat} {S : Nat → Bool} : ∀ (d i : Nat) (acc : Int) (r : List Int), i + d = n + 1 → valid n ((i : Int) - 1) r = true → (∀ j, i ≤ j → S j = decide ((j : Int) ∈ r)) → (refF b c n d i acc r).1 = cutF b c S d i acc
  | 0, _, _, _, _, _, _ => rfl
  | d + 1, i, acc, [], h, hv, hS => by
    unfold refF cutF
    rw [if_neg (by rw [hS i (Nat.le_refl _)]; simp)]
    exact ref_list d (i + 1) _ [] (by omega) rfl (fun j hj => hS j (by omega))
  | d + 1, i, acc, p :: r, h, hv, hS => by
    have hall := valid_all _ _ hv
    unfold valid at hv
    simp only [Bool.and_eq_true, decide_eq_true_eq] at hv
    have hr := valid_all _ _ hv.2.2
    unfold refF cutF
    by_cases hp : p = (i : Int) ∧ i < n
    · rw [if_pos hp, if_pos (by rw [hS i (Nat.le_refl _), hp.1]; simp)]
      show _ :: (refF b c n d (i + 1) (c i) r).1 = _
      rw [ref_list (S := S) d (i + 1) _ r (by omega) (by rw [show ((i + 1 : Nat) : Int) - 1 = p by omega]; exact hv.2.2) (fun j hj => by
        rw [hS j (by omega)]
        simp only [List.mem_cons, show ¬ (j : Int) = p by omega, false_or])]
    · have hne : p ≠ (i : Int) := fun e => hp ⟨e, by omega⟩
      rw [if_neg hp, if_neg (by
        rw [hS i (Nat.le_refl _)]
        simp only [List.mem_cons, decide_eq_true_eq, not_or]
        exact ⟨by omega, fun hm => by have := hr _ hm; omega⟩)]
      refine ref_list d (i + 1) _ (p :: r) (by omega) ?_ (fun j hj => hS j (by omega))
      rw [show ((i + 1 : Nat) : Int) - 1 = (i : Int) by omega]
      unfold valid
      simp only [Bool.and_eq_true, decide_eq_true_eq]
      exact ⟨by omega, hv.2.1, hv.2.2⟩

/-! ### Sums, sets of digits -/
def sum : List Int → Int
  | [] => 0
  | x :: l => x + sum l
theorem sum_bound {M : Int} : ∀ {l : List Int}, (∀ y ∈ l, 0 ≤ y ∧ y ≤ M) → 0 ≤ sum l ∧ sum l ≤ M * l.length
  | [], _ => by simp [sum]
  | x :: l, h => by
    have r := sum_bound (l := l) (fun y hy => h y (List.mem_cons_of_mem _ hy))
    have x1 := h x List.mem_cons_self
    simp only [sum, List.length_cons, Int.natCast_add, Int.natCast_one, Int.mul_add, Int.mul_one]
    omega
theorem bits_of (S : Nat → Bool) : ∀ n : Nat, ∃ x : Nat, x < 2 ^ n ∧ ∀ i, i < n → x.testBit i = S i := by
  intro n
  induction n generalizing S with
  | zero => exact ⟨0, by decide, fun i h => absurd h (by omega)⟩
  | succ n ih =>
    obtain ⟨x, h1, h2⟩ := ih (fun i => S (i + 1))
    refine ⟨2 * x + (S 0).toNat, ?_, ?_⟩
    · have : (S 0).toNat ≤ 1 := by cases S 0 <;> decide
      rw [Nat.pow_succ]; omega
    · intro i hi
      have hb : (S 0).toNat ≤ 1 := by cases S 0 <;> decide
      cases i with
      | zero =>
        rw [Nat.testBit_zero]
        cases hS : S 0 with
        | true => simp only [Bool.toNat_true]; exact decide_eq_true (by omega)
        | false => simp only [Bool.toNat_false]; exact decide_eq_false (by omega)
      | succ i =>
        rw [← Nat.testBit_div_two, show (2 * x + (S 0).toNat) / 2 = x by omega]
        exact h2 i (by omega)

/-! ### The best points -/
def aheadL : List Int → List Int → Bool
  | x :: l, y :: m => if x = y then aheadL l m else decide (x < y)
  | _, _ => false
def cmpL : List Int → List Int → Int
  | [], [] => 0
  | [], _ :: _ => -1
  | _ :: _, [] => 1
  | x :: l, y :: m => if x < y then -1 else if x > y then 1 else cmpL l m
theorem cmp_ahead : ∀ {l m : List Int}, l.length = m.length → (cmpL l m < 0 ↔ aheadL l m = true)
  | [], [], _ => by simp [cmpL, aheadL]
  | [], _ :: _, h => by simp at h
  | _ :: _, [], h => by simp at h
  | x :: l, y :: m, h => by
    have r := cmp_ahead (l := l) (m := m) (by simpa using h)
    unfold cmpL aheadL
    by_cases h1 : x < y
    · rw [if_pos h1, if_neg (by omega)]; simp [h1]
    · rw [if_neg h1]
      by_cases h2 : x > y
      · rw [if_pos h2, if_neg (by omega)]; simp [h1]
      · rw [if_neg h2, if_pos (by omega)]; exact r
def better (p : List Int) (t : Int) (q : List Int) (u : Int) : Bool := decide (t < u) || (decide (t = u) && (decide (p.length < q.length) || (decide (p.length = q.length) && aheadL p q)))
abbrev St := List Int × Int × Bool
def step (P : Nat → List Int) (T : Nat → Int) (F : Nat → Bool) (s : St) (x : Nat) : St :=
  if F x = true then (if s.2.2 = true then (if better (P x) (T x) s.1 s.2.1 = true then (P x, T x, true) else s) else (P x, T x, true)) else s
def run (P : Nat → List Int) (T : Nat → Int) (F : Nat → Bool) : Nat → Nat → St → St
  | 0, _, s => s
  | d + 1, x, s => run P T F d (x + 1) (step P T F s x)
/-- What is known when all below X were looked at. -/
def Inv (P : Nat → List Int) (T : Nat → Int) (F : Nat → Bool) (X : Nat) (s : St) : Prop :=
  (s.2.2 = true → ∃ x, x < X ∧ F x = true ∧ s.1 = P x ∧ s.2.1 = T x) ∧ (s.2.2 = false → s.1 = [] ∧ s.2.1 = 0) ∧ ∀ x, x < X → F x = true → s.2.2 = true ∧ s.2.1 ≤ T x
theorem step_inv {P : Nat → List Int} {T : Nat → Int} {F : Nat → Bool} {X : Nat} {s : St} (h : Inv P T F X s) : Inv P T F (X + 1) (step P T F s X) := by
  obtain ⟨h1, h2, h3⟩ := h
  unfold step
  by_cases hF : F X = true
  · rw [if_pos hF]
    have new : (∀ x, x < X → F x = true → T X ≤ T x) → Inv P T F (X + 1) (P X, T X, true) := fun hle =>
      ⟨fun _ => ⟨X, by omega, hF, rfl, rfl⟩, fun h => by simp at h, fun x hx hf => ⟨rfl, by
        by_cases e : x = X
        · subst e; exact Int.le_refl _
        · exact hle x (by omega) hf⟩⟩
    by_cases hs : s.2.2 = true
    · rw [if_pos hs]
      by_cases hb : better (P X) (T X) s.1 s.2.1 = true
      · rw [if_pos hb]
        refine new (fun x hx hf => ?_)
        have := (h3 x hx hf).2
        have : T X ≤ s.2.1 := by
          unfold better at hb
          simp only [Bool.or_eq_true, Bool.and_eq_true, decide_eq_true_eq] at hb
          omega
        omega
      · rw [if_neg hb]
        refine ⟨fun hok => ?_, h2, fun x hx hf => ?_⟩
        · obtain ⟨x, a, b⟩ := h1 hok; exact ⟨x, by omega, b⟩
        · by_cases e : x = X
          · subst e
            refine ⟨hs, ?_⟩
            unfold better at hb
            simp only [Bool.or_eq_true, Bool.and_eq_true, decide_eq_true_eq, not_or] at hb
            omega
          · exact h3 x (by omega) hf
    · rw [if_neg hs]
      exact new (fun x hx hf => absurd (h3 x hx hf).1 hs)
  · rw [if_neg hF]
    refine ⟨fun hok => ?_, h2, fun x hx hf => ?_⟩
    · obtain ⟨x, a, b⟩ := h1 hok; exact ⟨x, by omega, b⟩
    · by_cases e : x = X
      · subst e; exact absurd hf hF
      · exact h3 x (by omega) hf
theorem run_inv {P : Nat → List Int} {T : Nat → Int} {F : Nat → Bool} : ∀ (d X : Nat) (s : St), Inv P T F X s → Inv P T F (X + d) (run P T F d X s)
  | 0, X, s, h => h
  | d + 1, X, s, h => by
    have r := run_inv d (X + 1) _ (step_inv h)
    rw [show X + (d + 1) = X + 1 + d by omega]
    exact r
theorem inv_start {P : Nat → List Int} {T : Nat → Int} {F : Nat → Bool} : Inv P T F 0 ([], 0, false) := ⟨fun h => by simp at h, fun _ => ⟨rfl, rfl⟩, fun x hx => absurd hx (by omega)⟩
end Go.Proofs.Ytbkkmlhoobkimaa.PointMath
/-! ## PointPure -/
namespace Go.Proofs.Ytbkkmlhoobkimaa.PointPure
open Go.RowKit Go.Proofs.Ytbkkmlhoobkimaa.QPt Go.Proofs.YtbkkmlhoobkimaaW.PrintWords Go.Proofs.YtbkkmlhoobkimaaW.PrintLast Go.Proofs.YtbkkmlhoobkimaaW.PrintMore Go.Proofs.Ytbkkmlhoobkimaa.PointMath
set_option linter.unusedVariables false

theorem evp {α : Type} {c : Prop} [Decidable c] {f g : Nat → Option α} {r : α} (h : c) (k : Ev f r) : Ev (fun n => if c then f n else g n) r := Ev.congr (fun _ => if_pos h) k
theorem evn {α : Type} {c : Prop} [Decidable c] {f g : Nat → Option α} {r : α} (h : ¬ c) (k : Ev g r) : Ev (fun n => if c then f n else g n) r := Ev.congr (fun _ => if_neg h) k
theorem evb {α β : Type} {o : Option α} {f : Nat → α → Option β} {a : α} {r : β} (h : o = some a) (k : Ev (fun n => f n a) r) : Ev (fun n => o.bind (f n)) r := Ev.congr (fun n => by rw [h]; rfl) k
theorem w64 {n : Int} (h0 : -9223372036854775808 ≤ n) (h1 : n ≤ 9223372036854775807) : wrap64 n = n := by unfold wrap64; omega
theorem wu64 {n : Int} (h0 : 0 ≤ n) (h1 : n < 18446744073709551616) : IntKind.u64.wrap n = n := by rw [IntKind.wrap_u64]; omega
theorem rd_drop {l : List Int} {i : Nat} (h : i < l.length) : l.drop i = rd l (i : Int) :: l.drop (i + 1) := by
  rw [List.drop_eq_getElem_cons h]; unfold rd
  rw [Int.toNat_natCast, List.getD_eq_getElem?_getD, List.getElem?_eq_getElem h]; rfl
theorem rd_mem {l : List Int} {i : Nat} (h : i < l.length) : rd l (i : Int) ∈ l := by
  unfold rd; rw [Int.toNat_natCast, List.getD_eq_getElem?_getD, List.getElem?_eq_getElem h]; exact List.getElem_mem _
theorem rd_out {l : List Int} {i : Nat} (h : l.length ≤ i) : rd l (i : Int) = 0 := by
  unfold rd; rw [Int.toNat_natCast, List.getD_eq_getElem?_getD, List.getElem?_eq_none h]; rfl
theorem rd_last (acc : List Int) (x : Int) : rd (acc ++ [x]) (acc.length : Int) = x := by
  unfold rd; rw [Int.toNat_natCast, List.getD_eq_getElem?_getD, List.getElem?_append_right (Nat.le_refl _), Nat.sub_self]; rfl
theorem set_last (acc : List Int) (x y : Int) : (acc ++ [x]).set acc.length y = acc ++ [y] := by
  rw [List.set_append_right (h := Nat.le_refl _), Nat.sub_self]; rfl
def bF (l : List Int) (i : Nat) : Int := rd l (i : Int)

/-! ### May work be? -/
def okB (l0 l1 : List Int) : Bool := (decide (1 ≤ l0.length) && (decide (l0.length ≤ 12) && (decide ((l1.length : Int) = (l0.length : Int) - 1) && (!(l0.any oddP) && !(l1.any oddP)))))
theorem is_eq (l0 l1 : List Int) : point_is.f l0 l1 = some (okB l0 l1) := rfl
theorem even_all {l : List Int} (h : l.any oddP = false) : ∀ x ∈ l, 0 ≤ x ∧ x ≤ 10000 := by
  intro x hx
  have := List.any_eq_false.mp h x hx
  unfold oddP at this
  simp only [Bool.or_eq_true, decide_eq_true_eq] at this
  omega
theorem ok_facts {l0 l1 : List Int} (h : okB l0 l1 = true) : l0.length ≤ 12 ∧ l0.length = l1.length + 1 ∧ (∀ x ∈ l0, 0 ≤ x ∧ x ≤ 10000) ∧ ∀ x ∈ l1, 0 ≤ x ∧ x ≤ 10000 := by
  unfold okB at h
  simp only [Bool.and_eq_true, decide_eq_true_eq, Bool.not_eq_true'] at h
  obtain ⟨h1, h2, h3, h4, h5⟩ := h
  exact ⟨h2, by omega, even_all h4, even_all h5⟩
theorem bF_in {l : List Int} (h : ∀ x ∈ l, 0 ≤ x ∧ x ≤ 10000) (i : Nat) : 0 ≤ bF l i ∧ bF l i ≤ 10000 := by
  unfold bF
  by_cases hi : i < l.length
  · exact h _ (rd_mem hi)
  · rw [rd_out (by omega)]; omega
theorem odd_lo {x : Int} (h : x < 0) : oddP x = true := by unfold oddP; simp [h]
theorem odd_hi {x : Int} (h : x > 10000) : oddP x = true := by unfold oddP; simp [show 10000 < x from h]
theorem odd_no {x : Int} (h : ¬ x < 0) (h' : ¬ x > 10000) : oddP x = false := by unfold oddP; simp; omega
theorem may_l1 (c : List Int) (hc : c.length ≤ 100) (d : Nat) : ∀ i : Nat, i + d = c.length → Ev (fun k => taskmasterref16_may.l1 k c (i : Int)) (!(c.drop i).any oddP) := by
  induction d with
  | zero =>
    intro i hi
    refine Ev.step (fun k => by rw [taskmasterref16_may.l1]) (evn (by omega) ?_)
    rw [List.drop_eq_nil_of_le (by omega)]; exact Ev.now true
  | succ d ih =>
    intro i hi
    rw [rd_drop (l := c) (i := i) (by omega), List.any_cons]
    refine Ev.step (fun k => by rw [taskmasterref16_may.l1]) (evp (by omega) (evp (by omega) ?_))
    by_cases h0 : rd c (i : Int) < 0
    · rw [odd_lo h0]; exact evp h0 (Ev.now false)
    refine evn h0 ?_
    by_cases h1 : rd c (i : Int) > 10000
    · rw [odd_hi h1]; exact evp h1 (Ev.now false)
    refine evn h1 ?_
    rw [odd_no h0 h1, Bool.false_or, w64 (by omega) (by omega)]
    exact ih (i + 1) (by omega)
theorem may_l0 (b c : List Int) (hb : b.length ≤ 100) (hc : c.length ≤ 100) (d : Nat) : ∀ i : Nat, i + d = b.length → Ev (fun k => taskmasterref16_may.l0 k b c (i : Int)) (!(b.drop i).any oddP && !c.any oddP) := by
  induction d with
  | zero =>
    intro i hi
    refine Ev.step (fun k => by rw [taskmasterref16_may.l0]) (evn (by omega) ?_)
    rw [List.drop_eq_nil_of_le (by omega)]
    exact may_l1 c hc c.length 0 (by omega)
  | succ d ih =>
    intro i hi
    rw [rd_drop (l := b) (i := i) (by omega), List.any_cons]
    refine Ev.step (fun k => by rw [taskmasterref16_may.l0]) (evp (by omega) (evp (by omega) ?_))
    by_cases h0 : rd b (i : Int) < 0
    · rw [odd_lo h0]; exact evp h0 (Ev.now false)
    refine evn h0 ?_
    by_cases h1 : rd b (i : Int) > 10000
    · rw [odd_hi h1]; exact evp h1 (Ev.now false)
    refine evn h1 ?_
    rw [odd_no h0 h1, Bool.false_or, w64 (by omega) (by omega)]
    exact ih (i + 1) (by omega)
theorem may_ev (b c : List Int) (hb : b.length ≤ 100) (hc : c.length ≤ 100) : Ev (fun k => taskmasterref16_may.f k b c) (okB b c) := by
  have no : Ev (fun k => taskmasterref16_may.j0 k b c true) false := Ev.step (fun k => by rw [taskmasterref16_may.j0, if_pos rfl]) (Ev.now false)
  unfold taskmasterref16_may.f okB
  by_cases h0 : (b.length : Int) < 1
  · rw [decide_eq_false (show ¬ 1 ≤ b.length by omega)]; exact evp h0 no
  rw [decide_eq_true (show 1 ≤ b.length by omega), Bool.true_and]
  refine evn h0 ?_
  by_cases h1 : (b.length : Int) > 12
  · rw [decide_eq_false (show ¬ b.length ≤ 12 by omega)]; exact evp h1 no
  rw [decide_eq_true (show b.length ≤ 12 by omega), Bool.true_and]
  refine evn h1 ?_
  rw [w64 (by omega) (by omega)]
  by_cases h2 : (c.length : Int) = (b.length : Int) - 1
  · rw [decide_eq_true h2, Bool.true_and, show ((c.length : Int) != (b.length : Int) - 1) = false by rw [h2]; simp]
    refine Ev.step (fun k => by rw [taskmasterref16_may.j0, if_neg (by simp)]) ?_
    exact may_l0 b c hb hc b.length 0 (by omega)
  · rw [decide_eq_false h2, show ((c.length : Int) != (b.length : Int) - 1) = true by simpa using h2]
    exact no

/-! ### Are points points? Is a place in them? -/
theorem isPoints_loop (n : Nat) (l : List Int) (hl : l.length ≤ 1000) (d : Nat) : ∀ (i : Nat) (last : Int), i + d = l.length → Ev (fun k => point_isPoints.l0 k (n : Int) last l (l.length : Int) (i : Int)) (valid n last (l.drop i)) := by
  induction d with
  | zero =>
    intro i last hi
    refine Ev.step (fun k => by rw [point_isPoints.l0]) (evn (by omega) ?_)
    rw [List.drop_eq_nil_of_le (by omega)]; exact Ev.now true
  | succ d ih =>
    intro i last hi
    have e : valid n last (l.drop i) = (decide (last < rd l (i : Int)) && (decide (rd l (i : Int) < (n : Int)) && valid n (rd l (i : Int)) (l.drop (i + 1)))) := by
      rw [rd_drop (l := l) (i := i) (by omega)]; rfl
    rw [e]
    refine Ev.step (fun k => by rw [point_isPoints.l0]) (evp (by omega) (evp (by omega) (evp (by omega) ?_)))
    by_cases h0 : rd l (i : Int) ≤ last
    · rw [decide_eq_false (by omega)]; exact evp h0 (Ev.now false)
    refine evn h0 ?_
    by_cases h1 : rd l (i : Int) ≥ (n : Int)
    · rw [decide_eq_false (show ¬ rd l (i : Int) < (n : Int) by omega), Bool.false_and, Bool.and_false]; exact evp h1 (Ev.now false)
    refine evn h1 ?_
    rw [decide_eq_true (show last < rd l (i : Int) by omega), decide_eq_true (show rd l (i : Int) < (n : Int) by omega), Bool.true_and, Bool.true_and, w64 (by omega) (by omega)]
    exact ih (i + 1) _ (by omega)
theorem isPoints_ev (n : Nat) (l : List Int) (hl : l.length ≤ 1000) : Ev (fun k => point_isPoints.f k l (n : Int)) (valid n (-1) l) := isPoints_loop n l hl l.length 0 (-1) (by omega)
theorem index_loop (a : Int) (l : List Int) (hl : l.length ≤ 1000) (d : Nat) : ∀ i : Nat, i + d = l.length → ∃ r, Ev (fun k => slices_Index_int_int.l0 k l a (l.length : Int) (i : Int)) r ∧ decide (r ≥ 0) = decide (a ∈ l.drop i) := by
  induction d with
  | zero =>
    intro i hi
    refine ⟨-1, Ev.step (fun k => by rw [slices_Index_int_int.l0]) (evn (by omega) (Ev.now _)), ?_⟩
    rw [List.drop_eq_nil_of_le (by omega)]; simp
  | succ d ih =>
    intro i hi
    rw [rd_drop (l := l) (i := i) (by omega)]
    by_cases h0 : a = rd l (i : Int)
    · refine ⟨i, Ev.step (fun k => by rw [slices_Index_int_int.l0]) (evp (by omega) (evp (by omega) (evp (by omega) (evp h0 (Ev.now _))))), ?_⟩
      rw [decide_eq_true (by omega), decide_eq_true (by rw [← h0]; exact List.mem_cons_self)]
    · obtain ⟨r, hr, e⟩ := ih (i + 1) (by omega)
      refine ⟨r, Ev.step (fun k => by rw [slices_Index_int_int.l0]) (evp (by omega) (evp (by omega) (evp (by omega) (evn h0 ?_)))), ?_⟩
      · rw [w64 (by omega) (by omega)]; exact hr
      · rw [e]; simp [h0]
theorem contains_ev (a : Int) (l : List Int) (hl : l.length ≤ 1000) : Ev (fun k => slices_Contains_int_int.f k l a) (decide (a ∈ l)) := by
  obtain ⟨r, hr, e⟩ := index_loop a l hl l.length 0 (by omega)
  unfold slices_Contains_int_int.f slices_Index_int_int.f
  refine Ev.bind hr ?_
  rw [e]; exact Ev.now _

/-! ### Cut -/
def inP (pts : List Int) (j : Nat) : Bool := decide ((j : Int) ∈ pts)
def cutV (b c pts : List Int) : List Int × Bool := if okB b c = true ∧ valid c.length (-1) pts = true then (cutF (bF b) (bF c) (inP pts) (c.length + 1) 0 0, true) else ([], false)
theorem cut_loop {b c : List Int} (h : okB b c = true) (pts : List Int) (hp : pts.length ≤ 1000) (hv : valid c.length (-1) pts = true) (d : Nat) : ∀ (i : Nat) (acc : List Int) (g : Int), i + d = b.length → acc.length ≤ i → 0 ≤ g → g ≤ 10000 * (i + 1) →
    Ev (fun k => point_Cut.l0 k c pts acc g b (b.length : Int) (i : Int)) (acc ++ cutF (bF b) (bF c) (inP pts) d i g, true) := by
  obtain ⟨h12, hlen, hb, hc⟩ := ok_facts h
  have hall := valid_all _ _ hv
  induction d with
  | zero =>
    intro i acc g hi ha g0 g1
    rw [show cutF (bF b) (bF c) (inP pts) 0 i g = [g] from rfl]
    exact Ev.step (fun k => by rw [point_Cut.l0]) (evn (by omega) (evp (by omega) (Ev.now _)))
  | succ d ih =>
    intro i acc g hi ha g0 g1
    have b1 := bF_in hb i
    have ew : wrap64 (g + rd b (i : Int)) = g + bF b i := by
      have : rd b (i : Int) = bF b i := rfl
      rw [this]; exact w64 (by omega) (by omega)
    have ei : wrap64 ((i : Int) + 1) = ((i + 1 : Nat) : Int) := w64 (by omega) (by omega)
    refine Ev.step (fun k => by rw [point_Cut.l0]) (evp (by omega) (evp (by omega) (evp (by omega) (Ev.bind (contains_ev _ pts hp) ?_))))
    rw [ew, ei]
    by_cases hS : (i : Int) ∈ pts
    · have hn := (hall _ hS).2
      have c1 := bF_in hc i
      refine evp (decide_eq_true hS) (evp (by omega) (evp hn ?_))
      have r := ih (i + 1) (acc ++ [g + bF b i]) (bF c i) (by omega) (by rw [List.length_append]; simp; omega) c1.1 (by omega)
      rw [List.append_assoc] at r
      have e : cutF (bF b) (bF c) (inP pts) (d + 1) i g = (g + bF b i) :: cutF (bF b) (bF c) (inP pts) d (i + 1) (bF c i) := by
        show (if _ then _ else _) = _
        rw [if_pos (show inP pts i = true from decide_eq_true hS)]
      rw [e]; exact r
    · refine evn (by simp [hS]) ?_
      have r := ih (i + 1) acc (g + bF b i) (by omega) (by omega) (by omega) (by omega)
      have e : cutF (bF b) (bF c) (inP pts) (d + 1) i g = cutF (bF b) (bF c) (inP pts) d (i + 1) (g + bF b i) := by
        show (if _ then _ else _) = _
        rw [if_neg (by unfold inP; simp [hS])]
      rw [e]; exact r
theorem cut_ev (b c pts : List Int) (hp : pts.length ≤ 1000) (hc : c.length ≤ 1000) : Ev (fun k => point_Cut.f k b c pts) (cutV b c pts) := by
  have no : Ev (fun k => point_Cut.j0 k b c pts true) ([], false) := Ev.step (fun k => by rw [point_Cut.j0, if_pos rfl]) (Ev.now _)
  unfold point_Cut.f cutV
  refine evb (is_eq b c) ?_
  by_cases h : okB b c = true
  · refine evp h (Ev.bind (isPoints_ev _ _ hp) ?_)
    by_cases hv : valid c.length (-1) pts = true
    · rw [if_pos ⟨h, hv⟩, hv]
      refine Ev.step (fun k => by rw [point_Cut.j0, if_neg (by simp)]) ?_
      have hlen := (ok_facts h).2.1
      have r := cut_loop h pts hp hv b.length 0 [] 0 (by omega) (by simp) (by omega) (by omega)
      rw [List.nil_append] at r
      rw [← hlen]; exact r
    · rw [if_neg (fun x => hv x.2), show valid c.length (-1) pts = false by simpa using hv]
      exact no
  · rw [if_neg (fun x => h x.1)]
    exact evn h no
theorem wi {i : Nat} (h : i ≤ 1000000) : wrap64 ((i : Int) + 1) = ((i + 1 : Nat) : Int) := w64 (by omega) (by omega)
theorem rcut_step {b c pts acc : List Int} {g : Int} {i m : Nat} {r : List Int × Bool} (hp : pts.length ≤ 1000) (hi : i < b.length) (h12 : b.length ≤ 12) (ha : acc.length ≤ i) (g0 : 0 ≤ g) (g1 : g ≤ 10000 * (i + 1)) (b1 : 0 ≤ bF b i ∧ bF b i ≤ 10000) (hm : m ≤ pts.length) :
    (m < pts.length → rd pts (m : Int) = (i : Int) → i < c.length → Ev (fun k => taskmasterref16_Cut.l0 k b c pts ((acc ++ [g + bF b i]) ++ [bF c i]) ((m + 1 : Nat) : Int) ((i + 1 : Nat) : Int)) r) →
    (¬ (m < pts.length ∧ rd pts (m : Int) = (i : Int) ∧ i < c.length) → Ev (fun k => taskmasterref16_Cut.l0 k b c pts (acc ++ [g + bF b i]) (m : Int) ((i + 1 : Nat) : Int)) r) →
    Ev (fun k => taskmasterref16_Cut.l0 k b c pts (acc ++ [g]) (m : Int) (i : Int)) r := by
  have q1 : (i : Int) < (b.length : Int) := by omega
  have q2 : 0 ≤ (i : Int) := by omega
  have q3 : 0 ≤ (m : Int) := by omega
  have q4 : (acc ++ [g + bF b i]).length < 17592186044416 := by simp; omega
  have q5 : -9223372036854775808 ≤ g + bF b i := by omega
  have q6 : g + bF b i ≤ 9223372036854775807 := by omega
  have q7 : i ≤ 1000000 := by omega
  have q8 : m ≤ 1000000 := by omega
  have q9 : acc.length ≤ 1000000 := by omega
  have el : wrap64 (((acc ++ [g]).length : Int) - 1) = (acc.length : Int) := by
    rw [show ((acc ++ [g]).length : Int) - 1 = (acc.length : Int) by simp]; exact w64 (by omega) (by omega)
  have c1 : 0 ≤ wrap64 (((acc ++ [g]).length : Int) - 1) := by rw [el]; exact Int.natCast_nonneg _
  have c2 : wrap64 (((acc ++ [g]).length : Int) - 1) < ((acc ++ [g]).length : Int) := by rw [el]; simp; clear el c1; omega
  have ew : wrap64 (rd (acc ++ [g]) (wrap64 (((acc ++ [g]).length : Int) - 1)) + rd b (i : Int)) = g + bF b i := by
    rw [el, rd_last]; exact w64 q5 q6
  have es : (acc ++ [g]).set (wrap64 (((acc ++ [g]).length : Int) - 1)).toNat (g + bF b i) = acc ++ [g + bF b i] := by
    rw [el, Int.toNat_natCast, set_last]
  have ei := wi q7
  have em := wi q8
  intro hnew hold
  refine Ev.step (fun k => by rw [taskmasterref16_Cut.l0, ew, es]) ?_
  refine evp q1 (evp c1 (evp c2 (evp q2 (evb (a := acc ++ [g + bF b i]) rfl ?_))))
  rw [em, ei]
  by_cases e : m < pts.length
  · refine evp (Int.ofNat_lt.mpr e) (evp q3 ?_)
    by_cases e1 : rd pts (m : Int) = (i : Int)
    · refine evp e1 ?_
      by_cases e2 : i < c.length
      · exact evp (Int.ofNat_lt.mpr e2) (evp q4 (hnew e e1 e2))
      · exact evn (fun x => e2 (Int.ofNat_lt.mp x)) (hold (fun q => e2 q.2.2))
    · exact evn e1 (hold (fun q => e1 q.2.1))
  · exact evn (fun x => e (Int.ofNat_lt.mp x)) (hold (fun q => e q.1))
theorem rcut_loop {b c : List Int} (h : okB b c = true) (pts : List Int) (hp : pts.length ≤ 1000) (d : Nat) : ∀ (i m : Nat) (acc : List Int) (g : Int) (r : List Int × Bool), i + d = b.length → m ≤ pts.length → acc.length ≤ i → 0 ≤ g → g ≤ 10000 * (i + 1) →
    (if (refF (bF b) (bF c) c.length d i g (pts.drop m)).2 = [] then (acc ++ (refF (bF b) (bF c) c.length d i g (pts.drop m)).1, true) else ([], false)) = r → Ev (fun k => taskmasterref16_Cut.l0 k b c pts (acc ++ [g]) (m : Int) (i : Int)) r := by
  obtain ⟨h12, hlen, hb, hc⟩ := ok_facts h
  induction d with
  | zero =>
    intro i m acc g r hi hm ha g0 g1 hr
    have hz : refF (bF b) (bF c) c.length 0 i g (pts.drop m) = ([g], pts.drop m) := rfl
    rw [hz] at hr
    refine Ev.step (fun k => by rw [taskmasterref16_Cut.l0]) (evn (by omega) ?_)
    by_cases e : m < pts.length
    · rw [if_neg (by rw [rd_drop e]; simp)] at hr
      subst hr
      exact evp (by omega) (Ev.now _)
    · rw [if_pos (List.drop_eq_nil_of_le (by omega))] at hr
      subst hr
      exact evn (by omega) (Ev.now _)
  | succ d ih =>
    intro i m acc g r hi hm ha g0 g1 hr
    have b1 := bF_in hb i
    have c1 := bF_in hc i
    refine rcut_step hp (by omega) h12 ha g0 g1 b1 hm (fun e e1 e2 => ?_) (fun no => ?_)
    · have eq : refF (bF b) (bF c) c.length (d + 1) i g (pts.drop m) = ((g + bF b i) :: (refF (bF b) (bF c) c.length d (i + 1) (bF c i) (pts.drop (m + 1))).1, (refF (bF b) (bF c) c.length d (i + 1) (bF c i) (pts.drop (m + 1))).2) := by
        rw [rd_drop e, refF, if_pos ⟨e1, e2⟩]
      rw [eq] at hr
      refine ih (i + 1) (m + 1) (acc ++ [g + bF b i]) (bF c i) r (by omega) (by omega) (by rw [List.length_append]; simp; omega) c1.1 (by omega) ?_
      rw [List.append_assoc]; exact hr
    · have eq : refF (bF b) (bF c) c.length (d + 1) i g (pts.drop m) = refF (bF b) (bF c) c.length d (i + 1) (g + bF b i) (pts.drop m) := by
        by_cases e : m < pts.length
        · rw [rd_drop e, refF, if_neg (fun q => no ⟨e, q.1, q.2⟩)]
        · rw [List.drop_eq_nil_of_le (by omega), refF]
      rw [eq] at hr
      exact ih (i + 1) m acc (g + bF b i) r (by omega) hm (by omega) (by omega) (by omega) hr
theorem rcut_ev (b c pts : List Int) (hp : pts.length ≤ 1000) (hb : b.length ≤ 100) (hc : c.length ≤ 100) : Ev (fun k => taskmasterref16_Cut.f k b c pts) (cutV b c pts) := by
  unfold taskmasterref16_Cut.f cutV
  refine Ev.bind (may_ev b c hb hc) ?_
  by_cases h : okB b c = true
  · refine evp h ?_
    have hlen := (ok_facts h).2.1
    have hl := ref_left (b := bF b) (c := bF c) (n := c.length) (c.length + 1) 0 0 pts (by omega)
    rw [show ((0 : Nat) : Int) - 1 = -1 by omega] at hl
    refine rcut_loop h pts hp b.length 0 0 [] 0 _ (by omega) (by omega) (by simp) (by omega) (by omega) ?_
    rw [List.drop_zero, List.nil_append, hlen]
    by_cases hv : valid c.length (-1) pts = true
    · rw [if_pos (hl.mpr hv), if_pos ⟨h, hv⟩, ref_list (S := inP pts) (c.length + 1) 0 0 pts (by omega) hv (fun j _ => rfl)]
    · rw [if_neg (fun x => hv (hl.mp x)), if_neg (fun x => hv x.2)]
  · rw [if_neg (fun x => h x.1)]
    exact evn h (Ev.now _)
end Go.Proofs.Ytbkkmlhoobkimaa.PointPure
/-! ## PointChoose -/
namespace Go.Proofs.Ytbkkmlhoobkimaa.PointPure
open Go.RowKit Go.Proofs.Ytbkkmlhoobkimaa.QPt Go.Proofs.YtbkkmlhoobkimaaW.PrintWords Go.Proofs.YtbkkmlhoobkimaaW.PrintLast Go.Proofs.YtbkkmlhoobkimaaW.PrintMore Go.Proofs.Ytbkkmlhoobkimaa.PointMath
set_option linter.unusedVariables false

theorem bit_eq (x i : Nat) (hx : x < 4096) (hi : i ≤ 12) : (Go.bits .and .i64 (shr .i64 (x : Int) (i : Int)) 1 = 1) ↔ x.testBit i = true := by
  have e2 : shr .i64 (x : Int) (i : Int) = ((x / 2 ^ i : Nat) : Int) := by
    unfold shr
    rw [Int.toNat_natCast]
    have hj : i ≤ IntKind.i64.bits := by show i ≤ 64; omega
    rw [show min i IntKind.i64.bits = i from Nat.min_eq_left hj]
    norm_cast
  have hd : x / 2 ^ i < 2 ^ 62 := Nat.lt_of_le_of_lt (Nat.div_le_self _ _) (Nat.lt_of_lt_of_le hx (by decide))
  have e3 := (bits_nat .i64 62 (by decide) (fun n h0 h1 => by rw [IntKind.wrap_i64]; omega) (x / 2 ^ i) 1 hd (by decide)).1
  rw [show ((1 : Nat) : Int) = 1 from rfl] at e3
  rw [e2, e3, Nat.and_one_is_mod, Nat.testBit_eq_decide_div_mod_eq, decide_eq_true_iff]
  omega
theorem chosen_loop (x n : Nat) (hx : x < 4096) (hn : n ≤ 12) (d : Nat) : ∀ (i : Nat) (acc : List Int), i + d = n → acc.length ≤ i → Ev (fun k => point_chosen.l0 k (x : Int) acc (n : Int) (i : Int)) (acc ++ ptsF x.testBit d i) := by
  induction d with
  | zero =>
    intro i acc hi ha
    refine Ev.step (fun k => by rw [point_chosen.l0]) (evn (by omega) ?_)
    unfold ptsF; rw [List.append_nil]; exact Ev.now _
  | succ d ih =>
    intro i acc hi ha
    refine Ev.step (fun k => by rw [point_chosen.l0]) (evp (by omega) (evp (by omega) ?_))
    rw [w64 (by omega) (by omega)]
    unfold ptsF
    by_cases hb : x.testBit i = true
    · rw [if_pos hb]
      refine evp ((bit_eq x i hx (by omega)).mpr hb) (evp (by omega) ?_)
      have r := ih (i + 1) (acc ++ [(i : Int)]) (by omega) (by rw [List.length_append]; simp; omega)
      rw [List.append_assoc] at r; exact r
    · rw [if_neg hb]
      exact evn (fun h => hb ((bit_eq x i hx (by omega)).mp h)) (ih (i + 1) acc (by omega) (by omega))
theorem points_loop (x n : Nat) (hx : x < 4096) (hn : n ≤ 12) (d : Nat) : ∀ (i : Nat) (acc : List Int), i + d = n → acc.length ≤ i → Ev (fun k => taskmasterref16_points.l0 k (x : Int) (n : Int) acc (i : Int)) (acc ++ ptsF x.testBit d i) := by
  induction d with
  | zero =>
    intro i acc hi ha
    refine Ev.step (fun k => by rw [taskmasterref16_points.l0]) (evn (by omega) ?_)
    unfold ptsF; rw [List.append_nil]; exact Ev.now _
  | succ d ih =>
    intro i acc hi ha
    refine Ev.step (fun k => by rw [taskmasterref16_points.l0]) (evp (by omega) ?_)
    rw [wu64 (n := (i : Int)) (by omega) (by omega)]
    refine evp (by omega) ?_
    rw [w64 (by omega) (by omega)]
    unfold ptsF
    by_cases hb : x.testBit i = true
    · rw [if_pos hb]
      refine evp ((bit_eq x i hx (by omega)).mpr hb) (evp (by omega) ?_)
      have r := ih (i + 1) (acc ++ [(i : Int)]) (by omega) (by rw [List.length_append]; simp; omega)
      rw [List.append_assoc] at r; exact r
    · rw [if_neg hb]
      exact evn (fun h => hb ((bit_eq x i hx (by omega)).mp h)) (ih (i + 1) acc (by omega) (by omega))
/-- The points of a number, their regions, their total; do they fit? -/
def P (n x : Nat) : List Int := ptsF x.testBit n 0
def R (b c : List Int) (x : Nat) : List Int := cutF (bF b) (bF c) x.testBit (c.length + 1) 0 0
def T (b c : List Int) (x : Nat) : Int := sum (R b c x)
def F (b c : List Int) (q : Int) (x : Nat) : Bool := (R b c x).all fun y => decide (y ≤ q)
theorem chosen_ev (x n : Nat) (hx : x < 4096) (hn : n ≤ 12) : Ev (fun k => point_chosen.f k (x : Int) (n : Int)) (P n x) := chosen_loop x n hx hn n 0 [] (by omega) (by simp)
theorem points_ev (x n : Nat) (hx : x < 4096) (hn : n ≤ 12) : Ev (fun k => taskmasterref16_points.f k (x : Int) (n : Int)) (P n x) := points_loop x n hx hn n 0 [] (by omega) (by simp)
theorem ptsF_valid (S : Nat → Bool) (n : Nat) : ∀ (d i : Nat) (last : Int), last < (i : Int) → i + d = n → valid n last (ptsF S d i) = true
  | 0, _, _, _, _ => rfl
  | d + 1, i, last, h0, h1 => by
    unfold ptsF
    by_cases hS : S i = true
    · rw [if_pos hS]
      show (decide (last < (i : Int)) && (decide ((i : Int) < (n : Int)) && valid n (i : Int) _)) = true
      rw [decide_eq_true h0, decide_eq_true (show (i : Int) < (n : Int) by omega), ptsF_valid S n d (i + 1) i (by omega) (by omega)]; rfl
    · rw [if_neg hS]; exact ptsF_valid S n d (i + 1) last (by omega) (by omega)
theorem pow_le12 {n : Nat} (h : n ≤ 11) : 2 ^ n ≤ 2048 := Nat.pow_le_pow_right (n := 2) (by decide) h
theorem cut_same {b c : List Int} {x : Nat} {pts : List Int} (hv : valid c.length (-1) pts = true) (hx : x < 2 ^ c.length) (h : ∀ j, j < c.length → x.testBit j = decide ((j : Int) ∈ pts)) : cutF (bF b) (bF c) (inP pts) (c.length + 1) 0 0 = R b c x := by
  unfold R
  refine cutF_congr _ _ _ (fun j _ h2 => ?_)
  unfold inP
  by_cases e : j < c.length
  · exact (h j e).symm
  · have : ¬ (j : Int) ∈ pts := fun hm => by have := (valid_all _ _ hv _ hm).2; omega
    rw [decide_eq_false this]
    obtain rfl : j = c.length := by omega
    exact (Nat.testBit_lt_two_pow hx).symm
theorem cutV_P {b c : List Int} (h : okB b c = true) {x : Nat} (hx : x < 2 ^ c.length) : cutV b c (P c.length x) = (R b c x, true) := by
  have hv : valid c.length (-1) (P c.length x) = true := ptsF_valid _ _ _ 0 _ (by omega) (by omega)
  unfold cutV
  rw [if_pos ⟨h, hv⟩, cut_same hv hx (fun j hj => ?_)]
  have e : ((j : Int) ∈ P c.length x) ↔ _ := ptsF_mem x.testBit c.length 0 j
  by_cases hb : x.testBit j = true
  · rw [hb, decide_eq_true (e.mpr ⟨by omega, by omega, hb⟩)]
  · rw [decide_eq_false (fun hm => hb (e.mp hm).2.2)]; simpa using hb
theorem R_in {b c : List Int} (h : okB b c = true) (x : Nat) : (∀ y ∈ R b c x, 0 ≤ y ∧ y ≤ 130000) ∧ (R b c x).length ≤ 13 ∧ 1 ≤ (R b c x).length := by
  obtain ⟨h12, hlen, hb, hc⟩ := ok_facts h
  refine ⟨fun y hy => ?_, ?_, ?_⟩
  · have := cutF_bound (c.length + 1) 0 0 (fun j _ => bF_in hb j) (fun j _ _ => bF_in hc j) (by omega) (by omega) y hy
    omega
  · unfold R; rw [cutF_length]; have := ptsF_le x.testBit (c.length + 1) 0; omega
  · unfold R; rw [cutF_length]; omega
theorem sum_loop {l : List Int} (h : ∀ y ∈ l, 0 ≤ y ∧ y ≤ 130000) (hl : l.length ≤ 20) (d : Nat) : ∀ (i : Nat) (acc : Int), i + d = l.length → 0 ≤ acc → acc ≤ 130000 * i → Ev (fun k => point_sum.l0 k acc l (l.length : Int) (i : Int)) (acc + sum (l.drop i)) := by
  induction d with
  | zero =>
    intro i acc hi h0 h1
    refine Ev.step (fun k => by rw [point_sum.l0]) (evn (by omega) ?_)
    rw [List.drop_eq_nil_of_le (by omega), show acc + sum [] = acc by simp [sum]]; exact Ev.now _
  | succ d ih =>
    intro i acc hi h0 h1
    have x1 := h _ (rd_mem (l := l) (i := i) (by omega))
    refine Ev.step (fun k => by rw [point_sum.l0]) (evp (by omega) (evp (by omega) (evp (by omega) ?_)))
    rw [w64 (n := acc + _) (by omega) (by omega), wi (by omega), rd_drop (l := l) (i := i) (by omega), show acc + sum (rd l (i : Int) :: l.drop (i + 1)) = (acc + rd l (i : Int)) + sum (l.drop (i + 1)) by simp only [sum]; omega]
    exact ih (i + 1) _ (by omega) (by omega) (by omega)
theorem sum_ev {l : List Int} (h : ∀ y ∈ l, 0 ≤ y ∧ y ≤ 130000) (hl : l.length ≤ 20) : Ev (fun k => point_sum.f k l) (sum l) := by
  have r := sum_loop h hl l.length 0 0 (by omega) (by omega) (by omega)
  rw [List.drop_zero, Int.zero_add] at r; exact r
theorem maxFrom_gt (q : Int) : ∀ (l : List Int) (m : Int), (maxFrom m l > q) ↔ (m > q ∨ ∃ y ∈ l, y > q)
  | [], m => by unfold maxFrom; simp
  | x :: l, m => by
    unfold maxFrom
    rw [maxFrom_gt q l]
    constructor
    · rintro (h | ⟨y, hy, h⟩)
      · by_cases hx : m < x
        · rw [if_pos hx] at h; exact Or.inr ⟨x, List.mem_cons_self, h⟩
        · rw [if_neg hx] at h; exact Or.inl h
      · exact Or.inr ⟨y, List.mem_cons_of_mem _ hy, h⟩
    · rintro (h | ⟨y, hy, h⟩)
      · left; split <;> omega
      · rcases List.mem_cons.mp hy with rfl | hy
        · left; split <;> omega
        · exact Or.inr ⟨y, hy, h⟩
theorem max_eq {l : List Int} (h : 1 ≤ l.length) (q : Int) : ∃ m, slices_Max_int64_int64.f l = some m ∧ (m > q ↔ (l.all fun y => decide (y ≤ q)) = false) := by
  cases l with
  | nil => simp at h
  | cons x l =>
    refine ⟨maxFrom x l, rfl, ?_⟩
    rw [maxFrom_gt, List.all_eq_false]
    constructor
    · rintro (h | ⟨y, hy, h⟩)
      · exact ⟨x, List.mem_cons_self, by simp; omega⟩
      · exact ⟨y, List.mem_cons_of_mem _ hy, by simp; omega⟩
    · rintro ⟨y, hy, h⟩
      have h' : y > q := by simpa using h
      rcases List.mem_cons.mp hy with rfl | hy
      · exact Or.inl h'
      · exact Or.inr ⟨y, hy, h'⟩
theorem compare64_eq (a b : Int) : cmp_Compare_int64.f a b = some (if a < b then -1 else if a > b then 1 else 0) := by
  unfold cmp_Compare_int64.f cmp_isNaN_int64.f
  rw [Option.bind_some, Option.bind_some, if_neg (by simp), if_neg (by simp)]
  split
  · rfl
  · split <;> rfl
theorem compare_eq (a b : Int) : cmp_Compare_int.f a b = some (if a < b then -1 else if a > b then 1 else 0) := by
  unfold cmp_Compare_int.f cmp_isNaN_int.f
  rw [Option.bind_some, Option.bind_some, if_neg (by simp), if_neg (by simp)]
  split
  · rfl
  · split <;> rfl
theorem scompare_loop (l m : List Int) (hl : l.length ≤ 1000) (d : Nat) : ∀ i : Nat, i + d = l.length → Ev (fun k => slices_Compare_int_int.l0 k l m l (l.length : Int) (i : Int)) (cmpL (l.drop i) (m.drop i)) := by
  induction d with
  | zero =>
    intro i hi
    refine Ev.step (fun k => by rw [slices_Compare_int_int.l0]) (evn (by omega) ?_)
    rw [List.drop_eq_nil_of_le (show l.length ≤ i by omega)]
    by_cases e : (l.length : Int) < (m.length : Int)
    · rw [rd_drop (l := m) (i := i) (by omega)]; exact evp e (Ev.now _)
    · rw [List.drop_eq_nil_of_le (show m.length ≤ i by omega)]; exact evn e (Ev.now _)
  | succ d ih =>
    intro i hi
    rw [rd_drop (l := l) (i := i) (by omega)]
    refine Ev.step (fun k => by rw [slices_Compare_int_int.l0]) (evp (by omega) (evp (by omega) (evp (by omega) ?_)))
    by_cases e : (i : Int) ≥ (m.length : Int)
    · rw [List.drop_eq_nil_of_le (show m.length ≤ i by omega)]; exact evp e (Ev.now _)
    · rw [rd_drop (l := m) (i := i) (by omega)]
      refine evn e (evp (by omega) (evb (compare_eq _ _) ?_))
      show Ev _ (if _ then _ else _)
      by_cases h1 : rd l (i : Int) < rd m (i : Int)
      · rw [if_pos h1, if_pos h1]; exact evn (by decide) (Ev.now _)
      · rw [if_neg h1, if_neg h1]
        by_cases h2 : rd l (i : Int) > rd m (i : Int)
        · rw [if_pos h2, if_pos h2]; exact evn (by decide) (Ev.now _)
        · rw [if_neg h2, if_neg h2, w64 (by omega) (by omega)]; exact evp rfl (ih (i + 1) (by omega))
theorem scompare_ev (l m : List Int) (hl : l.length ≤ 1000) : Ev (fun k => slices_Compare_int_int.f k l m) (cmpL l m) := scompare_loop l m hl l.length 0 (by omega)
theorem or_ev (a b c : Int) : Ev (fun k => cmp_Or_int.f k [a, b, c]) (if a = 0 then (if b = 0 then c else b) else a) := by
  have e1 : wrap64 ((0 : Int) + 1) = 1 := by unfold wrap64; omega
  have e2 : wrap64 ((1 : Int) + 1) = 2 := by unfold wrap64; omega
  have e3 : wrap64 ((2 : Int) + 1) = 3 := by unfold wrap64; omega
  have el : (([a, b, c] : List Int).length : Int) = 3 := rfl
  have r0 : rd [a, b, c] 0 = a := rfl
  have r1 : rd [a, b, c] 1 = b := rfl
  have r2 : rd [a, b, c] 2 = c := rfl
  unfold cmp_Or_int.f
  rw [el]
  refine Ev.step (fun k => by rw [cmp_Or_int.l0, el, r0, e1]) (evp (by decide) (evp (by decide) (evp (by decide) ?_)))
  by_cases h0 : a = 0
  · rw [if_pos h0]
    refine evp h0 (Ev.step (fun k => by rw [cmp_Or_int.l0, el, r1, e2]) (evp (by decide) (evp (by decide) (evp (by decide) ?_))))
    by_cases h1 : b = 0
    · rw [if_pos h1]
      refine evp h1 (Ev.step (fun k => by rw [cmp_Or_int.l0, el, r2, e3]) (evp (by decide) (evp (by decide) (evp (by decide) ?_))))
      by_cases h2 : c = 0
      · refine evp h2 (Ev.step (fun k => by rw [cmp_Or_int.l0]) (evn (by decide) ?_))
        rw [h2]; exact Ev.now _
      · exact evn h2 (Ev.now _)
    · rw [if_neg h1]; exact evn h1 (Ev.now _)
  · rw [if_neg h0]; exact evn h0 (Ev.now _)
theorem or_better (p : List Int) (t : Int) (q : List Int) (u : Int) :
    ((if (if t < u then (-1 : Int) else if t > u then 1 else 0) = 0 then (if (if (p.length : Int) < (q.length : Int) then (-1 : Int) else if (p.length : Int) > (q.length : Int) then 1 else 0) = 0 then cmpL p q else (if (p.length : Int) < (q.length : Int) then (-1 : Int) else if (p.length : Int) > (q.length : Int) then 1 else 0)) else (if t < u then (-1 : Int) else if t > u then 1 else 0)) < 0) ↔ better p t q u = true := by
  unfold better
  by_cases h1 : t < u
  · rw [if_pos h1]; simp [h1]
  · rw [if_neg h1]
    by_cases h2 : t > u
    · rw [if_pos h2]; simp [h1]; omega
    · rw [if_neg h2, if_pos rfl]
      have e : t = u := by omega
      by_cases h3 : (p.length : Int) < (q.length : Int)
      · rw [if_pos h3]; simp [e]; omega
      · rw [if_neg h3]
        by_cases h4 : (p.length : Int) > (q.length : Int)
        · rw [if_pos h4]; simp [e]; omega
        · rw [if_neg h4, if_pos rfl, cmp_ahead (by omega)]
          have h5 : p.length = q.length := by omega
          simp [e, h5]
def chooseV (b c : List Int) (q : Int) : St := if okB b c = true then run (P c.length) (T b c) (F b c q) (2 ^ c.length) 0 ([], 0, false) else ([], 0, false)
theorem choose_loop {b c : List Int} (h : okB b c = true) (q : Int) (d : Nat) : ∀ (x : Nat) (best : List Int) (total : Int) (ok : Bool), x + d = 2 ^ c.length →
    Ev (fun k => point_Choose.l0 k b c q best total ok ((2 ^ c.length : Nat) : Int) (x : Int)) (run (P c.length) (T b c) (F b c q) d x (best, total, ok)) := by
  obtain ⟨h12, hlen, hb, hc⟩ := ok_facts h
  have hp := pow_le12 (n := c.length) (by omega)
  induction d with
  | zero =>
    intro x best total ok hx
    show Ev _ (best, total, ok)
    exact Ev.step (fun k => by rw [point_Choose.l0]) (evn (by omega) (Ev.now _))
  | succ d ih =>
    intro x best total ok hx
    have hR := R_in h x
    have hPl : (P c.length x).length ≤ 11 := Nat.le_trans (ptsF_le _ _ _) (by omega)
    have hcut := cut_ev b c (P c.length x) (by omega) (by omega)
    rw [cutV_P h (show x < 2 ^ c.length by omega)] at hcut
    obtain ⟨m, hm, hq⟩ := max_eq (l := R b c x) (by omega) q
    refine Ev.step (fun k => by rw [point_Choose.l0]) (evp (by omega) (Ev.bind (chosen_ev x c.length (by omega) (by omega)) (Ev.bind hcut (evb hm ?_))))
    rw [wi (i := x) (by omega)]
    show Ev _ (run _ _ _ d (x + 1) (PointMath.step (P c.length) (T b c) (F b c q) (best, total, ok) x))
    have new := ih (x + 1) (P c.length x) (T b c x) true (by omega)
    have old := ih (x + 1) best total ok (by omega)
    by_cases hf : F b c q x = true
    · refine evn (fun hg => by rw [show F b c q x = false from hq.mp hg] at hf; cases hf) (Ev.bind (sum_ev (l := R b c x) hR.1 (by omega)) ?_)
      unfold PointMath.step
      rw [if_pos hf]
      cases ok with
      | false =>
        rw [if_neg (by simp)]
        exact evn (by simp) new
      | true =>
        rw [if_pos rfl]
        refine evp rfl (evb (compare64_eq _ _) (evb (compare_eq _ _) (Ev.bind (scompare_ev _ _ (by omega)) (Ev.bind (or_ev _ _ _) ?_))))
        have hbt := or_better (P c.length x) (T b c x) best total
        by_cases hbe : better (P c.length x) (T b c x) best total = true
        · rw [if_pos hbe]; exact evp (hbt.mpr hbe) new
        · rw [if_neg hbe]; exact evn (fun hh => hbe (hbt.mp hh)) old
    · refine evp (hq.mpr (show F b c q x = false from by simpa using hf)) ?_
      unfold PointMath.step
      rw [if_neg hf]
      exact old
theorem shl_eq {n : Nat} (h : n ≤ 11) : shl .i64 1 (n : Int) = ((2 ^ n : Nat) : Int) := by
  have hp := pow_le12 h
  unfold shl
  rw [Int.toNat_natCast, show min n IntKind.i64.bits = n from Nat.min_eq_left (show n ≤ 64 by omega), Int.one_mul, IntKind.wrap_i64]
  have e : (2 : Int) ^ n = ((2 ^ n : Nat) : Int) := by norm_cast
  rw [e]
  generalize 2 ^ n = N at *
  omega
theorem choose_ev (b c : List Int) (q : Int) : Ev (fun k => point_Choose.f k b c q) (chooseV b c q) := by
  unfold point_Choose.f chooseV
  refine evb (is_eq b c) ?_
  by_cases h : okB b c = true
  · rw [if_pos h]
    obtain ⟨h12, hlen, hb, hc⟩ := ok_facts h
    refine evp h ?_
    rw [shl_eq (n := c.length) (by omega)]
    exact choose_loop h q (2 ^ c.length) 0 [] 0 false (by omega)
  · rw [if_neg h]; exact evn h (Ev.now _)

/-! ### The reference -/
theorem ahead_loop (l m : List Int) (hl : l.length ≤ 1000) (hm : l.length = m.length) (d : Nat) : ∀ i : Nat, i + d = l.length → Ev (fun k => taskmasterref16_ahead.l0 k l m (i : Int)) (aheadL (l.drop i) (m.drop i)) := by
  induction d with
  | zero =>
    intro i hi
    refine Ev.step (fun k => by rw [taskmasterref16_ahead.l0]) (evn (by omega) ?_)
    rw [List.drop_eq_nil_of_le (show l.length ≤ i by omega)]
    exact Ev.now _
  | succ d ih =>
    intro i hi
    rw [rd_drop (l := l) (i := i) (by omega), rd_drop (l := m) (i := i) (by omega)]
    refine Ev.step (fun k => by rw [taskmasterref16_ahead.l0]) (evp (by omega) (evp (by omega) (evp (by omega) ?_)))
    show Ev _ (if _ then _ else _)
    by_cases e : rd l (i : Int) = rd m (i : Int)
    · rw [if_pos e, w64 (by omega) (by omega)]; exact evp e (ih (i + 1) (by omega))
    · rw [if_neg e]; exact evn e (Ev.now _)
theorem ahead_ev (l m : List Int) (hl : l.length ≤ 1000) (hm : l.length = m.length) : Ev (fun k => taskmasterref16_ahead.f k l m) (aheadL l m) := ahead_loop l m hl hm l.length 0 (by omega)
theorem look_loop {l : List Int} (h : ∀ y ∈ l, 0 ≤ y ∧ y ≤ 130000) (hl : l.length ≤ 20) (b c : List Int) (q : Int) (best : List Int) (total : Int) (ok : Bool) (x : Int) (p : List Int) (r : St) (d : Nat) : ∀ (i : Nat) (acc : Int) (f : Bool), i + d = l.length → 0 ≤ acc → acc ≤ 130000 * i →
    Ev (fun k => taskmasterref16_Choose.l1 k b c q best total ok x p l (acc + sum (l.drop i)) (f && (l.drop i).all fun y => decide (y ≤ q)) (l.length : Int)) r → Ev (fun k => taskmasterref16_Choose.l1 k b c q best total ok x p l acc f (i : Int)) r := by
  induction d with
  | zero =>
    intro i acc f hi h0 h1 hr
    rw [List.drop_eq_nil_of_le (by omega), show acc + sum [] = acc by simp [sum], show (l.length : Int) = (i : Int) by omega] at hr
    simpa using hr
  | succ d ih =>
    intro i acc f hi h0 h1 hr
    have x1 := h _ (rd_mem (l := l) (i := i) (by omega))
    rw [rd_drop (l := l) (i := i) (by omega), show acc + sum (rd l (i : Int) :: l.drop (i + 1)) = (acc + rd l (i : Int)) + sum (l.drop (i + 1)) by simp only [sum]; omega, List.all_cons, ← Bool.and_assoc] at hr
    have go := ih (i + 1) (acc + rd l (i : Int)) (f && decide (rd l (i : Int) ≤ q)) (by omega) (by omega) (by omega) hr
    refine Ev.step (fun k => by rw [taskmasterref16_Choose.l1]) (evp (by omega) (evp (by omega) ?_))
    rw [w64 (n := acc + _) (by omega) (by omega), wi (i := i) (by omega)]
    cases f with
    | true => rw [Bool.true_and] at go; exact evp rfl go
    | false => rw [Bool.false_and] at go; exact evn (by simp) go
theorem rchoose_loop {b c : List Int} (h : okB b c = true) (q : Int) (d : Nat) : ∀ (x : Nat) (best : List Int) (total : Int) (ok : Bool), x + d = 2 ^ c.length →
    Ev (fun k => taskmasterref16_Choose.l0 k b c q best total ok (x : Int)) (run (P c.length) (T b c) (F b c q) d x (best, total, ok)) := by
  obtain ⟨h12, hlen, hb, hc⟩ := ok_facts h
  have hp := pow_le12 (n := c.length) (by omega)
  have eu : IntKind.u64.wrap (c.length : Int) = (c.length : Int) := wu64 (by omega) (by omega)
  have es := shl_eq (n := c.length) (by omega)
  induction d with
  | zero =>
    intro x best total ok hx
    refine Ev.step (fun k => by rw [taskmasterref16_Choose.l0]) ?_
    rw [eu, es]
    show Ev _ (best, total, ok)
    exact evp (by omega) (evn (by omega) (Ev.now _))
  | succ d ih =>
    intro x best total ok hx
    have hR := R_in h x
    have hPl : (P c.length x).length ≤ 11 := Nat.le_trans (ptsF_le _ _ _) (by omega)
    have hcut := rcut_ev b c (P c.length x) (by omega) (by omega) (by omega)
    rw [cutV_P h (show x < 2 ^ c.length by omega)] at hcut
    refine Ev.step (fun k => by rw [taskmasterref16_Choose.l0]) ?_
    rw [eu, es]
    refine evp (by omega) (evp (by omega) (Ev.bind (points_ev x c.length (by omega) (by omega)) (Ev.bind hcut ?_)))
    refine look_loop hR.1 (by omega) b c q best total ok x (P c.length x) _ (R b c x).length 0 0 true (by omega) (by omega) (by omega) ?_
    rw [List.drop_zero, Int.zero_add, Bool.true_and]
    show Ev _ (run _ _ _ d (x + 1) (PointMath.step (P c.length) (T b c) (F b c q) (best, total, ok) x))
    have new := ih (x + 1) (P c.length x) (T b c x) true (by omega)
    have old := ih (x + 1) best total ok (by omega)
    refine Ev.step (fun k => by rw [taskmasterref16_Choose.l1]) (evn (by omega) ?_)
    rw [wi (i := x) (by omega)]
    have eT : sum (R b c x) = T b c x := rfl
    rw [eT]
    unfold PointMath.step
    by_cases hf : F b c q x = true
    · rw [if_pos hf]
      refine evp hf ?_
      cases ok with
      | false => rw [if_neg (by simp)]; exact evn (by simp) new
      | true =>
        rw [if_pos rfl]
        refine evp rfl ?_
        show Ev _ (run _ _ _ d (x + 1) (if better (P c.length x) (T b c x) best total = true then _ else _))
        unfold better
        by_cases h1 : T b c x < total
        · rw [if_pos (by simp [h1])]; exact evp h1 new
        refine evn h1 ?_
        by_cases h2 : T b c x = total
        · refine evp h2 ?_
          by_cases h3 : ((P c.length x).length : Int) < (best.length : Int)
          · rw [if_pos (by simp [h2]; omega)]; exact evp h3 new
          refine evn h3 ?_
          by_cases h4 : ((P c.length x).length : Int) = (best.length : Int)
          · refine evp h4 (Ev.bind (ahead_ev _ _ (by omega) (by omega)) ?_)
            by_cases h5 : aheadL (P c.length x) best = true
            · rw [if_pos (by simp [h2, h5]; omega)]; exact evp h5 new
            · rw [if_neg (by simp [h2, h5]; omega)]; exact evn h5 old
          · rw [if_neg (by simp [h2]; omega)]; exact evn h4 old
        · rw [if_neg (by simp [h1, h2])]; exact evn h2 old
    · rw [if_neg hf]
      exact evn hf old
theorem rchoose_ev (b c : List Int) (q : Int) (hb : b.length ≤ 100) (hc : c.length ≤ 100) : Ev (fun k => taskmasterref16_Choose.f k b c q) (chooseV b c q) := by
  unfold taskmasterref16_Choose.f chooseV
  refine Ev.bind (may_ev b c hb hc) ?_
  by_cases h : okB b c = true
  · rw [if_pos h]
    exact evp h (rchoose_loop h q (2 ^ c.length) 0 [] 0 false (by omega))
  · rw [if_neg h]; exact evn h (Ev.now _)

/-! ### What the laws share -/
theorem known16 : Ev (fun k => taskmasterlaw16_known.f k) true := Ev.of (fun k => taskmasterlaw16_known.mono k) (k := 40) (by decide +kernel)
theorem ints_loop (l : List Int) (hl : l.length ≤ 1000) (d : Nat) : ∀ i : Nat, i + d = l.length → Ev (fun k => taskmasterref2_Ints.l0 k l l (i : Int)) true := by
  induction d with
  | zero => intro i hi; exact Ev.step (fun k => by rw [taskmasterref2_Ints.l0]) (evn (by omega) (Ev.now _))
  | succ d ih =>
    intro i hi
    refine Ev.step (fun k => by rw [taskmasterref2_Ints.l0]) (evp (by omega) (evp (by omega) (evp (by omega) (evp rfl ?_))))
    rw [wi (by omega)]; exact ih (i + 1) (by omega)
theorem ints_ev (l : List Int) (hl : l.length ≤ 1000) : Ev (fun k => taskmasterref2_Ints.f k l l) true := by
  unfold taskmasterref2_Ints.f
  exact evp rfl (ints_loop l hl l.length 0 (by omega))
theorem nums_loop (l : List Int) (hl : l.length ≤ 1000) (d : Nat) : ∀ i : Nat, i + d = l.length → Ev (fun k => taskmasterref5_Nums.l0 k l l (i : Int)) true := by
  induction d with
  | zero => intro i hi; exact Ev.step (fun k => by rw [taskmasterref5_Nums.l0]) (evn (by omega) (Ev.now _))
  | succ d ih =>
    intro i hi
    refine Ev.step (fun k => by rw [taskmasterref5_Nums.l0]) (evp (by omega) (evp (by omega) (evp (by omega) (evp rfl ?_))))
    rw [wi (by omega)]; exact ih (i + 1) (by omega)
theorem nums_ev (l : List Int) (hl : l.length ≤ 1000) : Ev (fun k => taskmasterref5_Nums.f k l l) true := by
  unfold taskmasterref5_Nums.f
  exact evp rfl (nums_loop l hl l.length 0 (by omega))
theorem choose_inv {b c : List Int} (h : okB b c = true) (q : Int) : Inv (P c.length) (T b c) (F b c q) (2 ^ c.length) (chooseV b c q) := by
  unfold chooseV
  rw [if_pos h]
  have r := run_inv (P := P c.length) (T := T b c) (F := F b c q) (2 ^ c.length) 0 ([], 0, false) inv_start
  rw [Nat.zero_add] at r
  exact r
theorem choose_no {b c : List Int} (h : ¬ okB b c = true) (q : Int) : chooseV b c q = ([], 0, false) := by unfold chooseV; rw [if_neg h]
theorem choose_short (b c : List Int) (q : Int) : (chooseV b c q).1.length ≤ 1000 := by
  by_cases h : okB b c = true
  · have i := choose_inv h q
    by_cases e : (chooseV b c q).2.2 = true
    · obtain ⟨x, _, _, e1, _⟩ := i.1 e
      rw [e1]
      have := ptsF_le x.testBit c.length 0
      have := ok_facts h
      unfold P; omega
    · rw [(i.2.1 (by simpa using e)).1]; simp
  · rw [choose_no h]; simp
end Go.Proofs.Ytbkkmlhoobkimaa.PointPure
/-! ## PointLaws -/
namespace Go.Proofs.Ytbkkmlhoobkimaa.Pure
open Go.RowKit Go.Proofs.Ytbkkmlhoobkimaa.QPt Go.Proofs.YtbkkmlhoobkimaaW.PrintWords Go.Proofs.YtbkkmlhoobkimaaW.PrintLast Go.Proofs.YtbkkmlhoobkimaaW.PrintMore Go.Proofs.Ytbkkmlhoobkimaa.PointMath Go.Proofs.Ytbkkmlhoobkimaa.PointPure
set_option linter.unusedVariables false

theorem i64_in {n : Int} (h : (Lit.int .i64 n).wf = true) : -9223372036854775808 ≤ n ∧ n ≤ 9223372036854775807 := by
  simp only [Lit.wf, IntKind.min, IntKind.max, IntKind.signed, IntKind.bits, Bool.and_eq_true, decide_eq_true_eq, if_true] at h
  omega
theorem PointChooses (l0 : (List Int)) (l1 : (List Int)) (a2 : Int) (w0 : ∀ y ∈ l0, (Lit.int .i64 y).wf = true) (w1 : ∀ y ∈ l1, (Lit.int .i64 y).wf = true) (w2 : (Lit.int .i64 a2).wf = true) : ∃ k, taskmasterlaw16_PointChooses.f k l0 l1 a2 = some true := by
  refine Ev.rounds ?_
  have no : Ev (fun k => taskmasterlaw16_PointChooses.j0 k l0 l1 a2 true) true := Ev.step (fun k => by rw [taskmasterlaw16_PointChooses.j0, if_pos rfl]) (Ev.now true)
  unfold taskmasterlaw16_PointChooses.f
  by_cases c0 : (l0.length : Int) > 20
  · exact evp c0 no
  refine evn c0 ?_
  by_cases c1 : (l1.length : Int) > 20
  · rw [decide_eq_true c1]; exact no
  rw [decide_eq_false c1]
  have hs := choose_short l0 l1 a2
  refine Ev.step (fun k => by rw [taskmasterlaw16_PointChooses.j0, if_neg (by simp)]) ?_
  exact Ev.bind (choose_ev _ _ _) (Ev.bind (rchoose_ev _ _ _ (by omega) (by omega)) (Ev.bind (ints_ev _ hs) (evp rfl (evp rfl (evp (by simp) (Ev.bind known16 (Ev.now true)))))))
theorem cutV_short (b c pts : List Int) (hc : c.length ≤ 100) : (cutV b c pts).1.length ≤ 1000 := by
  unfold cutV
  split
  · show (cutF _ _ _ _ _ _).length ≤ 1000
    rw [cutF_length]; have := ptsF_le (inP pts) (c.length + 1) 0; omega
  · simp
theorem PointCuts (l0 : (List Int)) (l1 : (List Int)) (l2 : (List Int)) (w0 : ∀ y ∈ l0, (Lit.int .i64 y).wf = true) (w1 : ∀ y ∈ l1, (Lit.int .i64 y).wf = true) (w2 : ∀ y ∈ l2, (Lit.int .i64 y).wf = true) : ∃ k, taskmasterlaw16_PointCuts.f k l0 l1 l2 = some true := by
  refine Ev.rounds ?_
  have no : Ev (fun k => taskmasterlaw16_PointCuts.j0 k l0 l1 l2 true) true := Ev.step (fun k => by rw [taskmasterlaw16_PointCuts.j0, if_pos rfl]) (Ev.now true)
  unfold taskmasterlaw16_PointCuts.f
  by_cases c0 : (l0.length : Int) > 20
  · exact evp c0 no
  refine evn c0 ?_
  by_cases c1 : (l1.length : Int) > 20
  · exact evp c1 no
  refine evn c1 ?_
  by_cases c2 : (l2.length : Int) > 20
  · rw [decide_eq_true c2]; exact no
  rw [decide_eq_false c2]
  refine Ev.step (fun k => by rw [taskmasterlaw16_PointCuts.j0, if_neg (by simp)]) ?_
  exact Ev.bind (cut_ev l0 l1 l2 (by omega) (by omega)) (Ev.bind (rcut_ev l0 l1 l2 (by omega) (by omega) (by omega)) (Ev.bind (nums_ev _ (cutV_short _ _ _ (by omega))) (evp rfl (evp (by simp) (Ev.bind known16 (Ev.now true))))))
theorem fits_loop {l : List Int} {q n : Int} {p : List Int} (h : ∀ y ∈ l, 0 ≤ y ∧ y ≤ 130000) (hq : ∀ y ∈ l, y ≤ q) (hl : l.length ≤ 20) (hp : l.length = p.length + 1) (d : Nat) : ∀ (i : Nat) (acc : Int), i + d = l.length → 0 ≤ acc → acc ≤ 130000 * i → acc + sum (l.drop i) = n → Ev (fun k => taskmasterlaw16_PointFits.l0 k q p n l true acc (i : Int)) true := by
  induction d with
  | zero =>
    intro i acc hi h0 h1 hn
    rw [List.drop_eq_nil_of_le (by omega)] at hn
    refine Ev.step (fun k => by rw [taskmasterlaw16_PointFits.l0]) (evn (by omega) (evp rfl (evp (by simpa [sum] using hn) ?_)))
    rw [w64 (by omega) (by omega)]
    exact evp (by omega) (Ev.bind known16 (Ev.now true))
  | succ d ih =>
    intro i acc hi h0 h1 hn
    have x1 := h _ (rd_mem (l := l) (i := i) (by omega))
    have x2 := hq _ (rd_mem (l := l) (i := i) (by omega))
    rw [rd_drop (l := l) (i := i) (by omega)] at hn
    refine Ev.step (fun k => by rw [taskmasterlaw16_PointFits.l0]) (evp (by omega) (evp (by omega) (evn (by omega) ?_)))
    rw [w64 (n := acc + _) (by omega) (by omega), wi (by omega)]
    exact ih (i + 1) _ (by omega) (by omega) (by omega) (by rw [← hn]; simp only [sum]; omega)
theorem PointFits (l0 : (List Int)) (l1 : (List Int)) (a2 : Int) (w0 : ∀ y ∈ l0, (Lit.int .i64 y).wf = true) (w1 : ∀ y ∈ l1, (Lit.int .i64 y).wf = true) (w2 : (Lit.int .i64 a2).wf = true) : ∃ k, taskmasterlaw16_PointFits.f k l0 l1 a2 = some true := by
  refine Ev.rounds ?_
  have no : Ev (fun k => taskmasterlaw16_PointFits.j0 k l0 l1 a2 true) true := Ev.step (fun k => by rw [taskmasterlaw16_PointFits.j0, if_pos rfl]) (Ev.now true)
  unfold taskmasterlaw16_PointFits.f
  by_cases c0 : (l0.length : Int) > 12
  · exact evp c0 no
  refine evn c0 ?_
  by_cases c1 : (l1.length : Int) > 12
  · rw [decide_eq_true c1]; exact no
  rw [decide_eq_false c1]
  refine Ev.step (fun k => by rw [taskmasterlaw16_PointFits.j0, if_neg (by simp)]) (Ev.bind (choose_ev _ _ _) ?_)
  by_cases h : okB l0 l1 = true
  · have inv := choose_inv h a2
    by_cases e : (chooseV l0 l1 a2).2.2 = true
    · obtain ⟨x, hx, hF, e1, e2⟩ := inv.1 e
      rw [e1, e2]
      have hR := R_in h x
      have hcut := cut_ev l0 l1 (P l1.length x) (by have := ptsF_le x.testBit l1.length 0; unfold P; omega) (by omega)
      rw [cutV_P h hx] at hcut
      refine evp e (Ev.bind hcut ?_)
      refine fits_loop hR.1 (fun y hy => ?_) (by omega) ?_ (R l0 l1 x).length 0 0 (by omega) (by omega) (by omega) ?_
      · have := List.all_eq_true.mp hF y hy
        simpa using this
      · unfold R P
        rw [cutF_length, ptsF_last l1.length 0 (by rw [Nat.zero_add]; exact Nat.testBit_lt_two_pow hx)]
      · rw [List.drop_zero, Int.zero_add]; rfl
    · obtain ⟨e1, e2⟩ := inv.2.1 (by simpa using e)
      rw [e1, e2]
      exact evn e (evp rfl (evp rfl (Ev.bind known16 (Ev.now true))))
  · rw [choose_no h]
    exact evn (by simp) (evp rfl (evp rfl (Ev.bind known16 (Ev.now true))))
theorem PointMore (l0 : (List Int)) (l1 : (List Int)) (a2 : Int) (a3 : Int) (w0 : ∀ y ∈ l0, (Lit.int .i64 y).wf = true) (w1 : ∀ y ∈ l1, (Lit.int .i64 y).wf = true) (w2 : (Lit.int .i64 a2).wf = true) (w3 : (Lit.int .i64 a3).wf = true) : ∃ k, taskmasterlaw16_PointMore.f k l0 l1 a2 a3 = some true := by
  refine Ev.rounds ?_
  have no : Ev (fun k => taskmasterlaw16_PointMore.j0 k l0 l1 a2 a3 true) true := Ev.step (fun k => by rw [taskmasterlaw16_PointMore.j0, if_pos rfl]) (Ev.now true)
  unfold taskmasterlaw16_PointMore.f
  by_cases c0 : (l0.length : Int) > 12
  · exact evp c0 no
  refine evn c0 ?_
  by_cases c1 : (l1.length : Int) > 12
  · exact evp c1 no
  refine evn c1 ?_
  by_cases c2 : a3 < 0
  · exact evp c2 no
  refine evn c2 ?_
  by_cases c3 : a3 > 1099511627776
  · exact evp c3 no
  refine evn c3 ?_
  by_cases c4 : a2 > 1099511627776
  · rw [decide_eq_true c4]; exact no
  rw [decide_eq_false c4]
  have hw := i64_in w2
  refine Ev.step (fun k => by rw [taskmasterlaw16_PointMore.j0, if_neg (by simp)]) ?_
  rw [w64 (n := a2 + a3) (by omega) (by omega)]
  refine Ev.bind (choose_ev _ _ _) (Ev.bind (choose_ev _ _ _) ?_)
  by_cases e : (chooseV l0 l1 a2).2.2 = true
  · refine evp e ?_
    by_cases h : okB l0 l1 = true
    · obtain ⟨x, hx, hF, e1, e2⟩ := (choose_inv h a2).1 e
      have hF' : F l0 l1 (a2 + a3) x = true := by
        refine List.all_eq_true.mpr (fun y hy => ?_)
        have := List.all_eq_true.mp hF y hy
        simp at this
        simp; omega
      obtain ⟨o1, o2⟩ := (choose_inv h (a2 + a3)).2.2 x hx hF'
      exact evp o1 (evp (by rw [e2]; exact o2) (Ev.bind known16 (Ev.now true)))
    · rw [choose_no h] at e; simp at e
  · exact evn e (Ev.bind known16 (Ev.now true))
theorem least_loop {b c l : List Int} {q : Int} (h : ∀ y ∈ l, 0 ≤ y ∧ y ≤ 130000) (hl : l.length ≤ 20) (d : Nat) : ∀ (i : Nat) (acc : Int), i + d = l.length → 0 ≤ acc → acc ≤ 130000 * i →
    ((∀ y ∈ l.drop i, y ≤ q) → Ev (fun k => taskmasterlaw16_PointLeast.l0 k b c q l (acc + sum (l.drop i)) (l.length : Int)) true) → Ev (fun k => taskmasterlaw16_PointLeast.l0 k b c q l acc (i : Int)) true := by
  induction d with
  | zero =>
    intro i acc hi h0 h1 hr
    rw [List.drop_eq_nil_of_le (by omega), show acc + sum [] = acc by simp [sum], show (l.length : Int) = (i : Int) by omega] at hr
    exact hr (fun y hy => by cases hy)
  | succ d ih =>
    intro i acc hi h0 h1 hr
    have x1 := h _ (rd_mem (l := l) (i := i) (by omega))
    rw [rd_drop (l := l) (i := i) (by omega), show acc + sum (rd l (i : Int) :: l.drop (i + 1)) = (acc + rd l (i : Int)) + sum (l.drop (i + 1)) by simp only [sum]; omega] at hr
    refine Ev.step (fun k => by rw [taskmasterlaw16_PointLeast.l0]) (evp (by omega) (evp (by omega) ?_))
    by_cases e : rd l (i : Int) > q
    · exact evp e (Ev.now true)
    refine evn e ?_
    rw [w64 (n := acc + _) (by omega) (by omega), wi (i := i) (by omega)]
    exact ih (i + 1) _ (by omega) (by omega) (by omega) (fun ha => hr (fun y hy => by
      rcases List.mem_cons.mp hy with rfl | hy
      · omega
      · exact ha y hy))
theorem PointLeast (l0 : (List Int)) (l1 : (List Int)) (a2 : Int) (l3 : (List Int)) (w0 : ∀ y ∈ l0, (Lit.int .i64 y).wf = true) (w1 : ∀ y ∈ l1, (Lit.int .i64 y).wf = true) (w2 : (Lit.int .i64 a2).wf = true) (w3 : ∀ y ∈ l3, (Lit.int .i64 y).wf = true) : ∃ k, taskmasterlaw16_PointLeast.f k l0 l1 a2 l3 = some true := by
  refine Ev.rounds ?_
  have no : Ev (fun k => taskmasterlaw16_PointLeast.j0 k l0 l1 a2 l3 true) true := Ev.step (fun k => by rw [taskmasterlaw16_PointLeast.j0, if_pos rfl]) (Ev.now true)
  unfold taskmasterlaw16_PointLeast.f
  by_cases c0 : (l0.length : Int) > 12
  · exact evp c0 no
  refine evn c0 ?_
  by_cases c1 : (l1.length : Int) > 12
  · exact evp c1 no
  refine evn c1 ?_
  by_cases c2 : (l3.length : Int) > 12
  · rw [decide_eq_true c2]; exact no
  rw [decide_eq_false c2]
  refine Ev.step (fun k => by rw [taskmasterlaw16_PointLeast.j0, if_neg (by simp)]) (Ev.bind (rcut_ev l0 l1 l3 (by omega) (by omega) (by omega)) ?_)
  by_cases h : okB l0 l1 = true ∧ valid l1.length (-1) l3 = true
  · obtain ⟨x, hx, hb⟩ := bits_of (inP l3) l1.length
    have e : cutV l0 l1 l3 = (R l0 l1 x, true) := by
      unfold cutV
      rw [if_pos h, cut_same h.2 hx hb]
    rw [e]
    have hR := R_in h.1 x
    refine evp rfl (least_loop hR.1 (by omega) (R l0 l1 x).length 0 0 (by omega) (by omega) (by omega) (fun hall => ?_))
    rw [List.drop_zero] at hall ⊢
    rw [Int.zero_add]
    have hF : F l0 l1 a2 x = true := List.all_eq_true.mpr (fun y hy => by simpa using hall y hy)
    obtain ⟨o1, o2⟩ := (choose_inv h.1 a2).2.2 x hx hF
    exact Ev.step (fun k => by rw [taskmasterlaw16_PointLeast.l0]) (evn (by omega) (Ev.bind (choose_ev _ _ _) (evp o1 (evp o2 (Ev.bind known16 (Ev.now true))))))
  · have e : cutV l0 l1 l3 = ([], false) := by unfold cutV; rw [if_neg h]
    rw [e]
    exact evn (by simp) (Ev.now true)

/-! ### A length that no block and cost exceeds; one below a block -/
/-- What is known when the blocks below the i-th were looked at. -/
structure Seen (b c : List Int) (i : Nat) (most block : Int) : Prop where
  hb : ∀ j, j < i → 0 ≤ bF b j ∧ bF b j ≤ 10000
  hc : ∀ j, j + 1 < i → 0 ≤ bF c j ∧ bF c j ≤ 10000
  m0 : 0 < i → bF b 0 ≤ most
  m1 : ∀ j, j + 1 < i → bF c j + bF b (j + 1) ≤ most
  hk : (i = 0 ∧ block = 0) ∨ ∃ j, j < i ∧ bF b j = block
theorem mx_ge (a b : Int) : a ≤ mx a b ∧ b ≤ mx a b ∧ (mx a b = a ∨ mx a b = b) := by unfold mx; split <;> omega
theorem all_in {l : List Int} (h : ∀ j, j < l.length → 0 ≤ bF l j ∧ bF l j ≤ 10000) : l.any oddP = false := by
  refine List.any_eq_false.mpr (fun x hx => ?_)
  obtain ⟨j, hj, rfl⟩ := List.getElem_of_mem hx
  have := h j hj
  have e : bF l j = l[j] := by unfold bF rd; rw [Int.toNat_natCast, List.getD_eq_getElem?_getD, List.getElem?_eq_getElem hj]; rfl
  rw [e] at this
  rw [odd_no (by omega) (by omega)]; simp
theorem all_end {b c : List Int} (h0 : 1 ≤ b.length) (h1 : b.length ≤ 12) (h2 : b.length = c.length + 1) {most block : Int} (s : Seen b c b.length most block) : Ev (fun k => taskmasterlaw16_PointAll.l0 k b c most block (b.length : Int)) true := by
  have hok : okB b c = true := by
    unfold okB
    rw [decide_eq_true h0, decide_eq_true h1, decide_eq_true (show (c.length : Int) = (b.length : Int) - 1 by omega), all_in s.hb, all_in (fun j hj => s.hc j (by omega))]
    rfl
  have yes : (chooseV b c most).2.2 = true := by
    have hp : 0 < 2 ^ c.length := Nat.two_pow_pos _
    refine ((choose_inv hok most).2.2 (2 ^ c.length - 1) (by omega) (List.all_eq_true.mpr (fun y hy => ?_))).1
    have := cutF_full (b := bF b) (c := bF c) (S := Nat.testBit (2 ^ c.length - 1)) (M := most) c.length 0 0 (fun j _ hj => by
        rw [Nat.testBit_two_pow_sub_one]; exact decide_eq_true (by omega)) (by rw [Nat.testBit_two_pow_sub_one]; exact decide_eq_false (by omega)) (by have := s.m0 (by omega); omega) (fun j _ hj => s.m1 j (by omega)) y hy
    simpa using this
  have nope : (chooseV b c (block - 1)).2.2 = false := by
    cases e : (chooseV b c (block - 1)).2.2 with
    | false => rfl
    | true =>
      obtain ⟨x, hx, hF, _⟩ := (choose_inv hok (block - 1)).1 e
      obtain ⟨hb', hc'⟩ := (ok_facts hok).2.2
      rcases s.hk with ⟨e0, _⟩ | ⟨j, hj, ej⟩
      · omega
      · obtain ⟨y, hy, hge⟩ := (cutF_ge (b := bF b) (c := bF c) (S := x.testBit) (c.length + 1) 0 0 (fun j _ => (bF_in hb' j).1) (fun j _ _ => (bF_in hc' j).1) (by omega)).2 j (by omega) (by omega)
        have := List.all_eq_true.mp hF y hy
        simp at this
        omega
  have hblock : 0 ≤ block ∧ block ≤ 10000 := by
    rcases s.hk with ⟨e0, _⟩ | ⟨j, hj, ej⟩
    · omega
    · have := s.hb j hj; omega
  refine Ev.step (fun k => by rw [taskmasterlaw16_PointAll.l0]) (evn (by omega) ?_)
  rw [w64 (by omega) (by omega)]
  exact Ev.bind (choose_ev _ _ _) (Ev.bind (choose_ev _ _ _) (evp yes (evn (by rw [nope]; simp) (Ev.bind known16 (Ev.now true)))))
theorem wm {i : Nat} (h : i ≤ 1000000) : wrap64 (((i + 1 : Nat) : Int) - 1) = (i : Int) := by rw [show ((i + 1 : Nat) : Int) - 1 = (i : Int) by omega]; exact w64 (by omega) (by omega)
theorem all_loop {b c : List Int} (h0 : 1 ≤ b.length) (h1 : b.length ≤ 12) (h2 : b.length = c.length + 1) (d : Nat) : ∀ (i : Nat) (most block : Int), i + d = b.length → Seen b c i most block → Ev (fun k => taskmasterlaw16_PointAll.l0 k b c most block (i : Int)) true := by
  induction d with
  | zero =>
    intro i most block hi s
    obtain rfl : i = b.length := by omega
    exact all_end h0 h1 h2 s
  | succ d ih =>
    intro i most block hi s
    have no : Ev (fun k => taskmasterlaw16_PointAll.j2 k b c most block (i : Int) true) true := Ev.step (fun k => by rw [taskmasterlaw16_PointAll.j2, if_pos rfl]) (Ev.now true)
    have eb : rd b (i : Int) = bF b i := rfl
    refine Ev.step (fun k => by rw [taskmasterlaw16_PointAll.l0]) (evp (by omega) (evp (by omega) ?_))
    rw [eb]
    by_cases g0 : bF b i < 0
    · exact evp g0 no
    refine evn g0 ?_
    by_cases g1 : bF b i > 10000
    · exact evp g1 no
    refine evn g1 ?_
    have k1 := mx_ge block (bF b i)
    by_cases e : i = 0
    · subst e
      have k0 := mx_ge most (bF b 0)
      refine evn (by omega) (Ev.step (fun k => by rw [taskmasterlaw16_PointAll.j2, if_neg (by simp)]) ?_)
      refine evp (by omega) ?_
      refine evp (by omega) ?_
      refine evn (by omega) ?_
      rw [wi (i := 0) (by omega), eb]
      refine ih 1 _ _ (by omega) ⟨fun j hj => ?_, fun j hj => absurd hj (by omega), fun _ => k0.2.1, fun j hj => absurd hj (by omega), Or.inr ⟨0, by omega, ?_⟩⟩
      · obtain rfl : j = 0 := by omega
        omega
      · rcases s.hk with ⟨_, e0⟩ | ⟨j, hj, _⟩
        · omega
        · omega
    · obtain ⟨m, rfl⟩ : ∃ m, i = m + 1 := ⟨i - 1, by omega⟩
      have ec : rd c (m : Int) = bF c m := rfl
      refine evp (by omega) ?_
      rw [wm (i := m) (by omega), ec]
      refine evp (by omega) (evp (by omega) ?_)
      by_cases g2 : bF c m < 0
      · exact evp g2 no
      refine evn g2 ?_
      by_cases g3 : bF c m > 10000
      · rw [decide_eq_true g3]; exact no
      rw [decide_eq_false g3]
      have k0 := mx_ge most (bF b (m + 1) + bF c m)
      refine Ev.step (fun k => by rw [taskmasterlaw16_PointAll.j2, if_neg (by simp)]) ?_
      refine evp (by omega) ?_
      refine evp (by omega) ?_
      refine evp (by omega) ?_
      rw [wm (i := m) (by omega), ec, wi (i := m + 1) (by omega), eb]
      refine evp (by omega) (evp (by omega) ?_)
      rw [w64 (n := bF b (m + 1) + bF c m) (by omega) (by omega)]
      refine ih (m + 1 + 1) _ _ (by omega) ⟨fun j hj => ?_, fun j hj => ?_, fun _ => ?_, fun j hj => ?_, Or.inr ?_⟩
      · by_cases ej : j = m + 1
        · subst ej; omega
        · exact s.hb j (by omega)
      · by_cases ej : j = m
        · subst ej; omega
        · exact s.hc j (by omega)
      · have := s.m0 (by omega); omega
      · by_cases ej : j = m
        · subst ej; omega
        · have := s.m1 j (by omega); omega
      · rcases k1.2.2 with k | k
        · rcases s.hk with ⟨e0, _⟩ | ⟨j, hj, ej⟩
          · omega
          · exact ⟨j, by omega, by omega⟩
        · exact ⟨m + 1, by omega, by omega⟩
theorem PointAll (l0 : (List Int)) (l1 : (List Int)) (w0 : ∀ y ∈ l0, (Lit.int .i64 y).wf = true) (w1 : ∀ y ∈ l1, (Lit.int .i64 y).wf = true) : ∃ k, taskmasterlaw16_PointAll.f k l0 l1 = some true := by
  refine Ev.rounds ?_
  have no : Ev (fun k => taskmasterlaw16_PointAll.j0 k l0 l1 true) true := Ev.step (fun k => by rw [taskmasterlaw16_PointAll.j0, if_pos rfl]) (Ev.now true)
  unfold taskmasterlaw16_PointAll.f
  by_cases c0 : (l0.length : Int) < 1
  · exact evp c0 no
  refine evn c0 ?_
  by_cases c1 : (l0.length : Int) > 12
  · exact evp c1 no
  refine evn c1 ?_
  rw [w64 (by omega) (by omega)]
  by_cases c2 : (l1.length : Int) = (l0.length : Int) - 1
  · rw [show ((l1.length : Int) != (l0.length : Int) - 1) = false by rw [c2]; simp]
    refine Ev.step (fun k => by rw [taskmasterlaw16_PointAll.j0, if_neg (by simp)]) ?_
    exact all_loop (by omega) (by omega) (by omega) l0.length 0 0 0 (by omega) ⟨fun j hj => absurd hj (by omega), fun j hj => absurd hj (by omega), fun hj => absurd hj (by omega), fun j hj => absurd hj (by omega), Or.inl ⟨rfl, rfl⟩⟩
  · rw [show ((l1.length : Int) != (l0.length : Int) - 1) = true by simpa using c2]
    exact no
end Go.Proofs.Ytbkkmlhoobkimaa.Pure

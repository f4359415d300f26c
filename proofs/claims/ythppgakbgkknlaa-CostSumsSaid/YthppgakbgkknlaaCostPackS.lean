/- What is proved: plain facts for this seat's laws (joined out of: Open, OpenCo, CostPure, SumsLaw); conditions as each theorem names them. -/
import Derived.Test.YthppgakbgkknlaaWWords
import Derived.Test.YthppgakbgkknlaaWLast
import Derived.ChangeArms
import Derived.Deep.Slices
import Derived.DataReads
import Derived.WideShapes
import Derived.Test.YthppgakbgkknlaaQCox0
import Derived.KernelRfl
import Derived.Test.YthppgakbgkknlaaHandWhole
import Derived.Test.YthppgakbgkknlaaQCoxf14
import Derived.Test.YthppgakbgkknlaaQCoxf18
import Derived.Test.YthppgakbgkknlaaQCoxf21
import Derived.Test.YthppgakbgkknlaaQCoxf11
import Derived.Test.YthppgakbgkknlaaQCoxf12
import Derived.Test.YthppgakbgkknlaaQCoxf9
import Derived.Test.YthppgakbgkknlaaQCoxf16
import Derived.Test.YthppgakbgkknlaaQCoxf15
import Derived.Test.YthppgakbgkknlaaQCoxf20
import Derived.Test.YthppgakbgkknlaaQCoxf22
import Derived.Test.YthppgakbgkknlaaQCoxf17
import Derived.Test.YthppgakbgkknlaaQCoxf13
import Derived.Test.YthppgakbgkknlaaQCoxf5
/-! ## Open -/
namespace Go.Proofs.Ythppgakbgkknlaa.Open
open Go.RowKit Go.Proofs.YthppgakbgkknlaaW.PrintWords Go.Proofs.YthppgakbgkknlaaW.PrintLast Go.WideShapes
set_option linter.unusedVariables false

/-- Whatever is read at type t is a value of the kind k, of which W holds. -/
structure Opens (P : Program) {α : Type} (k : Kd α) (t : TypeId) (W : α → Prop) : Prop where
  out : ∀ {H : Type} {enc : TypeId × Value → H} {w : World} {base : Nat} {spare : Nat → Bool} {held : Bool} {fuel : Nat} {cs : List Value} {x : DataW H × List MemPlace},
    DataW.trod enc P w base spare held fuel t cs = some x → ∃ a : α, k.K w a cs ∧ W a

theorem opens_int {P : Program} {t : TypeId} {k : IntKind} (ht : P.underlying t = some (.int k)) : Opens P (Kd.int k) t (fun n => (Lit.int k n).wf = true) := by
  refine ⟨fun {H enc w base spare held fuel cs x} h => ?_⟩
  obtain ⟨n, rfl, _, hw⟩ := DataW.trod_int ht h
  exact ⟨n, rfl, hw⟩
theorem opens_bool {P : Program} {t : TypeId} (ht : P.underlying t = some .bool) : Opens P Kd.bool t (fun _ => True) := by
  refine ⟨fun {H enc w base spare held fuel cs x} h => ?_⟩
  obtain ⟨n, rfl, _⟩ := DataW.trod_bool ht h
  exact ⟨n, rfl, trivial⟩
theorem opens_string {P : Program} {t : TypeId} (ht : P.underlying t = some .string) : Opens P Kd.string t (fun s => s.size ≤ maxLen) := by
  refine ⟨fun {H enc w base spare held fuel cs x} h => ?_⟩
  obtain ⟨s, rfl, _, hs⟩ := DataW.trod_string ht h
  exact ⟨s, rfl, hs⟩
theorem addr_add (a : Addr) (i j : Nat) : (a.add i).add j = a.add (i + j) := Go.Deep.add_add a i j
theorem opens_slice {P : Program} {α : Type} [Inhabited α] {d : Kd α} {t e : TypeId} {W : α → Prop} (ht : P.underlying t = some (.slice e)) (hs : P.cellsOf e = d.sz) (hd : Opens P d e W) :
    Opens P (Kd.slice e d) t (fun xs => ∀ x ∈ xs, W x) := by
  refine ⟨fun {H enc w base spare held fuel cs x} h => ?_⟩
  rcases Go.Deep.open_slice ht h with ⟨rfl, _⟩ | ⟨a, len, cap, m, n, D, Pl, rfl, hb, hl, hc, hm, _, hel⟩
  · exact ⟨[], ⟨none, 0, rfl, Nat.le_refl _, rfl, Nat.zero_le _, fun h => absurd h (Nat.lt_irrefl _)⟩, fun x hx => absurd hx (List.not_mem_nil)⟩
  · have hlm : len ≤ m := by rw [hm]; split <;> omega
    have each : ∀ i, i < len → ∃ y : α, (∃ cs', w.cells? base (a.add (i * P.cellsOf e)) (P.cellsOf e) = some cs' ∧ d.K w y cs') ∧ W y := fun i hi => by
      obtain ⟨cs', h1, h2⟩ := hel i (by omega)
      obtain ⟨y, hy, hw⟩ := hd.out h2
      exact ⟨y, ⟨cs', h1, hy⟩, hw⟩
    obtain ⟨f, hf⟩ := Go.Deep.choose_lt each
    have hlen : ((List.range len).map f).length = len := by simp
    refine ⟨(List.range len).map f, ⟨some a, cap, by rw [hlen], by rw [hlen]; exact hl, rfl, ?_, ?_⟩, ?_⟩
    · rw [hlen]; unfold maxLen at hc; omega
    · intro _
      refine ⟨a, rfl, fun j p hp => ?_⟩
      obtain ⟨hj, rfl⟩ := List.getElem?_eq_some_iff.1 hp
      rw [hlen] at hj
      obtain ⟨⟨cs', h1, h2⟩, _⟩ := hf j hj
      obtain ⟨_, h4, h5⟩ := World.cells?_some h1
      refine ⟨cs', by rw [h4, hs], by simpa using h2, fun i u hu => ?_⟩
      have hi : i < cs'.length := by
        by_cases q : i < cs'.length
        · exact q
        · rw [List.getElem?_eq_none (by omega)] at hu; cases hu
      have := h5 i (by omega)
      rw [addr_add, hs] at this
      rw [this]; exact hu
    · intro x hx
      obtain ⟨i, hi, rfl⟩ := List.mem_map.1 hx
      exact (hf i (List.mem_range.1 hi)).2

/-- From field i on: what the fields of a struct read as. -/
structure OpensFrom (P : Program) (fs : Array Field) (i : Nat) (off : Nat) {α : Type} (k : Kd α) (W : α → Prop) : Prop where
  out : ∀ {H : Type} {enc : TypeId × Value → H} {w : World} {base : Nat} {spare : Nat → Bool} {held : Bool} {n : Nat} {cs : List Value} {xs : List (DataW H × List MemPlace)},
    xs.length = fs.size → cs.length = off + k.sz →
    (∀ (j : Nat) (f : Field), fs[j]? = some f → DataW.trod enc P w base spare held n f.type ((cs.drop f.offset).take (P.cellsOf f.type)) = xs[j]?) → ∃ a : α, k.K w a (cs.drop off) ∧ W a
theorem opensFrom_last {P : Program} {fs : Array Field} {i off : Nat} {α : Type} {k : Kd α} {W : α → Prop} (f : Field) (hf : fs[i]? = some f) (ho : f.offset = off) (hs : P.cellsOf f.type = k.sz) (hd : Opens P k f.type W) : OpensFrom P fs i off k W := by
  refine ⟨fun {H enc w base spare held n cs xs} hx hl h => ?_⟩
  have hi : i < xs.length := by
    rw [hx]
    by_cases q : i < fs.size
    · exact q
    · rw [Array.getElem?_eq_none (by omega)] at hf; cases hf
  have h1 := h i f hf
  rw [List.getElem?_eq_getElem hi, ho, hs, List.take_of_length_le (by simp; omega)] at h1
  exact hd.out h1
theorem opensFrom_cons {P : Program} {fs : Array Field} {i off : Nat} {α β : Type} {k : Kd α} {l : Kd β} {W : α → Prop} {V : β → Prop} (f : Field) (hf : fs[i]? = some f) (ho : f.offset = off) (hs : P.cellsOf f.type = k.sz)
    (hd : Opens P k f.type W) (hr : OpensFrom P fs (i + 1) (off + k.sz) l V) : OpensFrom P fs i off (Kd.pair k l) (fun x => W x.1 ∧ V x.2) := by
  refine ⟨fun {H enc w base spare held n cs xs} hx hl h => ?_⟩
  have hi : i < xs.length := by
    rw [hx]
    by_cases q : i < fs.size
    · exact q
    · rw [Array.getElem?_eq_none (by omega)] at hf; cases hf
  have hl' : cs.length = off + (k.sz + l.sz) := hl
  have h1 := h i f hf
  rw [List.getElem?_eq_getElem hi, ho, hs] at h1
  obtain ⟨a, ka, wa⟩ := hd.out h1
  obtain ⟨b, kb, wb⟩ := hr.out hx (by omega) h
  refine ⟨(a, b), ⟨_, _, ?_, ka, kb⟩, wa, wb⟩
  rw [← List.drop_drop, List.take_append_drop]
theorem opens_struct {P : Program} {t : TypeId} {fs : Array Field} {α β : Type} {k : Kd α} {g : β → α} {W : α → Prop} {V : β → Prop} (ht : P.underlying t = some (.struct fs)) (hs : P.cellsOf t = k.sz) (hd : OpensFrom P fs 0 0 k W)
    (inv : α → β) (hg : ∀ a, g (inv a) = a) (hW : ∀ a, W a → V (inv a)) : Opens P (Kd.iso k g) t V := by
  refine ⟨fun {H enc w base spare held fuel cs x} h => ?_⟩
  obtain ⟨xs, n, _, _, hl, hx, hall⟩ := DataW.trod_struct ht h
  obtain ⟨a, ka, wa⟩ := hd.out hx (by rw [hl, hs]; omega) hall
  exact ⟨inv a, by show k.K w (g (inv a)) cs; rw [hg]; simpa using ka, hW a wa⟩

/-- A slice that is handed in. -/
theorem arg_slice {P : Program} {H : Type} {enc : TypeId × Value → H} {w : World} {base : Nat} {spare : Nat → Bool} {held : Bool} {α : Type} {d : Kd α} {t e : TypeId} {W : List α → Prop} {v : Value} {x : DataW H} {ps : List MemPlace} {r : Reach} {b0 : Nat}
    (ht : P.underlying t = some (.slice e)) (hv : Value.okWide P w r b0 t v) (ho : Opens P (Kd.slice e d) t W) (h : DataW.Trod enc P w base spare held t v x ps) :
    ∃ (A : Option Addr) (c : Nat) (xs : List α), v = .slice A xs.length c ∧ xs.length ≤ c ∧ Kd.C d w A xs.length xs ∧ W xs := by
  obtain ⟨fuel, hf⟩ := h
  obtain ⟨a, len, cap, rfl⟩ := okWide_slice ht hv
  obtain ⟨xs, ⟨A, c, e1, h1, h2⟩, hw⟩ := ho.out hf
  have e2 : ([.slice a len cap] : List Value) = [.slice A xs.length c] := e1
  injection e2 with e2
  exact ⟨A, c, xs, e2, h1, h2, hw⟩
/-- A struct that is handed in. -/
theorem arg_struct {P : Program} {H : Type} {enc : TypeId × Value → H} {w : World} {base : Nat} {spare : Nat → Bool} {held : Bool} {α : Type} {d : Kd α} {t : TypeId} {fs : Array Field} {W : α → Prop} {v : Value} {x : DataW H} {ps : List MemPlace} {r : Reach} {b0 : Nat}
    (ht : P.underlying t = some (.struct fs)) (hv : Value.okWide P w r b0 t v) (ho : Opens P d t W) (h : DataW.Trod enc P w base spare held t v x ps) :
    ∃ (a : α) (cs : List Value), v = .agg cs.toArray ∧ d.K w a cs ∧ W a := by
  obtain ⟨fuel, hf⟩ := h
  obtain ⟨cs, rfl, _⟩ := okWide_struct ht hv
  obtain ⟨a, ha, hw⟩ := ho.out hf
  exact ⟨a, cs.toList, by simp, ha, hw⟩
end Go.Proofs.Ythppgakbgkknlaa.Open
/-! ## OpenCo -/
namespace Go.Proofs.Ythppgakbgkknlaa.QCo
open Go.RowKit Go.Proofs.YthppgakbgkknlaaW.PrintWords Go.Proofs.YthppgakbgkknlaaW.PrintLast Go.Proofs.Ythppgakbgkknlaa.Open
set_option linter.unusedVariables false
end Go.Proofs.Ythppgakbgkknlaa.QCo
/-! ## CostPure -/
namespace Go.Proofs.Ythppgakbgkknlaa.CostPure
open Go.RowKit Go.Proofs.Ythppgakbgkknlaa.QCo Go.Proofs.YthppgakbgkknlaaW.PrintWords Go.Proofs.YthppgakbgkknlaaW.PrintLast Go.Proofs.YthppgakbgkknlaaW.PrintMore Go.Proofs.Ythppgakbgkknlaa.FloatMath
set_option linter.unusedVariables false

theorem evp {α : Type} {c : Prop} [Decidable c] {f g : Nat → Option α} {r : α} (h : c) (k : Ev f r) : Ev (fun n => if c then f n else g n) r := Ev.congr (fun _ => if_pos h) k
theorem evn {α : Type} {c : Prop} [Decidable c] {f g : Nat → Option α} {r : α} (h : ¬ c) (k : Ev g r) : Ev (fun n => if c then f n else g n) r := Ev.congr (fun _ => if_neg h) k
theorem evb {α β : Type} {o : Option α} {f : Nat → α → Option β} {a : α} {r : β} (h : o = some a) (k : Ev (fun n => f n a) r) : Ev (fun n => o.bind (f n)) r := Ev.congr (fun n => by rw [h]; rfl) k
theorem w64 {n : Int} (h0 : -9223372036854775808 ≤ n) (h1 : n ≤ 9223372036854775807) : wrap64 n = n := by unfold wrap64; omega
theorem wi {i : Nat} (h : i ≤ 1000000) : wrap64 ((i : Int) + 1) = ((i + 1 : Nat) : Int) := w64 (by omega) (by omega)

/-! ### Numbers -/
/-- Is it a tick count? -/
def isT (n : Int) : Bool := decide (0 ≤ n ∧ n ≤ 1099511627776)
theorem isT_iff {n : Int} : isT n = true ↔ 0 ≤ n ∧ n ≤ 1099511627776 := by unfold isT; simp
theorem is_eq (n : Int) : num_Is.f n = some (isT n) := by
  unfold num_Is.f isT
  by_cases h : n ≥ 0
  · rw [if_pos h]; simp [show 0 ≤ n from h]
  · rw [if_neg h]; simp [show ¬ 0 ≤ n from h]
theorem ris_eq (n : Int) : taskmasterref1_Is.f n = some (isT n) := by
  unfold taskmasterref1_Is.f isT
  by_cases h : n ≥ 0
  · rw [if_pos h]; simp [show 0 ≤ n from h]
  · rw [if_neg h]; simp [show ¬ 0 ≤ n from h]
theorem told_eq (n : Int) : num_told.f n true = some (if isT n = true then (n, true) else (0, false)) := by
  unfold num_told.f
  rw [if_pos rfl, is_eq, Option.bind_some]
  split <;> rfl
theorem told_not (n : Int) : num_told.f n false = some (0, false) := by unfold num_told.f; rw [if_neg (by simp)]
theorem add_eq {a b : Int} (ha : isT a = true) (hb : isT b = true) : num_Add.f a b = some (if a + b ≤ 1099511627776 then (a + b, true) else (0, false)) := by
  have h1 := isT_iff.mp ha
  have h2 := isT_iff.mp hb
  unfold num_Add.f
  rw [is_eq, Option.bind_some, if_pos ha, is_eq, Option.bind_some, if_pos hb, w64 (by omega) (by omega), told_eq]
  by_cases h : a + b ≤ 1099511627776
  · rw [if_pos (isT_iff.mpr ⟨by omega, h⟩), if_pos h]; rfl
  · rw [if_neg (fun q => h (isT_iff.mp q).2), if_neg h]; rfl
theorem u64w (n : Int) (h0 : 0 ≤ n) (h1 : n < 18446744073709551616) : IntKind.u64.wrap n = n := by rw [IntKind.wrap_u64]; omega
theorem low32 {n : Int} (h0 : 0 ≤ n) (h1 : n < 18446744073709551616) : Go.bits .and .u64 n 4294967295 = n % 4294967296 :=
  bits_mask .u64 64 (by decide) (fun n h0 h1 => u64w n h0 h1) 32 (by decide) n h0 h1
theorem high_of {p q r s : Int} (hp0 : 0 ≤ p) (hp : p ≤ 256 * 256) (hq0 : 0 ≤ q) (hq : q ≤ 256 * 4294967295) (hr0 : 0 ≤ r) (hr : r ≤ 256 * 4294967295) (hs0 : 0 ≤ s) (hs : s ≤ 4294967295 * 4294967295) :
    p + (q + s / 4294967296) / 4294967296 + ((q + s / 4294967296) % 4294967296 + r) / 4294967296 = (p * 18446744073709551616 + (q + r) * 4294967296 + s) / 18446744073709551616 := by
  omega
theorem mul64_eq {a b : Int} (h0 : 0 ≤ a) (h1 : a ≤ 1099511627776) (h2 : 0 ≤ b) (h3 : b ≤ 1099511627776) : bits_Mul64.f a b = some (a * b / 18446744073709551616, IntKind.u64.wrap (a * b)) := by
  unfold bits_Mul64.f
  refine congrArg some (Prod.ext ?_ rfl)
  show IntKind.u64.wrap _ = _
  rw [low32 h0 (by omega), low32 h2 (by omega)]
  have a1 : 0 ≤ a / 4294967296 ∧ a / 4294967296 ≤ 256 := by omega
  have b1 : 0 ≤ b / 4294967296 ∧ b / 4294967296 ≤ 256 := by omega
  have a0 : 0 ≤ a % 4294967296 ∧ a % 4294967296 ≤ 4294967295 := by omega
  have b0 : 0 ≤ b % 4294967296 ∧ b % 4294967296 ≤ 4294967295 := by omega
  have ea : a = a / 4294967296 * 4294967296 + a % 4294967296 := by omega
  have eb : b = b / 4294967296 * 4294967296 + b % 4294967296 := by omega
  generalize a / 4294967296 = A at *
  generalize b / 4294967296 = B at *
  generalize a % 4294967296 = C at *
  generalize b % 4294967296 = D at *
  have p0 : 0 ≤ A * B := Int.mul_nonneg a1.1 b1.1
  have p1 : A * B ≤ 256 * 256 := Int.mul_le_mul a1.2 b1.2 b1.1 (by omega)
  have q0 : 0 ≤ A * D := Int.mul_nonneg a1.1 b0.1
  have q1 : A * D ≤ 256 * 4294967295 := Int.mul_le_mul a1.2 b0.2 b0.1 (by omega)
  have r0 : 0 ≤ C * B := Int.mul_nonneg a0.1 b1.1
  have r1 : C * B ≤ 256 * 4294967295 := by have := Int.mul_le_mul a0.2 b1.2 b1.1 (by omega); omega
  have s0 : 0 ≤ C * D := Int.mul_nonneg a0.1 b0.1
  have s1 : C * D ≤ 4294967295 * 4294967295 := Int.mul_le_mul a0.2 b0.2 b0.1 (by omega)
  have key := high_of p0 p1 q0 q1 r0 r1 s0 s1
  have eab : a * b = A * B * 18446744073709551616 + (A * D + C * B) * 4294967296 + C * D := by
    rw [ea, eb, Int.add_mul, Int.mul_add, Int.mul_add]
    have x1 : A * 4294967296 * (B * 4294967296) = A * B * 18446744073709551616 := by rw [Int.mul_assoc, Int.mul_left_comm 4294967296 B, ← Int.mul_assoc]; rfl
    have x2 : A * 4294967296 * D = A * D * 4294967296 := by rw [Int.mul_assoc, Int.mul_comm 4294967296 D, ← Int.mul_assoc]
    have x3 : C * (B * 4294967296) = C * B * 4294967296 := by rw [← Int.mul_assoc]
    rw [x1, x2, x3]; omega
  rw [eab]
  generalize A * B = P at *
  generalize A * D = Q at *
  generalize C * B = R at *
  generalize C * D = S at *
  rw [u64w P (by omega) (by omega), u64w Q (by omega) (by omega), u64w R (by omega) (by omega), u64w S (by omega) (by omega)]
  rw [u64w (Q + S / 4294967296) (by omega) (by omega), low32 (by omega) (by omega), u64w (P + (Q + S / 4294967296) / 4294967296) (by omega) (by omega), u64w ((Q + S / 4294967296) % 4294967296 + R) (by omega) (by omega), key, u64w _ (by omega) (by omega)]
/-- What num.Mul answers. -/
def mulV (a b : Int) : Int × Bool := if isT a = true ∧ isT b = true ∧ a * b ≤ 1099511627776 then (a * b, true) else (0, false)
theorem mul_ev (a b : Int) : Ev (fun k => num_Mul.f k a b) (mulV a b) := by
  unfold num_Mul.f
  refine evb (is_eq a) ?_
  by_cases ha : isT a = true
  · refine evp ha (evb (is_eq b) ?_)
    by_cases hb : isT b = true
    · have h1 := isT_iff.mp ha
      have h2 := isT_iff.mp hb
      refine Ev.step (fun k => by rw [num_Mul.j0, if_neg (by rw [hb]; simp)]) ?_
      rw [u64w a (by omega) (by omega), u64w b (by omega) (by omega)]
      refine evb (mul64_eq h1.1 h1.2 h2.1 h2.2) ?_
      have hn : 0 ≤ a * b := Int.mul_nonneg h1.1 h2.1
      show Ev (fun n => (num_told.f (wrap64 (IntKind.u64.wrap (a * b))) (a * b / 18446744073709551616 == 0)).bind _) _
      unfold mulV
      generalize a * b = p at hn
      by_cases hq : p / 18446744073709551616 = 0
      · rw [show (p / 18446744073709551616 == 0) = true by simpa using hq, IntKind.wrap_u64, Int.emod_eq_of_lt hn (by omega)]
        refine evb (told_eq _) ?_
        by_cases hp : p ≤ 1099511627776
        · rw [w64 (by omega) (by omega), if_pos (isT_iff.mpr ⟨hn, hp⟩), if_pos ⟨ha, hb, hp⟩]; exact Ev.now _
        · rw [if_neg (fun x => by
            have := isT_iff.mp x
            unfold wrap64 at this; omega), if_neg (fun x => hp x.2.2)]; exact Ev.now _
      · rw [show (p / 18446744073709551616 == 0) = false by simpa using hq]
        refine evb (told_not _) ?_
        rw [if_neg (fun x => hq (by omega))]; exact Ev.now _
    · have e : mulV a b = (0, false) := by unfold mulV; rw [if_neg (fun x => hb x.2.1)]
      rw [e]
      exact Ev.step (fun k => by rw [num_Mul.j0, if_pos (by simpa using hb)]) (Ev.now _)
  · have e : mulV a b = (0, false) := by unfold mulV; rw [if_neg (fun x => ha x.1)]
    rw [e]
    exact evn ha (Ev.step (fun k => by rw [num_Mul.j0, if_pos rfl]) (Ev.now _))

/-! ### Costs -/
def fo (n : Int) : Nat := floatOfInt .f64 n
/-- Both are numbers: == says yes of the same. -/
def Num2 (c : Nat × Nat) : Prop := fin (Ieee.double.read c.1) = true ∧ fin (Ieee.double.read c.2) = true
theorem self_eq {b : Nat} (h : fin (Ieee.double.read b) = true) : (FloatKind.f64.format.order b b == some .eq) = true := by
  show (Ieee.double.order b b == some .eq) = true
  rw [order_of h h, cmp_eq]; simp
theorem same {c : Nat × Nat} (h : Num2 c) : ((FloatKind.f64.format.order c.1 c.1 == some .eq) && (FloatKind.f64.format.order c.2 c.2 == some .eq)) = true := by
  rw [self_eq h.1, self_eq h.2]; rfl
theorem fo_fin {n : Int} (h : -9007199254740992 < n ∧ n < 9007199254740992) : fin (Ieee.double.read (fo n)) = true := (val_nearest (decide (n < 0)) n.natAbs (by omega)).1
theorem fo_zero : fo 0 = 0 := by decide +kernel
theorem num_zero : Num2 (0, 0) := ⟨by rw [read_zero]; rfl, by rw [read_zero]; rfl⟩
theorem num_fo {a b : Int} (ha : isT a = true) (hb : isT b = true) : Num2 (fo a, fo b) := by
  have h1 := isT_iff.mp ha
  have h2 := isT_iff.mp hb
  exact ⟨fo_fin (by omega), fo_fin (by omega)⟩
def ofV (a b : Int) : (Nat × Nat) × Bool := if isT a = true ∧ isT b = true then ((fo a, fo b), true) else ((0, 0), false)
theorem of_eq (a b : Int) : cost_Of.f a b = some (ofV a b) := by
  unfold cost_Of.f ofV
  rw [is_eq, Option.bind_some]
  by_cases ha : isT a = true
  · rw [if_pos ha, is_eq, Option.bind_some]
    by_cases hb : isT b = true
    · rw [if_pos hb, if_pos ⟨ha, hb⟩]; rfl
    · rw [if_neg hb, if_neg (fun x => hb x.2)]
  · rw [if_neg ha, if_neg (fun x => ha x.1)]
theorem rof_eq (a b : Int) : taskmasterref3_Of.f a b = some (ofV a b) := by
  unfold taskmasterref3_Of.f ofV
  rw [ris_eq, Option.bind_some]
  by_cases ha : isT a = true
  · rw [if_pos ha, ris_eq, Option.bind_some]
    by_cases hb : isT b = true
    · rw [if_pos hb, if_pos ⟨ha, hb⟩]; rfl
    · rw [if_neg hb, if_neg (fun x => hb x.2)]
  · rw [if_neg ha, if_neg (fun x => ha x.1)]
theorem ofV_num (a b : Int) : Num2 (ofV a b).1 := by
  unfold ofV
  by_cases h : isT a = true ∧ isT b = true
  · rw [if_pos h]; exact num_fo h.1 h.2
  · rw [if_neg h]; exact num_zero
def partsV (c : Nat × Nat) : Int × Int × Bool := if okPart c.1 = true ∧ okPart c.2 = true then (FloatMath.part c.1, FloatMath.part c.2, true) else (0, 0, false)
theorem parts_eq (c : Nat × Nat) : cost_parts.f c = some (partsV c) := by
  unfold cost_parts.f cost_whole.f partsV
  rw [Option.bind_some, Option.bind_some]
  by_cases ha : okPart c.1 = true
  · rw [if_pos ha]
    by_cases hb : okPart c.2 = true
    · rw [if_pos hb, if_pos ⟨ha, hb⟩]
    · rw [if_neg hb, if_neg (fun x => hb x.2)]
  · rw [if_neg ha, if_neg (fun x => ha x.1)]
theorem rparts_eq (c : Nat × Nat) : taskmasterref3_Parts.f c = some (partsV c) := by
  unfold taskmasterref3_Parts.f taskmasterref3_part.f partsV
  rw [Option.bind_some, Option.bind_some]
  by_cases ha : okPart c.1 = true
  · rw [if_pos ha]
    by_cases hb : okPart c.2 = true
    · rw [if_pos hb, if_pos ⟨ha, hb⟩]
    · rw [if_neg hb, if_neg (fun x => hb x.2)]
  · rw [if_neg ha, if_neg (fun x => ha x.1)]
theorem partsV_in (c : Nat × Nat) : isT (partsV c).1 = true ∧ isT (partsV c).2.1 = true := by
  unfold partsV
  split
  · exact ⟨isT_iff.mpr (part_in _), isT_iff.mpr (part_in _)⟩
  · exact ⟨by decide, by decide⟩
theorem partsV_no {c : Nat × Nat} (h : ¬ (partsV c).2.2 = true) : partsV c = (0, 0, false) := by
  unfold partsV at h ⊢
  split
  · rename_i q; rw [if_pos q] at h; exact absurd rfl h
  · rfl
theorem partsV_fo {a b : Int} (ha : -9007199254740992 < a ∧ a < 9007199254740992) (hb : -9007199254740992 < b ∧ b < 9007199254740992) : partsV (fo a, fo b) = if isT a = true ∧ isT b = true then (a, b, true) else (0, 0, false) := by
  obtain ⟨a1, a2⟩ := of_int ha
  obtain ⟨b1, b2⟩ := of_int hb
  unfold partsV
  show (if okPart (floatOfInt .f64 a) = true ∧ okPart (floatOfInt .f64 b) = true then (FloatMath.part (floatOfInt .f64 a), FloatMath.part (floatOfInt .f64 b), true) else (0, 0, false)) = _
  rw [a1, b1, a2, b2]
  show (if isT a = true ∧ isT b = true then _ else _) = _
  by_cases h : isT a = true ∧ isT b = true
  · rw [if_pos h, if_pos h, if_pos (isT_iff.mp h.1), if_pos (isT_iff.mp h.2)]
  · rw [if_neg h, if_neg h]
theorem partsV_T {a b : Int} (ha : isT a = true) (hb : isT b = true) : partsV (fo a, fo b) = (a, b, true) := by
  have h1 := isT_iff.mp ha
  have h2 := isT_iff.mp hb
  rw [partsV_fo (by omega) (by omega), if_pos ⟨ha, hb⟩]
theorem work_eq (c : Nat × Nat) : cost_Work.f c = some (partsV c).1 := by unfold cost_Work.f; rw [parts_eq, Option.bind_some]
theorem again_eq (c : Nat × Nat) : cost_Again.f c = some (partsV c).2.1 := by unfold cost_Again.f; rw [parts_eq, Option.bind_some]
def totalV (c : Nat × Nat) : Int × Bool := if (partsV c).2.2 = true ∧ (partsV c).1 + (partsV c).2.1 ≤ 1099511627776 then ((partsV c).1 + (partsV c).2.1, true) else (0, false)
theorem total_eq (c : Nat × Nat) : cost_Total.f c = some (totalV c) := by
  obtain ⟨h1, h2⟩ := partsV_in c
  unfold cost_Total.f totalV
  rw [parts_eq, Option.bind_some]
  by_cases h : (partsV c).2.2 = true
  · rw [if_pos h, add_eq h1 h2, Option.bind_some]
    by_cases hs : (partsV c).1 + (partsV c).2.1 ≤ 1099511627776
    · rw [if_pos hs, if_pos ⟨h, hs⟩]
    · rw [if_neg hs, if_neg (fun x => hs x.2)]
  · rw [if_neg h, if_neg (fun x => h x.1)]
theorem rtotal_eq (c : Nat × Nat) : taskmasterref3_Total.f c = some (totalV c) := by
  obtain ⟨h1, h2⟩ := partsV_in c
  have g1 := isT_iff.mp h1
  have g2 := isT_iff.mp h2
  unfold taskmasterref3_Total.f totalV
  rw [rparts_eq, Option.bind_some]
  by_cases h : (partsV c).2.2 = true
  · rw [if_pos h, w64 (by omega) (by omega), ris_eq, Option.bind_some]
    by_cases hs : (partsV c).1 + (partsV c).2.1 ≤ 1099511627776
    · rw [if_pos (isT_iff.mpr ⟨by omega, hs⟩), if_pos ⟨h, hs⟩]
    · rw [if_neg (fun x => hs (isT_iff.mp x).2), if_neg (fun x => hs x.2)]
  · rw [if_neg h, if_neg (fun x => h x.1)]
/-- So many times. -/
def timesV (c : Nat × Nat) (n : Int) : (Nat × Nat) × Bool := if (partsV c).2.2 = true ∧ 0 ≤ n ∧ (partsV c).1 * n ≤ 1099511627776 ∧ (partsV c).2.1 * n ≤ 1099511627776 then ((fo ((partsV c).1 * n), fo ((partsV c).2.1 * n)), true) else ((0, 0), false)
theorem le_mul {a n : Int} (ha : 0 < a) (hn : 0 ≤ n) : n ≤ a * n := by
  have := Int.mul_le_mul_of_nonneg_right (show 1 ≤ a by omega) hn
  omega
theorem times_ev (c : Nat × Nat) (n : Int) : Ev (fun k => cost_Times.f k c n) (timesV c n) := by
  obtain ⟨h1, h2⟩ := partsV_in c
  have g1 := isT_iff.mp h1
  have g2 := isT_iff.mp h2
  have no : Ev (fun k => cost_Times.j0 k n (partsV c).1 (partsV c).2.1 true) ((0, 0), false) := Ev.step (fun k => by rw [cost_Times.j0, if_pos rfl]) (Ev.now _)
  unfold cost_Times.f timesV
  refine evb (parts_eq c) ?_
  by_cases h : (partsV c).2.2 = true
  · refine evp h ?_
    by_cases hn : n < 0
    · rw [decide_eq_true hn, if_neg (fun x => by omega)]; exact no
    rw [decide_eq_false hn]
    generalize (partsV c).1 = a at *
    generalize (partsV c).2.1 = b at *
    have a0 : 0 ≤ a * n := Int.mul_nonneg g1.1 (by omega)
    have b0 : 0 ≤ b * n := Int.mul_nonneg g2.1 (by omega)
    have main : ∀ r, (if (partsV c).2.2 = true ∧ 0 ≤ n ∧ a * n ≤ 1099511627776 ∧ b * n ≤ 1099511627776 then ((fo (a * n), fo (b * n)), true) else ((0, 0), false)) = r → (0 < a ∨ 0 < b) → Ev (fun k => cost_Times.j1 k n a b false) r := by
      intro r hr hpos
      refine Ev.step (fun k => by rw [cost_Times.j1, if_neg (by simp)]) (Ev.bind (mul_ev a n) (Ev.bind (mul_ev b n) ?_))
      have hle : a * n ≤ 1099511627776 → b * n ≤ 1099511627776 → isT n = true := fun x y => by
        refine isT_iff.mpr ⟨by omega, ?_⟩
        rcases hpos with q | q
        · have := le_mul q (show 0 ≤ n by omega); omega
        · have := le_mul q (show 0 ≤ n by omega); omega
      by_cases ha : a * n ≤ 1099511627776
      · by_cases hb : b * n ≤ 1099511627776
        · have hT := hle ha hb
          rw [if_pos ⟨h, by omega, ha, hb⟩] at hr
          subst hr
          have e1 : mulV a n = (a * n, true) := by unfold mulV; rw [if_pos ⟨h1, hT, ha⟩]
          have e2 : mulV b n = (b * n, true) := by unfold mulV; rw [if_pos ⟨h2, hT, hb⟩]
          have e3 : ofV (a * n) (b * n) = ((fo (a * n), fo (b * n)), true) := by unfold ofV; rw [if_pos ⟨isT_iff.mpr ⟨a0, ha⟩, isT_iff.mpr ⟨b0, hb⟩⟩]
          have e4 := of_eq (a * n) (b * n)
          rw [e3] at e4
          rw [e1, e2]
          exact evp rfl (evp rfl (evb e4 (Ev.now _)))
        · rw [if_neg (fun x => hb x.2.2.2)] at hr
          subst hr
          have e2 : mulV b n = (0, false) := by unfold mulV; rw [if_neg (fun x => hb x.2.2)]
          rw [e2]
          by_cases q : (mulV a n).2 = true
          · exact evp q (evn (by simp) (Ev.now _))
          · exact evn q (Ev.now _)
      · rw [if_neg (fun x => ha x.2.2.1)] at hr
        subst hr
        have e1 : mulV a n = (0, false) := by unfold mulV; rw [if_neg (fun x => ha x.2.2)]
        rw [e1]; exact evn (by simp) (Ev.now _)
    refine Ev.step (fun k => by rw [cost_Times.j0, if_neg (by simp)]) ?_
    by_cases za : a = 0
    · refine evp za ?_
      by_cases zb : b = 0
      · subst za zb
        rw [if_pos ⟨h, by omega, by omega, by omega⟩, Int.zero_mul, fo_zero]
        exact Ev.step (fun k => by rw [cost_Times.j1, if_pos (by simp)]) (Ev.now _)
      · rw [show (b == 0) = false by simpa using zb]
        exact main _ rfl (Or.inr (by omega))
    · exact evn za (main _ rfl (Or.inl (by omega)))
  · rw [if_neg (fun x => h x.1)]
    exact evn h no
theorem div_lt {a n : Int} (ha : 0 < a) (hn : 0 ≤ n) : (n > wrap64 (1099511627776 / a)) ↔ ¬ a * n ≤ 1099511627776 := by
  have h0 : 0 ≤ 1099511627776 / a := Int.ediv_nonneg (by omega) (by omega)
  have h1 : 1099511627776 / a ≤ 1099511627776 := Int.ediv_le_self _ (by omega)
  rw [w64 (by omega) (by omega)]
  rw [Int.mul_comm, ← Int.le_ediv_iff_mul_le ha]
  omega
theorem rtimes_eq (c : Nat × Nat) (n : Int) : taskmasterref3_Times.f c n = some (timesV c n) := by
  obtain ⟨h1, h2⟩ := partsV_in c
  have g1 := isT_iff.mp h1
  have g2 := isT_iff.mp h2
  unfold taskmasterref3_Times.f timesV
  rw [rparts_eq, Option.bind_some]
  by_cases h : (partsV c).2.2 = true
  · rw [if_pos h]
    by_cases hn : n < 0
    · rw [if_pos hn, if_neg (fun x => by omega)]
    rw [if_neg hn]
    generalize (partsV c).1 = a at *
    generalize (partsV c).2.1 = b at *
    have hn0 : 0 ≤ n := by omega
    have a0 : 0 ≤ a * n := Int.mul_nonneg g1.1 hn0
    have b0 : 0 ≤ b * n := Int.mul_nonneg g2.1 hn0
    have last : a * n ≤ 1099511627776 → b * n ≤ 1099511627776 → (taskmasterref3_Of.f (wrap64 (a * n)) (wrap64 (b * n))) = some ((fo (a * n), fo (b * n)), true) := fun x y => by
      rw [w64 (n := a * n) (by omega) (by omega), w64 (n := b * n) (by omega) (by omega), rof_eq]
      unfold ofV; rw [if_pos ⟨isT_iff.mpr ⟨a0, x⟩, isT_iff.mpr ⟨b0, y⟩⟩]
    by_cases ha : a > 0
    · rw [if_pos ha, if_neg (show ¬ a = 0 by omega)]
      by_cases qa : a * n ≤ 1099511627776
      · rw [if_neg (fun x => (div_lt ha hn0).mp x qa)]
        by_cases hb : b > 0
        · rw [if_pos hb, if_neg (show ¬ b = 0 by omega)]
          by_cases qb : b * n ≤ 1099511627776
          · rw [if_neg (fun x => (div_lt hb hn0).mp x qb), if_pos ⟨h, hn0, qa, qb⟩, last qa qb]; rfl
          · rw [if_pos ((div_lt hb hn0).mpr qb), if_neg (fun x => qb x.2.2.2)]
        · obtain rfl : b = 0 := by omega
          have qb : 0 * n ≤ 1099511627776 := by omega
          rw [if_neg hb, if_pos ⟨h, hn0, qa, qb⟩, last qa qb]; rfl
      · rw [if_pos ((div_lt ha hn0).mpr qa), if_neg (fun x => qa x.2.2.1)]
    · obtain rfl : a = 0 := by omega
      have qa : 0 * n ≤ 1099511627776 := by omega
      rw [if_neg ha]
      by_cases hb : b > 0
      · rw [if_pos hb, if_neg (show ¬ b = 0 by omega)]
        by_cases qb : b * n ≤ 1099511627776
        · rw [if_neg (fun x => (div_lt hb hn0).mp x qb), if_pos ⟨h, hn0, qa, qb⟩, last qa qb]; rfl
        · rw [if_pos ((div_lt hb hn0).mpr qb), if_neg (fun x => qb x.2.2.2)]
      · obtain rfl : b = 0 := by omega
        rw [if_neg hb, if_pos ⟨h, hn0, qa, qa⟩, last qa qa]; rfl
  · rw [if_neg h, if_neg (fun x => h x.1)]
theorem timesV_num (c : Nat × Nat) (n : Int) : Num2 (timesV c n).1 := by
  obtain ⟨h1, h2⟩ := partsV_in c
  have g1 := isT_iff.mp h1
  have g2 := isT_iff.mp h2
  unfold timesV
  split
  · rename_i h
    exact num_fo (isT_iff.mpr ⟨Int.mul_nonneg g1.1 h.2.1, h.2.2.1⟩) (isT_iff.mpr ⟨Int.mul_nonneg g2.1 h.2.1, h.2.2.2⟩)
  · exact num_zero
/-- The greater one. -/
def moreV (c d : Nat × Nat) : Nat × Nat :=
  if (partsV c).2.2 = true then (if (partsV d).2.2 = true then (if (partsV c).1 + (partsV c).2.1 ≥ (partsV d).1 + (partsV d).2.1 then c else d) else c) else if (partsV d).2.2 = true then d else (0, 0)
theorem more_ev (c d : Nat × Nat) : Ev (fun k => cost_More.f k c d) (moreV c d) := by
  have g1 := isT_iff.mp (partsV_in c).1
  have g2 := isT_iff.mp (partsV_in c).2
  have g3 := isT_iff.mp (partsV_in d).1
  have g4 := isT_iff.mp (partsV_in d).2
  have yes : ∀ b, Ev (fun k => cost_More.j0 k c d b true) c := fun b => Ev.step (fun k => by rw [cost_More.j0, if_pos rfl]) (Ev.now _)
  generalize hr : moreV c d = r
  unfold moreV at hr
  unfold cost_More.f
  refine evb (parts_eq c) (evb (parts_eq d) ?_)
  rw [w64 (n := (partsV c).1 + (partsV c).2.1) (by omega) (by omega), w64 (n := (partsV d).1 + (partsV d).2.1) (by omega) (by omega)]
  by_cases hc : (partsV c).2.2 = true
  · rw [if_pos hc] at hr
    refine evp hc ?_
    by_cases hd : (partsV d).2.2 = true
    · rw [if_pos hd] at hr
      refine evp hd ?_
      by_cases hg : (partsV c).1 + (partsV c).2.1 ≥ (partsV d).1 + (partsV d).2.1
      · rw [if_pos hg] at hr; subst hr; rw [decide_eq_true hg]; exact yes _
      · rw [if_neg hg] at hr; subst hr; rw [decide_eq_false hg]
        exact Ev.step (fun k => by rw [cost_More.j0, if_neg (by simp)]) (evp hd (Ev.now _))
    · rw [if_neg hd] at hr; subst hr; exact evn hd (yes _)
  · rw [if_neg hc] at hr
    refine evn hc (Ev.step (fun k => by rw [cost_More.j0, if_neg (by simp)]) ?_)
    by_cases hd : (partsV d).2.2 = true
    · rw [if_pos hd] at hr; subst hr; exact evp hd (Ev.now _)
    · rw [if_neg hd] at hr; subst hr; exact evn hd (Ev.now _)
theorem rmore_ev (c d : Nat × Nat) : Ev (fun k => taskmasterref3_More.f k c d) (moreV c d) := by
  have g1 := isT_iff.mp (partsV_in c).1
  have g2 := isT_iff.mp (partsV_in c).2
  have g3 := isT_iff.mp (partsV_in d).1
  have g4 := isT_iff.mp (partsV_in d).2
  generalize hr : moreV c d = r
  unfold moreV at hr
  unfold taskmasterref3_More.f
  refine evb (rparts_eq c) (evb (rparts_eq d) ?_)
  by_cases hc : (partsV c).2.2 = true
  · rw [if_pos hc] at hr
    refine evp hc (Ev.step (fun k => by rw [taskmasterref3_More.j0, if_neg (by simp)]) ?_)
    rw [w64 (n := (partsV c).1 + (partsV c).2.1) (by omega) (by omega), w64 (n := (partsV d).1 + (partsV d).2.1) (by omega) (by omega)]
    refine evp hc ?_
    by_cases hd : (partsV d).2.2 = true
    · rw [if_pos hd] at hr
      refine evp hd ?_
      by_cases hg : (partsV c).1 + (partsV c).2.1 ≥ (partsV d).1 + (partsV d).2.1
      · rw [if_pos hg] at hr; subst hr; exact evn (by omega) (Ev.now _)
      · rw [if_neg hg] at hr; subst hr; exact evp (by omega) (Ev.now _)
    · rw [if_neg hd] at hr; subst hr; exact evn hd (Ev.now _)
  · rw [if_neg hc] at hr
    refine evn hc ?_
    by_cases hd : (partsV d).2.2 = true
    · rw [if_pos hd] at hr; subst hr
      exact Ev.step (fun k => by rw [taskmasterref3_More.j0, if_neg (by rw [hd]; simp)]) (evn hc (Ev.now _))
    · rw [if_neg hd] at hr; subst hr
      exact Ev.step (fun k => by rw [taskmasterref3_More.j0, if_pos (by simpa using hd)]) (Ev.now _)
theorem moreV_num {c d : Nat × Nat} (hc : Num2 c) (hd : Num2 d) : Num2 (moreV c d) := by
  unfold moreV
  split
  · split
    · split <;> assumption
    · exact hc
  · split
    · exact hd
    · exact num_zero

/-! ### Sums -/
def rdx (l : List (Nat × Nat)) (i : Nat) : Nat × Nat := rdOf ((0, 0) : Nat × Nat) l (i : Int)
theorem rdx_drop {l : List (Nat × Nat)} {i : Nat} (h : i < l.length) : l.drop i = rdOf ((0, 0) : Nat × Nat) l (i : Int) :: l.drop (i + 1) := by
  rw [List.drop_eq_getElem_cons h]; unfold rdOf
  rw [Int.toNat_natCast, List.getD_eq_getElem?_getD, List.getElem?_eq_getElem h]; rfl
def sumV : Int → Int → List (Nat × Nat) → (Nat × Nat) × Bool
  | w, a, [] => ofV w a
  | w, a, c :: l => if (partsV c).2.2 = true ∧ w + (partsV c).1 ≤ 1099511627776 ∧ a + (partsV c).2.1 ≤ 1099511627776 then sumV (w + (partsV c).1) (a + (partsV c).2.1) l else ((0, 0), false)
theorem sumV_num : ∀ (w a : Int) (l : List (Nat × Nat)), Num2 (sumV w a l).1
  | w, a, [] => ofV_num w a
  | w, a, c :: l => by
    unfold sumV
    split
    · exact sumV_num _ _ l
    · exact num_zero
theorem sum_loop (l : List (Nat × Nat)) (hl : l.length ≤ 1000) (d : Nat) : ∀ (i : Nat) (w a : Int), i + d = l.length → isT w = true → isT a = true → Ev (fun k => cost_Sum.l0 k w a l (l.length : Int) (i : Int)) (sumV w a (l.drop i)) := by
  induction d with
  | zero =>
    intro i w a hi hw ha
    rw [List.drop_eq_nil_of_le (by omega)]
    exact Ev.step (fun k => by rw [cost_Sum.l0]) (evn (by omega) (evb (of_eq w a) (Ev.now _)))
  | succ d ih =>
    intro i w a hi hw ha
    rw [rdx_drop (l := l) (i := i) (by omega)]
    generalize hx : rdOf ((0, 0) : Nat × Nat) l (i : Int) = x
    generalize hr : sumV w a (x :: l.drop (i + 1)) = r
    unfold sumV at hr
    obtain ⟨h1, h2⟩ := partsV_in x
    have g0 := isT_iff.mp hw
    have g1 := isT_iff.mp h1
    have g2 := isT_iff.mp h2
    have g3 := isT_iff.mp ha
    refine Ev.step (fun k => by rw [cost_Sum.l0, hx]) (evp (by omega) (evp (by omega) (evp (by omega) (evb (parts_eq x) ?_))))
    by_cases h : (partsV x).2.2 = true
    · refine evp h (evb (add_eq hw h1) (evb (add_eq ha h2) ?_))
      by_cases q1 : w + (partsV x).1 ≤ 1099511627776
      · rw [if_pos q1]
        refine evp rfl ?_
        by_cases q2 : a + (partsV x).2.1 ≤ 1099511627776
        · rw [if_pos ⟨h, q1, q2⟩] at hr; subst hr; rw [if_pos q2, wi (by omega)]
          exact evp rfl (ih (i + 1) _ _ (by omega) (isT_iff.mpr ⟨by omega, q1⟩) (isT_iff.mpr ⟨by omega, q2⟩))
        · rw [if_neg (fun x => q2 x.2.2)] at hr; subst hr; rw [if_neg q2]; exact evn (by simp) (Ev.now _)
      · rw [if_neg (fun x => q1 x.2.1)] at hr; subst hr; rw [if_neg q1]; exact evn (by simp) (Ev.now _)
    · rw [if_neg (fun x => h x.1)] at hr; subst hr; exact evn h (Ev.now _)
theorem sum_ev (l : List (Nat × Nat)) (hl : l.length ≤ 1000) : Ev (fun k => cost_Sum.f k l) (sumV 0 0 l) := sum_loop l hl l.length 0 0 0 (by omega) (by decide) (by decide)
theorem rsum_loop (l : List (Nat × Nat)) (hl : l.length ≤ 1000) (d : Nat) : ∀ (i : Nat) (w a : Int), i + d = l.length → isT w = true → isT a = true → Ev (fun k => taskmasterref3_Sum.l0 k l w a (i : Int)) (sumV w a (l.drop i)) := by
  induction d with
  | zero =>
    intro i w a hi hw ha
    rw [List.drop_eq_nil_of_le (by omega)]
    exact Ev.step (fun k => by rw [taskmasterref3_Sum.l0]) (evn (by omega) (evb (rof_eq w a) (Ev.now _)))
  | succ d ih =>
    intro i w a hi hw ha
    rw [rdx_drop (l := l) (i := i) (by omega)]
    generalize hx : rdOf ((0, 0) : Nat × Nat) l (i : Int) = x
    generalize hr : sumV w a (x :: l.drop (i + 1)) = r
    unfold sumV at hr
    obtain ⟨h1, h2⟩ := partsV_in x
    have g0 := isT_iff.mp hw
    have g1 := isT_iff.mp h1
    have g2 := isT_iff.mp h2
    have g3 := isT_iff.mp ha
    refine Ev.step (fun k => by rw [taskmasterref3_Sum.l0, hx]) (evp (by omega) (evp (by omega) (evb (rparts_eq x) ?_)))
    rw [w64 (n := w + (partsV x).1) (by omega) (by omega), w64 (n := a + (partsV x).2.1) (by omega) (by omega)]
    by_cases h : (partsV x).2.2 = true
    · refine evp h (evb (ris_eq _) ?_)
      by_cases q1 : w + (partsV x).1 ≤ 1099511627776
      · refine evp (isT_iff.mpr ⟨by omega, q1⟩) (evb (ris_eq _) ?_)
        by_cases q2 : a + (partsV x).2.1 ≤ 1099511627776
        · rw [if_pos ⟨h, q1, q2⟩] at hr; subst hr; rw [wi (by omega)]
          exact evp (isT_iff.mpr ⟨by omega, q2⟩) (ih (i + 1) _ _ (by omega) (isT_iff.mpr ⟨by omega, q1⟩) (isT_iff.mpr ⟨by omega, q2⟩))
        · rw [if_neg (fun x => q2 x.2.2)] at hr; subst hr; exact evn (fun x => q2 (isT_iff.mp x).2) (Ev.now _)
      · rw [if_neg (fun x => q1 x.2.1)] at hr; subst hr; exact evn (fun x => q1 (isT_iff.mp x).2) (Ev.now _)
    · rw [if_neg (fun x => h x.1)] at hr; subst hr; exact evn h (Ev.now _)
theorem rsum_ev (l : List (Nat × Nat)) (hl : l.length ≤ 1000) : Ev (fun k => taskmasterref3_Sum.f k l) (sumV 0 0 l) := rsum_loop l hl l.length 0 0 0 (by omega) (by decide) (by decide)
theorem known3 : taskmasterlaw3_known.f = some true := by
  have e0 : ofV 3 4 = ((fo 3, fo 4), true) := by unfold ofV; rw [if_pos ⟨by decide, by decide⟩]
  have e1 : partsV (fo 3, fo 4) = (3, 4, true) := partsV_T (by decide) (by decide)
  unfold taskmasterlaw3_known.f
  rw [of_eq, Option.bind_some, e0, total_eq, Option.bind_some, if_pos rfl]
  have e2 : totalV (fo 3, fo 4) = (7, true) := by unfold totalV; rw [e1]; rfl
  rw [e2, if_pos rfl, if_pos rfl, work_eq, Option.bind_some, e1, if_pos rfl, again_eq, Option.bind_some, e1]
  rfl
end Go.Proofs.Ythppgakbgkknlaa.CostPure
/-! ## SumsLaw -/
namespace Go.Proofs.Ythppgakbgkknlaa.Pure
open Go.RowKit Go.Proofs.Ythppgakbgkknlaa.QCo Go.Proofs.YthppgakbgkknlaaW.PrintWords Go.Proofs.YthppgakbgkknlaaW.PrintLast Go.Proofs.YthppgakbgkknlaaW.PrintMore Go.Proofs.Ythppgakbgkknlaa.FloatMath Go.Proofs.Ythppgakbgkknlaa.CostPure
set_option linter.unusedVariables false

def tw : List (Nat × Nat) → Int
  | [] => 0
  | c :: l => (partsV c).1 + tw l
def ta : List (Nat × Nat) → Int
  | [] => 0
  | c :: l => (partsV c).2.1 + ta l
def okL : List (Nat × Nat) → Bool
  | [] => true
  | c :: l => (partsV c).2.2 && okL l
theorem tw_nonneg : ∀ l, 0 ≤ tw l ∧ 0 ≤ ta l
  | [] => ⟨Int.le_refl _, Int.le_refl _⟩
  | c :: l => by
    have := tw_nonneg l
    have g1 := isT_iff.mp (partsV_in c).1
    have g2 := isT_iff.mp (partsV_in c).2
    unfold tw ta; omega
theorem tw_append : ∀ l m, tw (l ++ m) = tw l + tw m ∧ ta (l ++ m) = ta l + ta m ∧ okL (l ++ m) = (okL l && okL m)
  | [], m => by simp [tw, ta, okL]
  | c :: l, m => by
    obtain ⟨h1, h2, h3⟩ := tw_append l m
    show (partsV c).1 + tw (l ++ m) = (partsV c).1 + tw l + tw m ∧ (partsV c).2.1 + ta (l ++ m) = (partsV c).2.1 + ta l + ta m ∧ ((partsV c).2.2 && okL (l ++ m)) = ((partsV c).2.2 && okL l && okL m)
    rw [h1, h2, h3]
    exact ⟨by omega, by omega, by rw [Bool.and_assoc]⟩
theorem tw_rev : ∀ l, tw l.reverse = tw l ∧ ta l.reverse = ta l ∧ okL l.reverse = okL l
  | [] => ⟨rfl, rfl, rfl⟩
  | c :: l => by
    obtain ⟨h1, h2, h3⟩ := tw_rev l
    rw [List.reverse_cons]
    obtain ⟨g1, g2, g3⟩ := tw_append l.reverse [c]
    rw [g1, g2, g3, h1, h2, h3]
    refine ⟨?_, ?_, ?_⟩
    · show tw l + ((partsV c).1 + 0) = (partsV c).1 + tw l; omega
    · show ta l + ((partsV c).2.1 + 0) = (partsV c).2.1 + ta l; omega
    · show (okL l && ((partsV c).2.2 && true)) = ((partsV c).2.2 && okL l)
      rw [Bool.and_true, Bool.and_comm]
theorem sumV_closed : ∀ (l : List (Nat × Nat)) (w a : Int), isT w = true → isT a = true → sumV w a l = if okL l = true ∧ w + tw l ≤ 1099511627776 ∧ a + ta l ≤ 1099511627776 then ofV (w + tw l) (a + ta l) else ((0, 0), false)
  | [], w, a, hw, ha => by
    have g1 := isT_iff.mp hw
    have g2 := isT_iff.mp ha
    have e1 : w + tw [] = w := by show w + 0 = w; omega
    have e2 : a + ta [] = a := by show a + 0 = a; omega
    rw [e1, e2, if_pos ⟨rfl, g1.2, g2.2⟩]; rfl
  | c :: l, w, a, hw, ha => by
    have g1 := isT_iff.mp hw
    have g2 := isT_iff.mp ha
    have g3 := isT_iff.mp (partsV_in c).1
    have g4 := isT_iff.mp (partsV_in c).2
    have n := tw_nonneg l
    have e1 : w + tw (c :: l) = w + (partsV c).1 + tw l := by show w + ((partsV c).1 + tw l) = _; omega
    have e2 : a + ta (c :: l) = a + (partsV c).2.1 + ta l := by show a + ((partsV c).2.1 + ta l) = _; omega
    have e3 : okL (c :: l) = ((partsV c).2.2 && okL l) := rfl
    rw [e1, e2, e3, sumV]
    by_cases h : (partsV c).2.2 = true ∧ w + (partsV c).1 ≤ 1099511627776 ∧ a + (partsV c).2.1 ≤ 1099511627776
    · rw [if_pos h, sumV_closed l _ _ (isT_iff.mpr ⟨by omega, h.2.1⟩) (isT_iff.mpr ⟨by omega, h.2.2⟩), h.1, Bool.true_and]
    · rw [if_neg h, if_neg (fun x => h ⟨(Bool.and_eq_true_iff.mp x.1).1, by omega, by omega⟩)]
theorem sumV_rev (l : List (Nat × Nat)) : sumV 0 0 l.reverse = sumV 0 0 l := by
  obtain ⟨h1, h2, h3⟩ := tw_rev l
  rw [sumV_closed _ _ _ (by decide) (by decide), sumV_closed _ _ _ (by decide) (by decide), h1, h2, h3]
theorem sums_back (l : List (Nat × Nat)) (hl : l.length ≤ 1000) : ∀ (i : Nat), i ≤ l.length → Ev (fun k => taskmasterlaw3_CostSums.l1 k l (sumV 0 0 l).1 (sumV 0 0 l).2 (sumV 0 0 l).1 (sumV 0 0 l).2 (l.drop i).reverse ((i : Int) - 1)) true := by
  intro i
  induction i with
  | zero =>
    intro _
    have hs := sum_ev l.reverse (by rw [List.length_reverse]; exact hl)
    rw [sumV_rev] at hs
    have hn := same (sumV_num 0 0 l)
    rw [List.drop_zero]
    refine Ev.step (fun k => by rw [taskmasterlaw3_CostSums.l1]) ?_
    refine evn (by omega) ?_
    refine Ev.bind hs ?_
    refine evp hn ?_
    refine evp (by simp) ?_
    refine evp hn ?_
    exact evp (by simp) (evb known3 (Ev.now true))
  | succ i ih =>
    intro hi
    have r := ih (by omega)
    rw [rdx_drop (l := l) (i := i) (by omega), List.reverse_cons] at r
    have e : (((i + 1 : Nat) : Int) - 1) = (i : Int) := by omega
    rw [e]
    have hlen : (l.drop (i + 1)).reverse.length ≤ 1000 := by rw [List.length_reverse, List.length_drop]; omega
    refine Ev.step (fun k => by rw [taskmasterlaw3_CostSums.l1]) ?_
    refine evp (by omega) ?_
    refine evp (by omega) ?_
    refine evp (by omega) ?_
    refine evp (by omega) ?_
    rw [w64 (n := (i : Int) - 1) (by omega) (by omega)]
    exact r
theorem sums_end (a b : List Int) (l : List (Nat × Nat)) (hl : l.length ≤ 1000) (i : Int) : Ev (fun k => taskmasterlaw3_CostSums.j2 k a b l i false) true := by
  have r := sums_back l hl l.length (Nat.le_refl _)
  rw [List.drop_eq_nil_of_le (Nat.le_refl _)] at r
  refine Ev.step (fun k => by rw [taskmasterlaw3_CostSums.j2, if_neg (by simp)]) (Ev.bind (sum_ev l hl) (Ev.bind (rsum_ev l hl) ?_))
  rw [w64 (n := (l.length : Int) - 1) (by omega) (by omega)]
  exact r
theorem sums_loop (a b : List Int) (ha : a.length ≤ 50) (hb : b.length ≤ 50) (d : Nat) : ∀ (i : Nat) (l : List (Nat × Nat)), i + d = a.length → l.length = i → Ev (fun k => taskmasterlaw3_CostSums.l0 k a b l (i : Int)) true := by
  induction d with
  | zero =>
    intro i l hi hli
    exact Ev.step (fun k => by rw [taskmasterlaw3_CostSums.l0]) (evn (by omega) (sums_end a b l (by omega) i))
  | succ d ih =>
    intro i l hi hli
    refine Ev.step (fun k => by rw [taskmasterlaw3_CostSums.l0]) (evp (by omega) ?_)
    by_cases hj : (i : Int) < (b.length : Int)
    · rw [decide_eq_true hj]
      generalize hp : rd a (i : Int) = p
      generalize hq : rd b (i : Int) = q
      refine Ev.step (fun k => by rw [taskmasterlaw3_CostSums.j2, if_pos rfl, hp, hq]) ?_
      refine evp (by omega) ?_
      refine evp (by omega) ?_
      by_cases c0 : p < -1125899906842624
      · exact evp c0 (Ev.now true)
      refine evn c0 ?_
      by_cases c1 : p > 1125899906842624
      · exact evp c1 (Ev.now true)
      refine evn c1 ?_
      refine evp hj ?_
      by_cases c2 : q < -1125899906842624
      · exact evp c2 (Ev.now true)
      refine evn c2 ?_
      by_cases c3 : q > 1125899906842624
      · exact evp c3 (Ev.now true)
      refine evn c3 (evb rfl ?_)
      have hlen : ([((floatOfInt .f64 p, floatOfInt .f64 q) : Nat × Nat)] : List (Nat × Nat)).length + l.length < 8796093022208 := by simp; omega
      refine evp hlen ?_
      rw [wi (by omega)]
      exact ih (i + 1) _ (by omega) (by simp; omega)
    · rw [decide_eq_false hj]
      exact sums_end a b l (by omega) i
theorem CostSums (l0 : (List Int)) (l1 : (List Int)) (w0 : ∀ y ∈ l0, (Lit.int .i64 y).wf = true) (w1 : ∀ y ∈ l1, (Lit.int .i64 y).wf = true) : ∃ k : Nat, taskmasterlaw3_CostSums.f k l0 l1 = some true := by
  refine Ev.rounds ?_
  have no : Ev (fun k => taskmasterlaw3_CostSums.j0 k l0 l1 true) true := Ev.step (fun k => by rw [taskmasterlaw3_CostSums.j0, if_pos rfl]) (Ev.now true)
  unfold taskmasterlaw3_CostSums.f
  by_cases c0 : (l0.length : Int) > 50
  · exact evp c0 no
  refine evn c0 ?_
  by_cases c1 : (l1.length : Int) > 50
  · rw [decide_eq_true c1]; exact no
  rw [decide_eq_false c1]
  refine Ev.step (fun k => by rw [taskmasterlaw3_CostSums.j0, if_neg (by simp)]) ?_
  exact sums_loop l0 l1 (by omega) (by omega) l0.length 0 [] (by omega) rfl
end Go.Proofs.Ythppgakbgkknlaa.Pure

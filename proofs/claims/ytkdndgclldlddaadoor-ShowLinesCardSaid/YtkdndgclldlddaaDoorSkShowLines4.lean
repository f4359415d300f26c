/- What is proved: contracts and plain facts on the way to the row RowShowLines, and, in the last text, the row itself; conditions as each theorem names them. -/
import Derived.ChangeArms
import Derived.Deep.Slices
import Derived.DataReads
import Derived.WideShapes
import Derived.KernelRfl
import Derived.Laws.BitsLemmas
import Derived.Lib.ItoaLen
import Derived.Test.YtkdndgclldlddaaDoorRows
import Derived.LaidMore
import Derived.MakeChecks
import Derived.Lib.LaidTab
import Derived.ProofKit
import Derived.WalkKit
import Derived.OpenShut
import Derived.ShutString
import Derived.ChangeOld
import Derived.Below
import Derived.SizedLaws
import Derived.Test.YtkdndgclldlddaaDoorTie
import Derived.Test.YtkdndgclldlddaaDoorCards
import Derived.SevenTiedAt
import Derived.Stop.Joined
import Derived.Test.YtkdndgclldlddaaDoorSkShowLines1
import Derived.Test.YtkdndgclldlddaaDoorSkShowLines2
import Derived.Test.YtkdndgclldlddaaDoorSkShowLines3
namespace Go.Proofs.YtkdndgclldlddaaDoor.Open
open Go.RowKit Go.Proofs.YtkdndgclldlddaaDoorW.PrintWords Go.Proofs.YtkdndgclldlddaaDoorW.PrintLast Go.WideShapes
set_option linter.unusedVariables false
structure Opens (P : Program) {α : Type} (k : Kd α) (t : TypeId) (W : α → Prop) : Prop where
  out : ∀ {H : Type} {enc : TypeId × Value → H} {w : World} {base : Nat} {spare : Nat → Bool} {held : Bool} {fuel : Nat} {cs : List Value} {x : DataW H × List MemPlace},
    DataW.trod enc P w base spare held fuel t cs = some x → ∃ a : α, k.K w a cs ∧ W a
theorem opens_int {P : Program} {t : TypeId} {k : IntKind} (ht : P.underlying t = some (.int k)) : Opens P (Kd.int k) t (fun n => (Lit.int k n).wf = true) := by
  refine ⟨fun {H enc w base spare held fuel cs x} h => ?_⟩
  obtain ⟨n, rfl, _, hw⟩ := DataW.trod_int ht h
  exact ⟨n, rfl, hw⟩
theorem opens_string {P : Program} {t : TypeId} (ht : P.underlying t = some .string) : Opens P Kd.string t (fun s => s.size ≤ maxLen) := by
  refine ⟨fun {H enc w base spare held fuel cs x} h => ?_⟩
  obtain ⟨s, rfl, _, hs⟩ := DataW.trod_string ht h
  exact ⟨s, rfl, hs⟩
theorem addr_add (a : Addr) (i j : Nat) : (a.add i).add j = a.add (i + j) := Go.Deep.add_add a i j
theorem opens_slice {P : Program} {α : Type} [Inhabited α] {d : Kd α} {t e : TypeId} {W : α → Prop} (ht : P.underlying t = some (.slice e)) (hs : P.cellsOf e = d.sz) (hd : Opens P d e W) :
    Opens P (Kd.slice e d) t (fun xs => ∀ x ∈ xs, W x) := by
  refine ⟨fun {H enc w base spare held fuel cs x} h => ?_⟩
  rcases Go.Deep.open_slice ht h with ⟨rfl, _⟩ | ⟨a, len, cap, m, n, D, Pl, rfl, hb, hl, hc, hm, _, hel⟩
  · exact ⟨[], ⟨none, 0, rfl, Nat.le_refl _, rfl, Nat.zero_le _, fun h => absurd h (Nat.lt_irrefl _)⟩, fun x hx => absurd hx (List.not_mem_nil)⟩
  · have hlm : len ≤ m := by rw [hm]; split <;> omega
    have each : ∀ i, i < len → ∃ y : α, (∃ cs', w.cells? base (a.add (i * P.cellsOf e)) (P.cellsOf e) = some cs' ∧ d.K w y cs') ∧ W y := fun i hi => by
      obtain ⟨cs', h1, h2⟩ := hel i (by omega)
      obtain ⟨y, hy, hw⟩ := hd.out h2
      exact ⟨y, ⟨cs', h1, hy⟩, hw⟩
    obtain ⟨f, hf⟩ := Go.Deep.choose_lt each
    have hlen : ((List.range len).map f).length = len := by simp
    refine ⟨(List.range len).map f, ⟨some a, cap, by rw [hlen], by rw [hlen]; exact hl, rfl, ?_, ?_⟩, ?_⟩
    · rw [hlen]; unfold maxLen at hc; omega
    · intro _
      refine ⟨a, rfl, fun j p hp => ?_⟩
      obtain ⟨hj, rfl⟩ := List.getElem?_eq_some_iff.1 hp
      rw [hlen] at hj
      obtain ⟨⟨cs', h1, h2⟩, _⟩ := hf j hj
      obtain ⟨_, h4, h5⟩ := World.cells?_some h1
      refine ⟨cs', by rw [h4, hs], by simpa using h2, fun i u hu => ?_⟩
      have hi : i < cs'.length := by
        by_cases q : i < cs'.length
        · exact q
        · rw [List.getElem?_eq_none (by omega)] at hu; cases hu
      have := h5 i (by omega)
      rw [addr_add, hs] at this
      rw [this]; exact hu
    · intro x hx
      obtain ⟨i, hi, rfl⟩ := List.mem_map.1 hx
      exact (hf i (List.mem_range.1 hi)).2
structure OpensFrom (P : Program) (fs : Array Field) (i : Nat) (off : Nat) {α : Type} (k : Kd α) (W : α → Prop) : Prop where
  out : ∀ {H : Type} {enc : TypeId × Value → H} {w : World} {base : Nat} {spare : Nat → Bool} {held : Bool} {n : Nat} {cs : List Value} {xs : List (DataW H × List MemPlace)},
    xs.length = fs.size → cs.length = off + k.sz →
    (∀ (j : Nat) (f : Field), fs[j]? = some f → DataW.trod enc P w base spare held n f.type ((cs.drop f.offset).take (P.cellsOf f.type)) = xs[j]?) → ∃ a : α, k.K w a (cs.drop off) ∧ W a
theorem opensFrom_last {P : Program} {fs : Array Field} {i off : Nat} {α : Type} {k : Kd α} {W : α → Prop} (f : Field) (hf : fs[i]? = some f) (ho : f.offset = off) (hs : P.cellsOf f.type = k.sz) (hd : Opens P k f.type W) : OpensFrom P fs i off k W := by
  refine ⟨fun {H enc w base spare held n cs xs} hx hl h => ?_⟩
  have hi : i < xs.length := by
    rw [hx]
    by_cases q : i < fs.size
    · exact q
    · rw [Array.getElem?_eq_none (by omega)] at hf; cases hf
  have h1 := h i f hf
  rw [List.getElem?_eq_getElem hi, ho, hs, List.take_of_length_le (by simp; omega)] at h1
  exact hd.out h1
theorem opensFrom_cons {P : Program} {fs : Array Field} {i off : Nat} {α β : Type} {k : Kd α} {l : Kd β} {W : α → Prop} {V : β → Prop} (f : Field) (hf : fs[i]? = some f) (ho : f.offset = off) (hs : P.cellsOf f.type = k.sz)
    (hd : Opens P k f.type W) (hr : OpensFrom P fs (i + 1) (off + k.sz) l V) : OpensFrom P fs i off (Kd.pair k l) (fun x => W x.1 ∧ V x.2) := by
  refine ⟨fun {H enc w base spare held n cs xs} hx hl h => ?_⟩
  have hi : i < xs.length := by
    rw [hx]
    by_cases q : i < fs.size
    · exact q
    · rw [Array.getElem?_eq_none (by omega)] at hf; cases hf
  have hl' : cs.length = off + (k.sz + l.sz) := hl
  have h1 := h i f hf
  rw [List.getElem?_eq_getElem hi, ho, hs] at h1
  obtain ⟨a, ka, wa⟩ := hd.out h1
  obtain ⟨b, kb, wb⟩ := hr.out hx (by omega) h
  refine ⟨(a, b), ⟨_, _, ?_, ka, kb⟩, wa, wb⟩
  rw [← List.drop_drop, List.take_append_drop]
theorem opens_struct {P : Program} {t : TypeId} {fs : Array Field} {α β : Type} {k : Kd α} {g : β → α} {W : α → Prop} {V : β → Prop} (ht : P.underlying t = some (.struct fs)) (hs : P.cellsOf t = k.sz) (hd : OpensFrom P fs 0 0 k W)
    (inv : α → β) (hg : ∀ a, g (inv a) = a) (hW : ∀ a, W a → V (inv a)) : Opens P (Kd.iso k g) t V := by
  refine ⟨fun {H enc w base spare held fuel cs x} h => ?_⟩
  obtain ⟨xs, n, _, _, hl, hx, hall⟩ := DataW.trod_struct ht h
  obtain ⟨a, ka, wa⟩ := hd.out hx (by rw [hl, hs]; omega) hall
  exact ⟨inv a, by show k.K w (g (inv a)) cs; rw [hg]; simpa using ka, hW a wa⟩
theorem arg_struct {P : Program} {H : Type} {enc : TypeId × Value → H} {w : World} {base : Nat} {spare : Nat → Bool} {held : Bool} {α : Type} {d : Kd α} {t : TypeId} {fs : Array Field} {W : α → Prop} {v : Value} {x : DataW H} {ps : List MemPlace} {r : Reach} {b0 : Nat}
    (ht : P.underlying t = some (.struct fs)) (hv : Value.okWide P w r b0 t v) (ho : Opens P d t W) (h : DataW.Trod enc P w base spare held t v x ps) :
    ∃ (a : α) (cs : List Value), v = .agg cs.toArray ∧ d.K w a cs ∧ W a := by
  obtain ⟨fuel, hf⟩ := h
  obtain ⟨cs, rfl, _⟩ := okWide_struct ht hv
  obtain ⟨a, ha, hw⟩ := ho.out hf
  exact ⟨a, cs.toList, by simp, ha, hw⟩
end Go.Proofs.YtkdndgclldlddaaDoor.Open
namespace Go.Proofs.YtkdndgclldlddaaDoor.QSh
open Go.RowKit Go.Proofs.YtkdndgclldlddaaDoorW.PrintWords Go.Proofs.YtkdndgclldlddaaDoorW.PrintLast Go.Proofs.YtkdndgclldlddaaDoor.Open
set_option linter.unusedVariables false
instance : Inhabited S30 := ⟨z30⟩
def wf30 (x : S30) : Prop := ((x.f0).size ≤ maxLen) ∧ ((Lit.int .i64 x.f1).wf = true) ∧ ((Lit.int .i64 x.f2).wf = true) ∧ ((Lit.int .i64 x.f3).wf = true) ∧ ((Lit.int .i64 x.f4).wf = true) ∧ ((Lit.int .i64 x.f5).wf = true) ∧ (∀ y ∈ x.f6, (Lit.int .i64 y).wf = true) ∧ ((Lit.int .u64 x.f7).wf = true) ∧ ((Lit.int .u64 x.f8).wf = true)
theorem opens30 : Opens Tryd.prog k30 30 wf30 :=
  opens_struct Tryd.underlying30 (by kernel_rfl) (opensFrom_cons _ rfl rfl (by kernel_rfl) (opens_string Tryd.underlying9) (opensFrom_cons _ rfl rfl (by kernel_rfl) (opens_int Tryd.underlying2) (opensFrom_cons _ rfl rfl (by kernel_rfl) (opens_int Tryd.underlying2) (opensFrom_cons _ rfl rfl (by kernel_rfl) (opens_int Tryd.underlying3) (opensFrom_cons _ rfl rfl (by kernel_rfl) (opens_int Tryd.underlying2) (opensFrom_cons _ rfl rfl (by kernel_rfl) (opens_int Tryd.underlying3) (opensFrom_cons _ rfl rfl (by kernel_rfl) (opens_slice Tryd.underlying27 (by kernel_rfl) (opens_int Tryd.underlying2)) (opensFrom_cons _ rfl rfl (by kernel_rfl) (opens_int Tryd.underlying28) (opensFrom_last _ rfl rfl (by kernel_rfl) (opens_int Tryd.underlying28)))))))))) (fun a => ⟨a.1, a.2.1, a.2.2.1, a.2.2.2.1, a.2.2.2.2.1, a.2.2.2.2.2.1, a.2.2.2.2.2.2.1, a.2.2.2.2.2.2.2.1, a.2.2.2.2.2.2.2.2⟩) (fun _ => rfl) (fun _ h => h)
structure S24 where
  f0 : Int
  f1 : (List S30)
def z24 : S24 := ⟨0, []⟩
def k24 : Kd S24 := Kd.iso (Kd.pair (Kd.int .i64) (Kd.slice 30 k30)) (fun x : S24 => (x.f0, x.f1))
theorem k24_open {w : World} {x : S24} {cs : List Value} (h : k24.K w x cs) : ∃ A1 c1, cs = [.int .i64 x.f0, .slice A1 x.f1.length c1] ∧ x.f1.length ≤ c1 ∧ Kd.C k30 w A1 x.f1.length x.f1 := by
  obtain ⟨_, _, rfl, rfl, ⟨A1, c1, rfl, l1, g1⟩⟩ := h
  exact ⟨A1, c1, rfl, l1, g1⟩
instance : Inhabited S24 := ⟨z24⟩
def wf24 (x : S24) : Prop := ((Lit.int .i64 x.f0).wf = true) ∧ (∀ y ∈ x.f1, wf30 y)
theorem opens24 : Opens Tryd.prog k24 24 wf24 :=
  opens_struct Tryd.underlying24 (by kernel_rfl) (opensFrom_cons _ rfl rfl (by kernel_rfl) (opens_int Tryd.underlying2) (opensFrom_last _ rfl rfl (by kernel_rfl) (opens_slice Tryd.underlying22 (by kernel_rfl) opens30))) (fun a => ⟨a.1, a.2⟩) (fun _ => rfl) (fun _ h => h)
end Go.Proofs.YtkdndgclldlddaaDoor.QSh
namespace Go.Proofs.YtkdndgclldlddaaDoor.RefSetN
open Go.RowKit Go.Proofs.YtkdndgclldlddaaDoor.QSh Go.Proofs.YtkdndgclldlddaaDoorW.PrintWords Go.Proofs.YtkdndgclldlddaaDoorW.PrintLast Go.Proofs.YtkdndgclldlddaaDoorW.PrintMore
set_option linter.unusedVariables false
theorem evp {α : Type} {c : Prop} [Decidable c] {f g : Nat → Option α} {r : α} (h : c) (k : Ev f r) : Ev (fun n => if c then f n else g n) r := Ev.congr (fun _ => if_pos h) k
theorem evn {α : Type} {c : Prop} [Decidable c] {f g : Nat → Option α} {r : α} (h : ¬ c) (k : Ev g r) : Ev (fun n => if c then f n else g n) r := Ev.congr (fun _ => if_neg h) k
theorem evb {α β : Type} {o : Option α} {f : Nat → α → Option β} {a : α} {r : β} (h : o = some a) (k : Ev (fun n => f n a) r) : Ev (fun n => o.bind (f n)) r := Ev.congr (fun n => by rw [h]; rfl) k
def Ends {α : Type} (g : Nat → Option α) : Prop := ∃ r, Ev g r
theorem endsNow {α : Type} (r : α) : Ends (fun _ => some r) := ⟨r, Ev.now r⟩
theorem endsStep {α : Type} {g f : Nat → Option α} (h : ∀ k, g (k + 1) = f k) (k : Ends f) : Ends g := let ⟨r, e⟩ := k; ⟨r, Ev.step h e⟩
theorem endsIf {α : Type} {c : Prop} [Decidable c] {f g : Nat → Option α} (h : c → Ends f) (k : ¬ c → Ends g) : Ends (fun n => if c then f n else g n) := by
  by_cases hc : c
  · obtain ⟨r, e⟩ := h hc; exact ⟨r, evp hc e⟩
  · obtain ⟨r, e⟩ := k hc; exact ⟨r, evn hc e⟩
theorem endsAt {α β : Type} {o : Option α} {f : Nat → α → Option β} {a : α} (h : o = some a) (k : Ends (fun n => f n a)) : Ends (fun n => o.bind (f n)) := let ⟨r, e⟩ := k; ⟨r, evb h e⟩
theorem w64 {n : Int} (h0 : -9223372036854775808 ≤ n) (h1 : n ≤ 9223372036854775807) : wrap64 n = n := by unfold wrap64; omega
theorem small_eq (c : Int) : taskmasterref4_small.f c = some (decide (97 ≤ c ∧ c ≤ 122)) := by
  unfold taskmasterref4_small.f
  by_cases h : c ≥ 97
  · rw [if_pos h]; congr 1; exact decide_eq_decide.mpr (by omega)
  · rw [if_neg h, decide_eq_false (by omega)]
theorem digit_eq (c : Int) : taskmasterref4_digit.f c = some (decide (48 ≤ c ∧ c ≤ 57)) := by
  unfold taskmasterref4_digit.f
  by_cases h : c ≥ 48
  · rw [if_pos h]; congr 1; exact decide_eq_decide.mpr (by omega)
  · rw [if_neg h, decide_eq_false (by omega)]
def okB (c : Int) : Prop := (97 ≤ c ∧ c ≤ 122) ∨ (48 ≤ c ∧ c ≤ 57) ∨ c = 95
def NameB (s : ByteArray) : Prop := s.size ≤ 12 ∧ ∀ j : Nat, j < s.size → okB (bt s (j : Int))
def NP (s : ByteArray) (r : Int × ByteArray × Int × Int × Int) : Prop := r.1 = 1 → r.2.2.2.2 = (s.size : Int) → NameB s
def EndsP {α : Type} (P : α → Prop) (g : Nat → Option α) : Prop := ∃ r, Ev g r ∧ P r
theorem endsPNow {α : Type} {P : α → Prop} (r : α) (h : P r) : EndsP P (fun _ => some r) := ⟨r, Ev.now r, h⟩
theorem endsPStep {α : Type} {P : α → Prop} {g f : Nat → Option α} (h : ∀ k, g (k + 1) = f k) (k : EndsP P f) : EndsP P g := let ⟨r, e, p⟩ := k; ⟨r, Ev.step h e, p⟩
theorem endsPIf {α : Type} {P : α → Prop} {c : Prop} [Decidable c] {f g : Nat → Option α} (h : c → EndsP P f) (k : ¬ c → EndsP P g) : EndsP P (fun n => if c then f n else g n) := by
  by_cases hc : c
  · obtain ⟨r, e, p⟩ := h hc; exact ⟨r, evp hc e, p⟩
  · obtain ⟨r, e, p⟩ := k hc; exact ⟨r, evn hc e, p⟩
theorem endsPBind {α β : Type} {P : β → Prop} {g : Nat → Option α} {f : Nat → α → Option β} (h : Ends g) (k : ∀ a, EndsP P (fun n => f n a)) : EndsP P (fun n => (g n).bind (f n)) := by
  obtain ⟨a, e⟩ := h
  obtain ⟨r, e', p⟩ := k a
  exact ⟨r, Ev.bind e e', p⟩
theorem endsPAt {α β : Type} {P : β → Prop} {o : Option α} {f : Nat → α → Option β} {a : α} (h : o = some a) (k : EndsP P (fun n => f n a)) : EndsP P (fun n => o.bind (f n)) := let ⟨r, e, p⟩ := k; ⟨r, evb h e, p⟩
theorem word_loop (s : ByteArray) (l : List ByteArray) (hl : l.length ≤ 100) (d : Nat) : ∀ i : Nat, i + d = l.length → Ends (fun k => taskmasterref4_word.l0 k s l (i : Int)) := by
  induction d with
  | zero =>
    intro i hi
    refine endsStep (fun k => by rw [taskmasterref4_word.l0]) ?_
    exact endsIf (fun h => absurd h (by omega)) (fun _ => endsNow _)
  | succ d ih =>
    intro i hi
    refine endsStep (fun k => by rw [taskmasterref4_word.l0]) ?_
    refine endsIf (fun _ => endsIf (fun _ => endsIf (fun _ => endsNow _) (fun _ => ?_)) (fun h => absurd (Int.natCast_nonneg i) h)) (fun h => absurd (show (i : Int) < (l.length : Int) by omega) h)
    rw [w64 (by omega) (by omega)]
    exact ih (i + 1) (by omega)
theorem word_ends (s : ByteArray) : Ends (fun k => taskmasterref4_word.f k s) := by
  unfold taskmasterref4_word.f
  refine endsAt (show taskmasterref4_Words.f = some _ from rfl) ?_
  exact word_loop s _ (by decide) 10 0 (by decide)
theorem np_ne {s : ByteArray} {n : Int} (h : n ≠ 1) (b : ByteArray) (x y z : Int) : NP s (n, b, x, y, z) := fun e _ => absurd e h
theorem one_j3 (s : ByteArray) (i : Int) (h0 : 0 ≤ i) (h1 : i ≤ s.size) (hall : ∀ j : Nat, (j : Int) < i → okB (bt s (j : Int))) : EndsP (NP s) (fun k => taskmasterref4_one.j3 k s i) := by
  refine endsPStep (fun k => by rw [taskmasterref4_one.j3]) ?_
  refine endsPIf (fun _ => endsPIf (fun _ => ?_) (fun h => absurd h1 h)) (fun h => absurd h0 h)
  refine endsPBind (word_ends _) (fun b => ?_)
  refine endsPIf (fun _ => endsPNow _ (np_ne (by decide) _ _ _ _)) (fun _ => endsPIf (fun _ => endsPNow _ (np_ne (by decide) _ _ _ _)) (fun h12 => endsPNow _ (fun _ hz => ?_)))
  have hz' : i = (s.size : Int) := hz
  exact ⟨by omega, fun j hj => hall j (by omega)⟩
theorem one_l1 (s : ByteArray) (hs : s.size ≤ 9223372036854775807) (d : Nat) : ∀ i : Int, 0 ≤ i → i ≤ s.size → (s.size : Int) - i = d → (∀ j : Nat, (j : Int) < i → okB (bt s (j : Int))) → EndsP (NP s) (fun k => taskmasterref4_one.l1 k s i) := by
  induction d with
  | zero =>
    intro i h0 h1 hd hall
    refine endsPStep (fun k => by rw [taskmasterref4_one.l1]) ?_
    exact endsPIf (fun h => absurd h (by omega)) (fun _ => one_j3 s i h0 h1 hall)
  | succ d ih =>
    intro i h0 h1 hd hall
    refine endsPStep (fun k => by rw [taskmasterref4_one.l1]) ?_
    have more : okB (bt s i) → EndsP (NP s) (fun k => taskmasterref4_one.l1 k s (wrap64 (i + 1))) := fun hok => by
      rw [w64 (by omega) (by omega)]; exact ih (i + 1) (by omega) (by omega) (by omega) (fun j hj => by
        by_cases q : (j : Int) = i
        · rw [q]; exact hok
        · exact hall j (by omega))
    refine endsPIf (fun _ => endsPIf (fun _ => ?_) (fun h => absurd h0 h)) (fun _ => one_j3 s i h0 h1 hall)
    refine endsPAt (small_eq (bt s i)) (endsPIf (fun hc => more (Or.inl (of_decide_eq_true hc))) (fun _ => ?_))
    exact endsPAt (digit_eq (bt s i)) (endsPIf (fun hc => more (Or.inr (Or.inl (of_decide_eq_true hc)))) (fun _ => endsPIf (fun hc => more (Or.inr (Or.inr hc))) (fun _ => one_j3 s i h0 h1 hall)))
theorem one_no (s : ByteArray) (i v : Int) (h0 : 0 < (s.size : Int)) : EndsP (NP s) (fun k => taskmasterref4_one.j1 k s i v false) := by
  refine endsPStep (fun k => by rw [taskmasterref4_one.j1]) ?_
  exact endsPIf (fun h => by cases h) (fun _ => endsPIf (fun _ => endsPNow _ (np_ne (by decide) _ _ _ _)) (fun _ => endsPIf (fun _ => endsPIf (fun _ => endsPIf (fun _ => endsPNow _ (np_ne (by decide) _ _ _ _)) (fun _ => endsPNow _ (np_ne (by decide) _ _ _ _))) (fun h => absurd h0 h)) (fun _ => endsPNow _ (np_ne (by decide) _ _ _ _))))
theorem one_l0 (s : ByteArray) (hs : s.size ≤ 9223372036854775807) (h00 : 0 < (s.size : Int)) (d : Nat) : ∀ i v : Int, 0 ≤ i → i ≤ s.size → (s.size : Int) - i = d → EndsP (NP s) (fun k => taskmasterref4_one.l0 k s i v) := by
  induction d with
  | zero =>
    intro i v h0 h1 hd
    refine endsPStep (fun k => by rw [taskmasterref4_one.l0]) ?_
    exact endsPIf (fun h => absurd h (by omega)) (fun _ => one_no s i v h00)
  | succ d ih =>
    intro i v h0 h1 hd
    refine endsPStep (fun k => by rw [taskmasterref4_one.l0]) ?_
    have more : ∀ v', EndsP (NP s) (fun k => taskmasterref4_one.l0 k s (wrap64 (i + 1)) v') := fun v' => by
      rw [w64 (by omega) (by omega)]; exact ih (i + 1) v' (by omega) (by omega) (by omega)
    refine endsPIf (fun hlt => endsPIf (fun _ => ?_) (fun h => absurd h0 h)) (fun _ => one_no s i v h00)
    refine endsPAt (digit_eq (bt s i)) ?_
    cases decide (48 ≤ bt s i ∧ bt s i ≤ 57) with
    | false => exact one_no s i v h00
    | true =>
      refine endsPStep (fun k => by rw [taskmasterref4_one.j1]) ?_
      exact endsPIf (fun _ => endsPIf (fun _ => endsPIf (fun _ => endsPIf (fun _ => more _) (fun h => absurd hlt h)) (fun h => absurd h0 h)) (fun _ => more _)) (fun h => absurd rfl h)
theorem one_ends (s : ByteArray) (hs : s.size ≤ 9223372036854775807) (h0 : 0 < (s.size : Int)) : EndsP (NP s) (fun k => taskmasterref4_one.f k s) := by
  unfold taskmasterref4_one.f
  refine endsPIf (fun _ => endsPIf (fun _ => endsPNow _ (np_ne (by decide) _ _ _ _)) (fun _ => ?_)) (fun h => absurd h0 h)
  refine endsPAt (digit_eq (bt s 0)) (endsPIf (fun _ => one_l0 s hs h0 s.size 0 0 (by omega) (by omega) (by omega)) (fun _ => ?_))
  exact endsPAt (small_eq (bt s 0)) (endsPIf (fun _ => one_l1 s hs s.size 0 (by omega) (by omega) (by omega) (fun j hj => absurd hj (by omega))) (fun _ => endsPNow _ (np_ne (by decide) _ _ _ _)))
theorem name_ends (s : ByteArray) (hs : s.size ≤ 9223372036854775807) : ∃ b, Ev (fun k => taskmasterref4_Name.f k s) b ∧ (b = true → NameB s) := by
  unfold taskmasterref4_Name.f
  by_cases hz : (s.size : Int) = 0
  · exact ⟨false, evp hz (Ev.now _), fun h => by cases h⟩
  have h0 : 0 < (s.size : Int) := by omega
  obtain ⟨r, e, p⟩ := one_ends s hs h0
  by_cases hsm : (decide (97 ≤ bt s 0 ∧ bt s 0 ≤ 122)) = true
  · by_cases hn : r.2.2.2.2 = (s.size : Int)
    · refine ⟨r.1 == 1, evn hz (evp h0 (evb (small_eq _) (evp hsm (Ev.bind e (evp hn (Ev.now _)))))), fun h => p (by simpa using h) hn⟩
    · exact ⟨false, evn hz (evp h0 (evb (small_eq _) (evp hsm (Ev.bind e (evn hn (Ev.now _)))))), fun h => by cases h⟩
  · exact ⟨false, evn hz (evp h0 (evb (small_eq _) (evn hsm (Ev.now _)))), fun h => by cases h⟩
def sum : List Int → Int
  | [] => 0
  | x :: l => x + sum l
theorem rd_drop {l : List Int} {i : Nat} (h : i < l.length) : l.drop i = rd l (i : Int) :: l.drop (i + 1) := by
  rw [List.drop_eq_getElem_cons h]; unfold rd
  rw [Int.toNat_natCast, List.getD_eq_getElem?_getD, List.getElem?_eq_getElem h]; rfl
theorem in_eq (n a b : Int) : taskmasterref5_in.f n a b = some (decide (a ≤ n ∧ n ≤ b)) := by
  unfold taskmasterref5_in.f
  by_cases h : a ≤ n
  · rw [if_pos (show n ≥ a from h)]; simp [h]
  · rw [if_neg (show ¬ n ≥ a from h)]; simp [h]
theorem sum_bound {l : List Int} (h : ∀ x ∈ l, 1 ≤ x ∧ x ≤ 10000) : (l.length : Int) ≤ sum l ∧ sum l ≤ 10000 * l.length := by
  induction l with
  | nil => simp [sum]
  | cons x l ih =>
    have h1 := ih (fun y hy => h y (List.mem_cons_of_mem _ hy))
    have h2 := h x List.mem_cons_self
    simp only [sum, List.length_cons, Int.natCast_add, Int.natCast_one]
    omega
theorem work_loop (s : ByteArray) (a1 a2 a3 a4 a5 : Int) (l : List Int) (a7 a8 : Int) (hl : l.length ≤ 8) (h : ∀ x ∈ l, 1 ≤ x ∧ x ≤ 10000) (d : Nat) : ∀ (k i : Nat) (acc : Int), i + d = l.length → d < k → 0 ≤ acc → acc ≤ 10000 * i →
    taskmasterref5_Work.l0 k acc (i : Int) s a1 a2 a3 a4 a5 l a7 a8 = some (acc + sum (l.drop i)) := by
  induction d with
  | zero =>
    intro k i acc hi hk h0 h1
    obtain ⟨k, rfl⟩ : ∃ m, k = m + 1 := ⟨k - 1, by omega⟩
    simp only [taskmasterref5_Work.l0]
    rw [if_neg (by omega), List.drop_eq_nil_of_le (by omega)]; simp [sum]
  | succ d ih =>
    intro k i acc hi hk h0 h1
    obtain ⟨k, rfl⟩ : ∃ m, k = m + 1 := ⟨k - 1, by omega⟩
    have hlt : i < l.length := by omega
    have hm : rd l (i : Int) ∈ l := by
      unfold rd; rw [Int.toNat_natCast, List.getD_eq_getElem?_getD, List.getElem?_eq_getElem hlt]; exact List.getElem_mem hlt
    have hx := h _ hm
    simp only [taskmasterref5_Work.l0]
    rw [if_pos (by omega), if_pos (by omega), w64 (n := acc + rd l (i : Int)) (by omega) (by omega), w64 (n := (i : Int) + 1) (by omega) (by omega), rd_drop hlt]
    have := ih k (i + 1) (acc + rd l (i : Int)) (by omega) (by omega) (by omega) (by omega)
    rw [show ((i + 1 : Nat) : Int) = (i : Int) + 1 by omega] at this
    rw [this]
    simp only [sum]
    rw [Int.add_assoc]
theorem work_eq (s : ByteArray) (a1 a2 a3 a4 a5 : Int) (l : List Int) (a7 a8 : Int) (hl : l.length ≤ 8) (h : ∀ x ∈ l, 1 ≤ x ∧ x ≤ 10000) (k : Nat) (hk : 8 < k) : taskmasterref5_Work.f k s a1 a2 a3 a4 a5 l a7 a8 = some (sum l) := by
  unfold taskmasterref5_Work.f
  have := work_loop s a1 a2 a3 a4 a5 l a7 a8 hl h l.length k 0 0 (by omega) (by omega) (by omega) (by omega)
  rw [List.drop_zero, Int.zero_add] at this
  exact this
def TaskOK (x : S30) (p : Int) : Prop :=
  NameB x.f0 ∧ 1 ≤ x.f6.length ∧ x.f6.length ≤ 8 ∧ Go.bits .andNot .u64 x.f8 x.f7 = 0 ∧ (∀ r ∈ x.f6, 1 ≤ r ∧ r ≤ 10000) ∧ sum x.f6 ≤ x.f2 ∧ x.f2 ≤ x.f1 ∧ x.f1 ≤ 10000 ∧
  ((x.f3 = 0 ∧ x.f4 = 0 ∧ x.f5 = 0) ∨ (x.f3 = 1 ∧ 0 ≤ x.f4 ∧ x.f4 ≤ 10000 ∧ x.f5 = 0) ∨ (x.f3 = 2 ∧ x.f4 = 0 ∧ 0 ≤ x.f5 ∧ x.f5 ≤ p))
theorem is_loop (x : S30) (p : Int) (hN : NameB x.f0) (h1 : 1 ≤ x.f6.length) (h8 : x.f6.length ≤ 8) (hb : Go.bits .andNot .u64 x.f8 x.f7 = 0) (d : Nat) : ∀ i : Nat, i + d = x.f6.length → (∀ j : Nat, j < i → 1 ≤ rd x.f6 (j : Int) ∧ rd x.f6 (j : Int) ≤ 10000) →
    ∃ b, Ev (fun k => taskmasterref5_Is.l0 k p (i : Int) x.f0 x.f1 x.f2 x.f3 x.f4 x.f5 x.f6 x.f7 x.f8) b ∧ (b = true → TaskOK x p) := by
  induction d with
  | zero =>
    intro i hi hall
    have hr : ∀ r ∈ x.f6, 1 ≤ r ∧ r ≤ 10000 := fun r hm => by
      obtain ⟨j, hj, rfl⟩ := List.mem_iff_getElem.1 hm
      have := hall j (by omega)
      unfold rd at this
      rw [Int.toNat_natCast, List.getD_eq_getElem?_getD, List.getElem?_eq_getElem hj] at this
      exact this
    have hw : Ev (fun k => taskmasterref5_Work.f k x.f0 x.f1 x.f2 x.f3 x.f4 x.f5 x.f6 x.f7 x.f8) (sum x.f6) := ⟨9, fun k hk => work_eq _ _ _ _ _ _ _ _ _ h8 hr k (by omega)⟩
    have no : Ev (fun k => taskmasterref5_Is.j2 k p true x.f0 x.f1 x.f2 x.f3 x.f4 x.f5 x.f6 x.f7 x.f8) false := Ev.step (fun k => by rw [taskmasterref5_Is.j2, if_pos rfl]) (Ev.now false)
    by_cases c1 : sum x.f6 > x.f2
    · refine ⟨false, Ev.step (fun k => by rw [taskmasterref5_Is.l0]) (evn (by omega) (Ev.bind hw (evp c1 no))), fun h => by cases h⟩
    · by_cases c2 : x.f2 > x.f1
      · refine ⟨false, Ev.step (fun k => by rw [taskmasterref5_Is.l0]) (evn (by omega) (Ev.bind hw (evn c1 (evp c2 no)))), fun h => by cases h⟩
      · by_cases c3 : x.f1 > 10000
        · refine ⟨false, Ev.step (fun k => by rw [taskmasterref5_Is.l0]) (evn (by omega) (Ev.bind hw (evn c1 (evn c2 ?_)))), fun h => by cases h⟩
          rw [decide_eq_true c3]; exact no
        · have base : ∀ {b : Bool}, Ev (fun k => taskmasterref5_Is.j2 k p false x.f0 x.f1 x.f2 x.f3 x.f4 x.f5 x.f6 x.f7 x.f8) b → Ev (fun k => taskmasterref5_Is.l0 k p (i : Int) x.f0 x.f1 x.f2 x.f3 x.f4 x.f5 x.f6 x.f7 x.f8) b := fun hb => by
            refine Ev.step (fun k => by rw [taskmasterref5_Is.l0]) (evn (by omega) (Ev.bind hw (evn c1 (evn c2 ?_))))
            rw [decide_eq_false c3]; exact hb
          have ok : ∀ (_ : (x.f3 = 0 ∧ x.f4 = 0 ∧ x.f5 = 0) ∨ (x.f3 = 1 ∧ 0 ≤ x.f4 ∧ x.f4 ≤ 10000 ∧ x.f5 = 0) ∨ (x.f3 = 2 ∧ x.f4 = 0 ∧ 0 ≤ x.f5 ∧ x.f5 ≤ p)), TaskOK x p := fun hm => ⟨hN, h1, h8, hb, hr, by omega, by omega, by omega, hm⟩
          by_cases m0 : x.f3 = 0
          · by_cases q0 : x.f4 = 0
            · refine ⟨x.f5 == 0, base (Ev.step (fun k => by rw [taskmasterref5_Is.j2, if_neg (by simp), if_pos m0, if_pos q0]) (Ev.now _)), fun h => ok (Or.inl ⟨m0, q0, by simpa using h⟩)⟩
            · exact ⟨false, base (Ev.step (fun k => by rw [taskmasterref5_Is.j2, if_neg (by simp), if_pos m0, if_neg q0]) (Ev.now _)), fun h => by cases h⟩
          · by_cases m1 : x.f3 = 1
            · by_cases q0 : 0 ≤ x.f4 ∧ x.f4 ≤ 10000
              · refine ⟨x.f5 == 0, base (Ev.step (fun k => by rw [taskmasterref5_Is.j2, if_neg (by simp), if_neg m0, if_pos m1, in_eq, decide_eq_true q0, Option.bind_some, if_pos rfl]) (Ev.now _)), fun h => ok (Or.inr (Or.inl ⟨m1, q0.1, q0.2, by simpa using h⟩))⟩
              · exact ⟨false, base (Ev.step (fun k => by rw [taskmasterref5_Is.j2, if_neg (by simp), if_neg m0, if_pos m1, in_eq, decide_eq_false q0, Option.bind_some, if_neg (by simp)]) (Ev.now _)), fun h => by cases h⟩
            · by_cases m2 : x.f3 = 2
              · by_cases q0 : x.f4 = 0
                · by_cases t0 : x.f5 ≥ 0
                  · refine ⟨decide (x.f5 ≤ p), base (Ev.step (fun k => by rw [taskmasterref5_Is.j2, if_neg (by simp), if_neg m0, if_neg m1, if_pos m2, if_pos q0, if_pos t0]) (Ev.now _)), fun h => ok (Or.inr (Or.inr ⟨m2, q0, t0, of_decide_eq_true h⟩))⟩
                  · exact ⟨false, base (Ev.step (fun k => by rw [taskmasterref5_Is.j2, if_neg (by simp), if_neg m0, if_neg m1, if_pos m2, if_pos q0, if_neg t0]) (Ev.now _)), fun h => by cases h⟩
                · exact ⟨false, base (Ev.step (fun k => by rw [taskmasterref5_Is.j2, if_neg (by simp), if_neg m0, if_neg m1, if_pos m2, if_neg q0]) (Ev.now _)), fun h => by cases h⟩
              · exact ⟨false, base (Ev.step (fun k => by rw [taskmasterref5_Is.j2, if_neg (by simp), if_neg m0, if_neg m1, if_neg m2]) (Ev.now _)), fun h => by cases h⟩
  | succ d ih =>
    intro i hi hall
    by_cases c : 1 ≤ rd x.f6 (i : Int) ∧ rd x.f6 (i : Int) ≤ 10000
    · obtain ⟨b, e, hb'⟩ := ih (i + 1) (by omega) (fun j hj => by
        by_cases hji : j = i
        · subst hji; exact c
        · exact hall j (by omega))
      refine ⟨b, Ev.step (fun k => by rw [taskmasterref5_Is.l0]) (evp (by omega) (evp (by omega) (evb (in_eq _ _ _) (evp (decide_eq_true c) ?_)))), hb'⟩
      rw [w64 (by omega) (by omega)]; exact e
    · have hc : ¬ (decide (1 ≤ rd x.f6 (i : Int) ∧ rd x.f6 (i : Int) ≤ 10000) = true) := fun h => c (of_decide_eq_true h)
      exact ⟨false, Ev.step (fun k => by rw [taskmasterref5_Is.l0]) (evp (by omega) (evp (by omega) (evb (in_eq _ _ _) (evn hc (Ev.now false))))), fun h => by cases h⟩
theorem is_ends (x : S30) (p : Int) (hs : x.f0.size ≤ 9223372036854775807) : ∃ b, Ev (fun k => taskmasterref5_Is.f k x.f0 x.f1 x.f2 x.f3 x.f4 x.f5 x.f6 x.f7 x.f8 p) b ∧ (b = true → TaskOK x p) := by
  unfold taskmasterref5_Is.f
  obtain ⟨n, hn, hN⟩ := name_ends x.f0 hs
  have no : Ev (fun k => taskmasterref5_Is.j0 k p true x.f0 x.f1 x.f2 x.f3 x.f4 x.f5 x.f6 x.f7 x.f8) false := Ev.step (fun k => by rw [taskmasterref5_Is.j0, if_pos rfl]) (Ev.now false)
  by_cases c0 : n = true
  · by_cases c1 : (x.f6.length : Int) < 1
    · exact ⟨false, Ev.bind hn (evp c0 (evp c1 no)), fun h => by cases h⟩
    · by_cases c2 : (x.f6.length : Int) > 8
      · exact ⟨false, Ev.bind hn (evp c0 (evn c1 (evp c2 no))), fun h => by cases h⟩
      · by_cases c3 : Go.bits .andNot .u64 x.f8 x.f7 = 0
        · obtain ⟨b, e, hb⟩ := is_loop x p (hN c0) (by omega) (by omega) c3 x.f6.length 0 (by omega) (fun j hj => absurd hj (Nat.not_lt_zero _))
          refine ⟨b, Ev.bind hn (evp c0 (evn c1 (evn c2 (Ev.step (fun k => by rw [taskmasterref5_Is.j0, if_neg (by rw [c3]; simp)]; rfl) e)))), hb⟩
        · refine ⟨false, Ev.bind hn (evp c0 (evn c1 (evn c2 ?_))), fun h => by cases h⟩
          rw [show (Go.bits .andNot .u64 x.f8 x.f7 != 0) = true by simpa using c3]; exact no
  · exact ⟨false, Ev.bind hn (evn c0 no), fun h => by cases h⟩
def SetOK (r : Int) (l : List S30) : Prop := 0 ≤ r ∧ r ≤ 10000 ∧ 1 ≤ l.length ∧ l.length ≤ 8 ∧ ∀ i : Int, 0 ≤ i → i < l.length → TaskOK (rd_T30 l i) i
theorem all_loops (r : Int) (l : List S30) (h0 : 0 ≤ r) (h1 : r ≤ 10000) (h2 : 1 ≤ l.length) (h8 : l.length ≤ 8) (hs : ∀ y ∈ l, y.f0.size ≤ 9223372036854775807) (d : Nat) : ∀ i : Nat, i + d = l.length → (∀ j : Int, 0 ≤ j → j < i → TaskOK (rd_T30 l j) j) →
    ∃ b, Ev (fun k => taskmasterref5_All.l0 k (i : Int) r l) b ∧ (b = true → SetOK r l) := by
  induction d with
  | zero =>
    intro i hi hall
    exact ⟨true, Ev.step (fun k => by rw [taskmasterref5_All.l0]) (evn (by omega) (Ev.now true)), fun _ => ⟨h0, h1, h2, h8, fun j a b => hall j a (by omega)⟩⟩
  | succ d ih =>
    intro i hi hall
    have hlt : i < l.length := by omega
    have hm : rd_T30 l (i : Int) ∈ l := by
      unfold rd_T30; rw [Int.toNat_natCast, List.getD_eq_getElem?_getD, List.getElem?_eq_getElem hlt]; exact List.getElem_mem hlt
    obtain ⟨t, ht, hok⟩ := is_ends (rd_T30 l (i : Int)) (i : Int) (hs _ hm)
    by_cases c : t = true
    · obtain ⟨b, e, hb⟩ := ih (i + 1) (by omega) (fun j a q => by
        by_cases hji : j = i
        · subst hji; exact hok c
        · exact hall j a (by omega))
      have inner : ∀ d' j : Nat, j + d' = i → ∃ b', Ev (fun k => taskmasterref5_All.l1 k (i : Int) (j : Int) r l) b' ∧ (b' = true → SetOK r l) := by
        intro d'
        induction d' with
        | zero =>
          intro j hj
          refine ⟨b, Ev.step (fun k => by rw [taskmasterref5_All.l1]) (evn (by omega) ?_), hb⟩
          rw [w64 (by omega) (by omega)]; exact e
        | succ d' ih' =>
          intro j hj
          by_cases q : ((rd_T30 l (j : Int)).f0).toList = ((rd_T30 l (i : Int)).f0).toList
          · exact ⟨false, Ev.step (fun k => by rw [taskmasterref5_All.l1]) (evp (by omega) (evp (by omega) (evp (by omega) (evp (by omega) (evp (by omega) (evp q (Ev.now false))))))), fun h => by cases h⟩
          · obtain ⟨b', e', hb'⟩ := ih' (j + 1) (by omega)
            refine ⟨b', Ev.step (fun k => by rw [taskmasterref5_All.l1]) (evp (by omega) (evp (by omega) (evp (by omega) (evp (by omega) (evp (by omega) (evn q ?_)))))), hb'⟩
            rw [w64 (by omega) (by omega)]; exact e'
      obtain ⟨b', e', hb'⟩ := inner i 0 (by omega)
      exact ⟨b', Ev.step (fun k => by rw [taskmasterref5_All.l0]) (evp (by omega) (evp (by omega) (Ev.bind ht (evp c e')))), hb'⟩
    · exact ⟨false, Ev.step (fun k => by rw [taskmasterref5_All.l0]) (evp (by omega) (evp (by omega) (Ev.bind ht (evn c (Ev.now false))))), fun h => by cases h⟩
theorem all_ends (r : Int) (l : List S30) (hs : ∀ y ∈ l, y.f0.size ≤ 9223372036854775807) : ∃ b, Ev (fun k => taskmasterref5_All.f k r l) b ∧ (b = true → SetOK r l) := by
  unfold taskmasterref5_All.f
  have no : Ev (fun k => taskmasterref5_All.j0 k true r l) false := Ev.step (fun k => by rw [taskmasterref5_All.j0, if_pos rfl]) (Ev.now false)
  by_cases c0 : 0 ≤ r ∧ r ≤ 10000
  · by_cases c1 : (l.length : Int) < 1
    · exact ⟨false, evb (in_eq _ _ _) (evp (decide_eq_true c0) (evp c1 no)), fun h => by cases h⟩
    · by_cases c2 : (l.length : Int) > 8
      · refine ⟨false, evb (in_eq _ _ _) (evp (decide_eq_true c0) (evn c1 ?_)), fun h => by cases h⟩
        rw [decide_eq_true c2]; exact no
      · obtain ⟨b, e, hb⟩ := all_loops r l c0.1 c0.2 (by omega) (by omega) hs l.length 0 (by omega) (fun j a q => absurd q (by omega))
        refine ⟨b, evb (in_eq _ _ _) (evp (decide_eq_true c0) (evn c1 ?_)), hb⟩
        rw [decide_eq_false c2]
        exact Ev.step (fun k => by rw [taskmasterref5_All.j0, if_neg (by simp)]; rfl) e
  · have hc : ¬ (decide (0 ≤ r ∧ r ≤ 10000) = true) := fun h => c0 (of_decide_eq_true h)
    exact ⟨false, evb (in_eq _ _ _) (evn hc no), fun h => by cases h⟩
end Go.Proofs.YtkdndgclldlddaaDoor.RefSetN
namespace Go.Proofs.YtkdndgclldlddaaDoor.Pure
open Go.RowKit Go.Proofs.YtkdndgclldlddaaDoor.QSh Go.Proofs.YtkdndgclldlddaaDoorW.PrintWords Go.Proofs.YtkdndgclldlddaaDoorW.PrintLast Go.Proofs.YtkdndgclldlddaaDoorW.PrintMore
set_option linter.unusedVariables false
theorem wrapN {a : Nat} (h : a < 18446744073709551616) : IntKind.u64.wrap (a : Int) = (a : Int) := by rw [IntKind.wrap_u64]; omega
theorem wr64 (n : Int) (h0 : 0 ≤ n) (h1 : n < 2 ^ 64) : IntKind.u64.wrap n = n := by rw [IntKind.wrap_u64]; omega
theorem andN (a b : Nat) (ha : a < 18446744073709551616) (hb : b < 18446744073709551616) : Go.bits .and .u64 (a : Int) (b : Int) = ((a &&& b : Nat) : Int) := (bits_nat .u64 64 (by decide) wr64 a b ha hb).1
theorem and_lt {a b : Nat} (ha : a < 18446744073709551616) : a &&& b < 18446744073709551616 := Nat.lt_of_le_of_lt Nat.and_le_left ha
theorem evp {α : Type} {c : Prop} [Decidable c] {f g : Nat → Option α} {r : α} (h : c) (k : Ev f r) : Ev (fun n => if c then f n else g n) r := Ev.congr (fun _ => if_pos h) k
theorem evn {α : Type} {c : Prop} [Decidable c] {f g : Nat → Option α} {r : α} (h : ¬ c) (k : Ev g r) : Ev (fun n => if c then f n else g n) r := Ev.congr (fun _ => if_neg h) k
theorem evb {α β : Type} {o : Option α} {f : Nat → α → Option β} {a : α} {r : β} (h : o = some a) (k : Ev (fun n => f n a) r) : Ev (fun n => o.bind (f n)) r := Ev.congr (fun n => by rw [h]; rfl) k
theorem w64 {n : Int} (h0 : -9223372036854775808 ≤ n) (h1 : n ≤ 9223372036854775807) : wrap64 n = n := by unfold wrap64; omega
theorem wi {i : Nat} (h : i ≤ 1000000) : wrap64 ((i : Int) + 1) = ((i + 1 : Nat) : Int) := w64 (by omega) (by omega)
theorem rd_drop {l : List Int} {i : Nat} (h : i < l.length) : l.drop i = rd l (i : Int) :: l.drop (i + 1) := by
  rw [List.drop_eq_getElem_cons h]; unfold rd
  rw [Int.toNat_natCast, List.getD_eq_getElem?_getD, List.getElem?_eq_getElem h]; rfl
theorem ctz_spec {n : Nat} (h0 : n ≠ 0) (h : n < 18446744073709551616) : ∃ k m, Lib.ctz 64 n = k ∧ n = 2 ^ k * (2 * m + 1) ∧ k < 64 := by
  obtain ⟨m, h1, h2⟩ := Lib.ctzFrom_spec 64 n (by omega) h
  refine ⟨Lib.ctzFrom 64 n, m, ?_, h1, h2⟩
  unfold Lib.ctz; rw [if_neg h0]
theorem bit_of {k m : Nat} (j : Nat) : (2 ^ k * (2 * m + 1)).testBit j = (if j < k then false else (2 * m + 1).testBit (j - k)) := by
  have := Nat.testBit_two_pow_mul_add (2 * m + 1) (b := 0) (i := k) (Nat.two_pow_pos k) j
  rw [Nat.add_zero, Nat.zero_testBit] at this
  exact this
theorem tz_eq {n : Nat} (h : n < 18446744073709551616) : bits_TrailingZeros64.f (n : Int) = some ((Lib.ctz 64 n : Nat) : Int) := by
  unfold bits_TrailingZeros64.f; rw [if_pos (by omega), Int.toNat_natCast]
theorem u64_in {n : Int} (h : (Lit.int .u64 n).wf = true) : 0 ≤ n ∧ n < 18446744073709551616 := by
  simp only [Lit.wf, IntKind.min, IntKind.max, IntKind.signed, IntKind.bits, Bool.and_eq_true] at h
  simp at h
  omega
def listFrom (n : Nat) : Nat → Nat → List Int
  | 0, _ => []
  | d + 1, i => if n.testBit i then (i : Int) :: listFrom n d (i + 1) else listFrom n d (i + 1)
theorem listFrom_le (n : Nat) : ∀ (d i : Nat), (listFrom n d i).length ≤ d
  | 0, i => Nat.le_refl _
  | d + 1, i => by
    unfold listFrom
    have := listFrom_le n d (i + 1)
    split
    · rw [List.length_cons]; omega
    · omega
theorem clear_of {k m : Nat} (j : Nat) : ((2 ^ k * (2 * m + 1)) &&& (2 ^ k * (2 * m + 1) - 1)).testBit j = ((2 ^ k * (2 * m + 1)).testBit j && decide (j ≠ k)) := by
  have hp := Nat.two_pow_pos k
  have e : 2 ^ k * (2 * m + 1) - 1 = 2 ^ k * (2 * m) + (2 ^ k - 1) := by rw [Nat.mul_add, Nat.mul_one]; omega
  rw [Nat.testBit_and, bit_of, e, Nat.testBit_two_pow_mul_add (2 * m) (by omega) j]
  by_cases hj : j < k
  · rw [if_pos hj]; rfl
  · rw [if_neg hj, if_neg hj]
    by_cases hk : j = k
    · subst hk
      rw [Nat.sub_self, Nat.testBit_zero, Nat.testBit_zero]
      simp
    · obtain ⟨d, rfl⟩ : ∃ d, j = k + (d + 1) := ⟨j - k - 1, by omega⟩
      rw [show k + (d + 1) - k = d + 1 by omega, ← Nat.testBit_div_two, ← Nat.testBit_div_two, show (2 * m + 1) / 2 = m by omega, show 2 * m / 2 = m by omega]
      simp
theorem list_congr {a b : Nat} : ∀ (d i : Nat), (∀ j, i ≤ j → j < i + d → a.testBit j = b.testBit j) → listFrom a d i = listFrom b d i
  | 0, _, _ => rfl
  | d + 1, i, h => by
    unfold listFrom
    rw [h i (Nat.le_refl _) (by omega), list_congr d (i + 1) (fun j h1 h2 => h j (by omega) (by omega))]
theorem list_first {a b k : Nat} : ∀ (d i : Nat), i ≤ k → k < i + d → a.testBit k = true → b.testBit k = false → (∀ j, j < k → a.testBit j = false) → (∀ j, j ≠ k → b.testBit j = a.testBit j) → listFrom a d i = (k : Int) :: listFrom b d i
  | 0, i, h0, h1, _, _, _, _ => absurd h1 (by omega)
  | d + 1, i, h0, h1, ha, hb, hl, he => by
    by_cases hi : i = k
    · subst hi
      show (if a.testBit i = true then _ else _) = _ :: (if b.testBit i = true then _ else _)
      rw [if_pos ha, if_neg (by rw [hb]; simp), list_congr d (i + 1) (fun j h1 _ => (he j (by omega)).symm)]
    · show (if a.testBit i = true then _ else _) = _ :: (if b.testBit i = true then _ else _)
      rw [if_neg (by rw [hl i (by omega)]; simp), if_neg (by rw [he i hi, hl i (by omega)]; simp)]
      exact list_first d (i + 1) (by omega) (by omega) ha hb hl he
theorem list_zero : ∀ (d i : Nat), listFrom 0 d i = []
  | 0, _ => rfl
  | d + 1, i => by unfold listFrom; rw [if_neg (by rw [Nat.zero_testBit]; simp)]; exact list_zero d (i + 1)
theorem list_step {n : Nat} (h0 : n ≠ 0) (h : n < 18446744073709551616) : listFrom n 64 0 = ((Lib.ctz 64 n : Nat) : Int) :: listFrom (n &&& (n - 1)) 64 0 := by
  obtain ⟨k, m, e, rfl, hk⟩ := ctz_spec h0 h
  rw [e]
  have hb : (2 ^ k * (2 * m + 1)).testBit k = true := by rw [bit_of, if_neg (by omega), Nat.sub_self, Nat.testBit_zero]; simp
  refine list_first 64 0 (by omega) (by omega) hb ?_ (fun j hj => by rw [bit_of, if_pos hj]) (fun j hj => ?_)
  · rw [clear_of]; simp
  · rw [clear_of]; simp [hj]
theorem blist_loop (d : Nat) : ∀ (n : Nat) (acc : List Int), n < 18446744073709551616 → (listFrom n 64 0).length = d → acc.length + d ≤ 64 → Ev (fun k => bits_List.l0 k (n : Int) acc) (acc ++ listFrom n 64 0) := by
  induction d with
  | zero =>
    intro n acc hn hl ha
    have hz : n = 0 := by
      rcases Nat.eq_zero_or_pos n with h | h
      · exact h
      · rw [list_step (by omega) hn] at hl; simp at hl
    subst hz
    refine Ev.step (fun k => by rw [bits_List.l0]) ?_
    refine evp (show ((0 : Nat) : Int) = 0 from rfl) ?_
    rw [list_zero, List.append_nil]; exact Ev.now _
  | succ d ih =>
    intro n acc hn hl ha
    have h0 : n ≠ 0 := by
      rintro rfl
      rw [list_zero] at hl; simp at hl
    rw [list_step h0 hn] at hl ⊢
    refine Ev.step (fun k => by rw [bits_List.l0]) ?_
    refine evn (by omega) ?_
    refine evb (tz_eq hn) ?_
    refine evp (by omega) ?_
    rw [show (n : Int) - 1 = ((n - 1 : Nat) : Int) by omega, wrapN (by omega), andN n (n - 1) hn (by omega)]
    have r := ih (n &&& (n - 1)) (acc ++ [((Lib.ctz 64 n : Nat) : Int)]) (and_lt hn) (by simpa using hl) (by simp; omega)
    rw [List.append_assoc] at r; exact r
theorem blist_ev {n : Nat} (h : n < 18446744073709551616) : Ev (fun k => bits_List.f k (n : Int)) (listFrom n 64 0) := by
  have r := blist_loop (listFrom n 64 0).length n [] h rfl (by have := listFrom_le n 64 0; simpa using this)
  rw [List.nil_append] at r; exact r
end Go.Proofs.YtkdndgclldlddaaDoor.Pure
namespace Go.Proofs.YtkdndgclldlddaaDoor.Pure
open Go.RowKit Go.Proofs.YtkdndgclldlddaaDoor.QSh Go.Proofs.YtkdndgclldlddaaDoorW.PrintWords Go.Proofs.YtkdndgclldlddaaDoorW.PrintLast Go.Proofs.YtkdndgclldlddaaDoorW.PrintMore
set_option linter.unusedVariables false
set_option linter.unusedSimpArgs false
def B (l : List UInt8) : ByteArray := ⟨l.toArray⟩
theorem B_app (a b : List UInt8) : B a ++ B b = B (a ++ b) := by
  apply ByteArray.ext
  simp [B]
theorem B_size (a : List UInt8) : (B a).size = a.length := by simp [B, ByteArray.size]
theorem size_of (s : ByteArray) : s.data.toList.length = s.size := Array.length_toList
theorem dd_len (u : Nat) (h : u < 18446744073709551616) : (Lib.decDigits u).length ≤ 20 := by rw [Lib.decDigits_length]; exact Lib.nDigits_le20 u h
theorem digits_ev : ∀ (n : Nat), n < 9223372036854775808 → Ev (fun k => taskmasterref7_Digits.f k (n : Int)) (B (Lib.decDigits n)) := by
  intro n
  induction n using Nat.strongRecOn with
  | _ n ih =>
    intro hn
    have hm : Int.tmod (n : Int) 10 = ((n % 10 : Nat) : Int) := rfl
    have hd : Int.tdiv (n : Int) 10 = ((n / 10 : Nat) : Int) := rfl
    have hy : strOfNums [(wrap64 (48 + (Int.tmod (n : Int) 10))) % 256] = B [UInt8.ofNat (48 + n % 10)] := by
      rw [hm, w64 (by omega) (by omega), show (48 + ((n % 10 : Nat) : Int)) % 256 = ((48 + n % 10 : Nat) : Int) by omega]
      unfold strOfNums B
      simp only [List.map_cons, List.map_nil, Int.toNat_natCast]
    refine Ev.step (fun k => by rw [taskmasterref7_Digits.f]) (evb (show some _ = some _ from rfl) ?_)
    rw [hy]
    by_cases c : n < 10
    · refine evn (by omega) ?_
      rw [Lib.decDigits, dif_pos c, Nat.mod_eq_of_lt c]
      exact Ev.now _
    · refine evp (by omega) ?_
      rw [hd, w64 (by omega) (by omega)]
      have hl := dd_len (n / 10) (by omega)
      refine Ev.bind (ih (n / 10) (by omega) (by omega)) (evp (by rw [B_size, B_size, List.length_singleton]; omega) ?_)
      have e : Lib.decDigits n = Lib.decDigits (n / 10) ++ [UInt8.ofNat (48 + n % 10)] := by rw [Lib.decDigits, dif_neg c]
      rw [B_app, e]
      exact Ev.now _
theorem itoa_nat (n : Nat) : Lib.itoa (n : Int) = Lib.decDigits n := by unfold Lib.itoa; rw [if_neg (by omega)]; simp
theorem num_eq {n : Int} (h0 : 0 ≤ n) (h1 : n ≤ 9223372036854775807) : show_num.f n = some (B (Lib.itoa n)) := by
  unfold show_num.f strconv_FormatInt_49.f
  rw [if_pos ⟨rfl, by omega, h1⟩]; rfl
theorem dig_ev {n : Int} (h0 : 0 ≤ n) (h1 : n ≤ 9223372036854775807) : Ev (fun k => taskmasterref7_Digits.f k n) (B (Lib.itoa n)) := by
  obtain ⟨m, rfl⟩ := Int.eq_ofNat_of_zero_le h0
  rw [itoa_nat]; exact digits_ev m (by omega)
theorem it_len {n : Int} (h0 : 0 ≤ n) (h1 : n ≤ 9223372036854775807) : (Lib.itoa n).length ≤ 20 := by
  obtain ⟨m, rfl⟩ := Int.eq_ofNat_of_zero_le h0
  rw [itoa_nat]; exact dd_len m (by omega)
def tl (r : List (List UInt8)) : List UInt8 := (r.map ([32] ++ ·)).flatten
theorem tl_join (x : List UInt8) (r : List (List UInt8)) : Lib.join (x :: r) [32] = x ++ tl r := Lib.join_cons x r [32]
theorem tl_app (a b : List (List UInt8)) : tl (a ++ b) = tl a ++ tl b := by simp [tl]
theorem tl_cons (x : List UInt8) (r : List (List UInt8)) : tl (x :: r) = 32 :: (x ++ tl r) := by simp [tl]
theorem tl_nil : tl [] = [] := rfl
theorem tl_len (r : List (List UInt8)) (h : ∀ x ∈ r, x.length ≤ 30) : (tl r).length ≤ 31 * r.length := by
  induction r with
  | nil => simp [tl]
  | cons x r ih =>
    rw [tl_cons, List.length_cons, List.length_append, List.length_cons]
    have := h x List.mem_cons_self
    have := ih (fun y hy => h y (List.mem_cons_of_mem _ hy))
    omega
def setL (w : List UInt8) (x : Nat) : List (List UInt8) := if x = 0 then [] else w :: (listFrom x 64 0).map Lib.itoa
theorem mem_list (s : Nat) : ∀ (d i : Nat) (x : Int), x ∈ listFrom s d i → 0 ≤ x ∧ x < ((i + d : Nat) : Int)
  | 0, i, x, h => by cases h
  | d + 1, i, x, h => by
    unfold listFrom at h
    split at h
    · rcases List.mem_cons.mp h with rfl | h
      · omega
      · have := mem_list s d (i + 1) x h; omega
    · have := mem_list s d (i + 1) x h; omega
theorem sets_loop (l : List Int) (hl : l.length ≤ 64) (hm : ∀ x ∈ l, 0 ≤ x ∧ x < 64) (d : Nat) : ∀ (i : Nat) (acc : List ByteArray), i + d = l.length → acc.length ≤ i + 1 → Ev (fun k => show_sets.l0 k acc l (l.length : Int) (i : Int)) (acc ++ (l.drop i).map (fun x => B (Lib.itoa x))) := by
  induction d with
  | zero =>
    intro i acc hi ha
    refine Ev.step (fun k => by rw [show_sets.l0]) (evn (by omega) ?_)
    rw [List.drop_eq_nil_of_le (by omega), List.map_nil, List.append_nil]
    exact Ev.now _
  | succ d ih =>
    intro i acc hi ha
    have hil : i < l.length := by omega
    have hx := hm (rd l (i : Int)) (List.mem_of_mem_drop (i := i) (by rw [rd_drop hil]; exact List.mem_cons_self))
    refine Ev.step (fun k => by rw [show_sets.l0]) (evp (by omega) (evp (by omega) (evp (by omega) ?_)))
    refine evb (num_eq hx.1 (by omega)) (evp (by omega) ?_)
    rw [wi (by omega), rd_drop hil, List.map_cons]
    have := ih (i + 1) (acc ++ [B (Lib.itoa (rd l (i : Int)))]) (by omega) (by rw [List.length_append, List.length_singleton]; omega)
    rw [List.append_assoc] at this
    exact this
theorem sets_ev (w : List UInt8) {x : Nat} (hx : x < 18446744073709551616) : Ev (fun k => show_sets.f k (B w) (x : Int)) ((setL w x).map B) := by
  unfold show_sets.f setL
  by_cases h : x = 0
  · subst h; exact evp rfl (Ev.now _)
  · rw [if_neg h]
    refine evn (by omega) (Ev.bind (blist_ev hx) ?_)
    have := sets_loop (listFrom x 64 0) (listFrom_le x 64 0) (fun y hy => by have := mem_list x 64 0 y hy; omega) (listFrom x 64 0).length 0 [B w] (by omega) (by simp)
    rw [List.drop_zero] at this
    rw [List.map_cons, List.map_map]
    exact this
theorem setL_len (w : List UInt8) (x : Nat) : (setL w x).length ≤ 65 := by
  unfold setL
  split
  · simp
  · rw [List.length_cons, List.length_map]; have := listFrom_le x 64 0; omega
theorem setL_mem {w : List UInt8} (hw : w.length ≤ 10) (x : Nat) : ∀ y ∈ setL w x, y.length ≤ 30 := by
  intro y hy
  unfold setL at hy
  split at hy
  · cases hy
  · rcases List.mem_cons.mp hy with rfl | hy
    · omega
    · obtain ⟨z, hz, rfl⟩ := List.mem_map.mp hy
      have := mem_list x 64 0 z hz
      have := it_len (n := z) this.1 (by omega)
      omega
end Go.Proofs.YtkdndgclldlddaaDoor.Pure
namespace Go.Proofs.YtkdndgclldlddaaDoor.Pure
open Go.RowKit Go.Proofs.YtkdndgclldlddaaDoor.QSh Go.Proofs.YtkdndgclldlddaaDoorW.PrintWords Go.Proofs.YtkdndgclldlddaaDoorW.PrintLast Go.Proofs.YtkdndgclldlddaaDoorW.PrintMore
set_option linter.unusedVariables false
set_option linter.unusedSimpArgs false
abbrev Tk := S30
abbrev rdT (l : List Tk) (i : Int) : Tk := rd_T30 l i
def TB (x : Tk) : Prop := x.f0.size ≤ 12 ∧ (0 ≤ x.f1 ∧ x.f1 ≤ 10000) ∧ (0 ≤ x.f2 ∧ x.f2 ≤ 10000) ∧ (x.f3 = 0 ∨ (x.f3 = 1 ∧ 0 ≤ x.f4 ∧ x.f4 ≤ 10000) ∨ (x.f3 = 2 ∧ 0 ≤ x.f5 ∧ x.f5 ≤ 10000)) ∧ x.f6.length ≤ 8 ∧ (∀ r ∈ x.f6, 1 ≤ r ∧ r ≤ 10000) ∧
  (0 ≤ x.f7 ∧ x.f7 < 18446744073709551616) ∧ (0 ≤ x.f8 ∧ x.f8 < 18446744073709551616)
def wTask : List UInt8 := [116, 97, 115, 107]
def wPeriod : List UInt8 := [112, 101, 114, 105, 111, 100]
def wDeadline : List UInt8 := [100, 101, 97, 100, 108, 105, 110, 101]
def wRegions : List UInt8 := [114, 101, 103, 105, 111, 110, 115]
def wEcb : List UInt8 := [101, 99, 98]
def wUcb : List UInt8 := [117, 99, 98]
def wFixed : List UInt8 := [102, 105, 120, 101, 100]
def wFloat : List UInt8 := [102, 108, 111, 97, 116]
def wThresh : List UInt8 := [116, 104, 114, 101, 115, 104]
def modeL (x : Tk) : List UInt8 := if x.f3 = 1 then wFloat ++ 32 :: Lib.itoa x.f4 else if x.f3 = 2 then wThresh ++ 32 :: Lib.itoa x.f5 else wFixed
def headL (x : Tk) : List (List UInt8) := [x.f0.data.toList, wPeriod, Lib.itoa x.f1, wDeadline, Lib.itoa x.f2, modeL x]
def restL (x : Tk) : List (List UInt8) := x.f6.map Lib.itoa ++ setL wEcb x.f7.toNat ++ setL wUcb x.f8.toNat
def taskL (x : Tk) : List UInt8 := wTask ++ tl (headL x) ++ tl [wRegions] ++ tl (restL x) ++ [59]
theorem mode_len {x : Tk} (h : TB x) : (modeL x).length ≤ 27 := by
  unfold modeL
  obtain ⟨_, _, _, hm, _⟩ := h
  rcases hm with hm | hm | hm
  · rw [hm, if_neg (by decide), if_neg (by decide)]; decide
  · rw [if_pos hm.1]; have := it_len hm.2.1 (by omega); simp [wFloat]; omega
  · rw [hm.1, if_neg (by decide), if_pos rfl]; have := it_len hm.2.1 (by omega); simp [wThresh]; omega
theorem head_mem {x : Tk} (h : TB x) : ∀ y ∈ headL x, y.length ≤ 30 := by
  have hm := mode_len h
  have h1 := it_len h.2.1.1 (by have := h.2.1.2; omega)
  have h2 := it_len h.2.2.1.1 (by have := h.2.2.1.2; omega)
  have h0 := h.1
  rw [← size_of] at h0
  intro y hy
  simp only [headL, List.mem_cons, List.not_mem_nil, or_false] at hy
  rcases hy with rfl | rfl | rfl | rfl | rfl | rfl
  · omega
  · decide
  · omega
  · decide
  · omega
  · omega
theorem reg_mem {x : Tk} (h : TB x) : ∀ y ∈ x.f6.map Lib.itoa, y.length ≤ 30 := by
  intro y hy
  obtain ⟨r, hr, rfl⟩ := List.mem_map.mp hy
  have := h.2.2.2.2.2.1 r hr
  have := it_len (n := r) (by omega) (by omega)
  omega
theorem rest_mem {x : Tk} (h : TB x) : ∀ y ∈ restL x, y.length ≤ 30 := by
  intro y hy
  simp only [restL, List.mem_append] at hy
  rcases hy with (hy | hy) | hy
  · exact reg_mem h y hy
  · exact setL_mem (by decide) _ y hy
  · exact setL_mem (by decide) _ y hy
theorem rest_len {x : Tk} (h : TB x) : (restL x).length ≤ 138 := by
  have h1 := setL_len wEcb x.f7.toNat
  have h2 := setL_len wUcb x.f8.toNat
  have h3 := h.2.2.2.2.1
  simp only [restL, List.length_append, List.length_map]
  omega
theorem task_len {x : Tk} (h : TB x) : (taskL x).length ≤ 6000 := by
  have h1 := tl_len _ (head_mem h)
  have h2 := tl_len _ (rest_mem h)
  have h3 := rest_len h
  have h4 : (headL x).length = 6 := rfl
  have h5 : (tl [wRegions]).length = 8 := rfl
  have h6 : wTask.length = 4 := rfl
  simp only [taskL, List.length_append, h5, h6, List.length_singleton]
  omega
theorem mode_eq {x : Tk} (h : TB x) : show_mode.f x.f0 x.f1 x.f2 x.f3 x.f4 x.f5 x.f6 x.f7 x.f8 = some (B (modeL x)) := by
  unfold show_mode.f modeL
  obtain ⟨_, _, _, hm, _⟩ := h
  rcases hm with hm | hm | hm
  · rw [hm, if_neg (by decide), if_neg (by decide), if_neg (by decide), if_neg (by decide)]; rfl
  · have hl := it_len hm.2.1 (by omega)
    rw [if_pos hm.1, if_pos hm.1, num_eq hm.2.1 (by omega), Option.bind_some, if_pos (by rw [B_size]; omega), show (⟨#[102, 108, 111, 97, 116, 32]⟩ : ByteArray) = B [102, 108, 111, 97, 116, 32] from rfl, B_app]
    rfl
  · have hl := it_len hm.2.1 (by omega)
    rw [hm.1, if_neg (by decide), if_pos rfl, num_eq hm.2.1 (by omega), Option.bind_some, if_pos (by rw [B_size]; omega), if_neg (by decide), if_pos rfl, show (⟨#[116, 104, 114, 101, 115, 104, 32]⟩ : ByteArray) = B [116, 104, 114, 101, 115, 104, 32] from rfl, B_app]
    rfl
theorem map_data (m : List (List UInt8)) : (m.map B).map (fun x => x.data.toList) = m := by
  rw [List.map_map]
  conv => rhs; rw [← List.map_id m]
  rfl
theorem join_eq (m : List (List UInt8)) (hm : ∀ y ∈ m, y.length ≤ 30) (hl : m.length ≤ 1000) : strings_Join.f ((wTask :: m).map B) (⟨#[32]⟩ : ByteArray) = some (B (wTask ++ tl m)) := by
  unfold strings_Join.f
  have h1 := tl_len m hm
  have e : Lib.join (((wTask :: m).map B).map (fun x => x.data.toList)) ((⟨#[32]⟩ : ByteArray).data.toList) = wTask ++ tl m := by
    rw [map_data]; exact tl_join wTask m
  rw [e, if_pos ⟨by simp, by rw [List.length_map, List.length_cons]; omega, by rw [List.length_append]; have : wTask.length = 4 := rfl; omega⟩]
  rfl
theorem task_loop {x : Tk} (h : TB x) (d : Nat) : ∀ (i : Nat) (m : List (List UInt8)), i + d = x.f6.length → m.length ≤ 8 + i → (∀ y ∈ m, y.length ≤ 30) →
    Ev (fun k => show_Task.l0 k ((wTask :: m).map B) x.f6 (x.f6.length : Int) (i : Int) x.f0 x.f1 x.f2 x.f3 x.f4 x.f5 x.f6 x.f7 x.f8) (B (wTask ++ tl (m ++ ((x.f6.drop i).map Lib.itoa ++ setL wEcb x.f7.toNat ++ setL wUcb x.f8.toNat)) ++ [59])) := by
  have h8 := h.2.2.2.2.1
  have h7 := h.2.2.2.2.2.2
  induction d with
  | zero =>
    intro i m hi hm hy
    refine Ev.step (fun k => by rw [show_Task.l0]) (evn (by omega) ?_)
    have he := sets_ev wEcb (x := x.f7.toNat) (by omega)
    have hu := sets_ev wUcb (x := x.f8.toNat) (by omega)
    rw [Int.toNat_of_nonneg h7.1.1] at he
    rw [Int.toNat_of_nonneg h7.2.1] at hu
    have l1 := setL_len wEcb x.f7.toNat
    have l2 := setL_len wUcb x.f8.toNat
    refine Ev.bind he (evp (by simp only [List.length_map, List.length_cons]; omega) (evb rfl ?_))
    refine Ev.bind hu (evp (by simp only [List.length_append, List.length_map, List.length_cons]; omega) ?_)
    rw [← List.map_append, ← List.map_append]
    have hj := join_eq (m ++ setL wEcb x.f7.toNat ++ setL wUcb x.f8.toNat) (fun y hm' => by
      simp only [List.mem_append] at hm'
      rcases hm' with (hm' | hm') | hm'
      · exact hy y hm'
      · exact setL_mem (by decide) _ y hm'
      · exact setL_mem (by decide) _ y hm') (by simp only [List.length_append]; omega)
    refine evb hj ?_
    have hl := tl_len (m ++ setL wEcb x.f7.toNat ++ setL wUcb x.f8.toNat) (fun y hm' => by
      simp only [List.mem_append] at hm'
      rcases hm' with (hm' | hm') | hm'
      · exact hy y hm'
      · exact setL_mem (by decide) _ y hm'
      · exact setL_mem (by decide) _ y hm')
    refine evp (by rw [B_size]; simp only [List.length_append] at hl ⊢; have : wTask.length = 4 := rfl; omega) ?_
    rw [show (⟨#[59]⟩ : ByteArray) = B [59] from rfl, B_app, List.drop_eq_nil_of_le (by omega), List.map_nil, List.nil_append, List.append_assoc m]
    exact Ev.now _
  | succ d ih =>
    intro i m hi hm hy
    have hil : i < x.f6.length := by omega
    have hr := h.2.2.2.2.2.1 (rd x.f6 (i : Int)) (List.mem_of_mem_drop (i := i) (by rw [rd_drop hil]; exact List.mem_cons_self))
    refine Ev.step (fun k => by rw [show_Task.l0]) (evp (by omega) (evp (by omega) (evp (by omega) ?_)))
    refine evb (num_eq (n := rd x.f6 (i : Int)) (by omega) (by omega)) (evp (by simp only [List.length_map, List.length_cons]; omega) ?_)
    rw [wi (by omega), rd_drop hil, List.map_cons]
    have hl := it_len (n := rd x.f6 (i : Int)) (by omega) (by omega)
    have := ih (i + 1) (m ++ [Lib.itoa (rd x.f6 (i : Int))]) (by omega) (by rw [List.length_append, List.length_singleton]; omega) (fun y hm' => by
      rcases List.mem_append.mp hm' with hm' | hm'
      · exact hy y hm'
      · rw [List.mem_singleton.mp hm']; omega)
    rw [← List.cons_append, List.map_append, List.append_assoc m] at this
    exact this
theorem task_ev {x : Tk} (h : TB x) : Ev (fun k => show_Task.f k x.f0 x.f1 x.f2 x.f3 x.f4 x.f5 x.f6 x.f7 x.f8) (B (taskL x)) := by
  unfold show_Task.f
  have b1 := h.2.1
  have b2 := h.2.2.1
  refine evb (num_eq b1.1 (by omega)) (evb (num_eq b2.1 (by omega)) (evb (mode_eq h) ?_))
  have hl := task_loop h x.f6.length 0 (headL x ++ [wRegions]) (by omega) (by simp [headL]) (fun y hy => by
    rcases List.mem_append.mp hy with hy | hy
    · exact head_mem h y hy
    · rw [List.mem_singleton.mp hy]; decide)
  have e : wTask ++ tl (headL x ++ [wRegions] ++ ((x.f6.drop 0).map Lib.itoa ++ setL wEcb x.f7.toNat ++ setL wUcb x.f8.toNat)) ++ [59] = taskL x := by
    rw [List.drop_zero, tl_app, tl_app]
    simp only [taskL, restL, List.append_assoc]
  rw [e] at hl
  exact hl
def linesL (l : List Tk) : List UInt8 := (l.map (fun x => taskL x ++ [10])).flatten
def wReload : List UInt8 := [114, 101, 108, 111, 97, 100, 32]
def textL (r : Int) (l : List Tk) : List UInt8 := wReload ++ Lib.itoa r ++ [59, 10] ++ linesL l
theorem rdT_drop {l : List Tk} {i : Nat} (h : i < l.length) : l.drop i = rdT l (i : Int) :: l.drop (i + 1) := by
  rw [List.drop_eq_getElem_cons h]
  unfold rdT rd_T30
  rw [Int.toNat_natCast, List.getD_eq_getElem?_getD, List.getElem?_eq_getElem h]; rfl
theorem lines_cons (x : Tk) (l : List Tk) : linesL (x :: l) = taskL x ++ [10] ++ linesL l := by simp [linesL]
theorem text_loop (l : List Tk) (hl : l.length ≤ 8) (hb : ∀ i : Nat, i < l.length → TB (rdT l (i : Int))) (d : Nat) : ∀ (i : Nat) (L : List UInt8), i + d = l.length → L.length + 6001 * d ≤ 60000 →
    Ev (fun k => show_Text.l0 k (B L) l (l.length : Int) (i : Int)) (B (L ++ linesL (l.drop i))) := by
  induction d with
  | zero =>
    intro i L hi hL
    refine Ev.step (fun k => by rw [show_Text.l0]) (evn (by omega) ?_)
    rw [List.drop_eq_nil_of_le (by omega), show linesL [] = [] from rfl, List.append_nil]
    exact Ev.now _
  | succ d ih =>
    intro i L hi hL
    have hil : i < l.length := by omega
    have hx := hb i hil
    have hlen := task_len hx
    have hlen' : (taskL (rd_T30 l (i : Int))).length ≤ 6000 := hlen
    refine Ev.step (fun k => by rw [show_Text.l0]) (evp (by omega) (evp (by omega) (evp (by omega) ?_)))
    refine Ev.bind (task_ev hx) (evp (by rw [B_size]; omega) ?_)
    rw [show (⟨#[10]⟩ : ByteArray) = B [10] from rfl, B_app]
    refine evp (by rw [B_size, B_size, List.length_append, List.length_singleton]; omega) ?_
    rw [B_app, wi (by omega), rdT_drop hil, lines_cons]
    have := ih (i + 1) (L ++ (taskL (rdT l (i : Int)) ++ [10])) (by omega) (by rw [List.length_append, List.length_append, List.length_singleton]; omega)
    rw [List.append_assoc] at this
    exact this
theorem text_ev (r : Int) (h0 : 0 ≤ r) (h1 : r ≤ 10000) (l : List Tk) (hl : l.length ≤ 8) (hb : ∀ i : Nat, i < l.length → TB (rdT l (i : Int))) : Ev (fun k => show_Text.f k r l) (B (textL r l)) := by
  have hn := it_len h0 (by omega)
  unfold show_Text.f
  refine evb (num_eq h0 (by omega)) (evp (by rw [B_size]; omega) ?_)
  rw [show (⟨#[114, 101, 108, 111, 97, 100, 32]⟩ : ByteArray) = B wReload from rfl, show (⟨#[59, 10]⟩ : ByteArray) = B [59, 10] from rfl, B_app]
  have h7 : wReload.length = 7 := rfl
  refine evp (by rw [B_size, List.length_append]; omega) ?_
  rw [B_app]
  have := text_loop l hl hb l.length 0 (wReload ++ Lib.itoa r ++ [59, 10]) (by omega) (by simp only [List.length_append, List.length_cons, List.length_nil]; omega)
  rw [List.drop_zero] at this
  exact this
theorem tb_of {r : Int} {l : List Tk} (h : RefSetN.SetOK r l) (hu : ∀ y ∈ l, (0 ≤ y.f7 ∧ y.f7 < 18446744073709551616) ∧ (0 ≤ y.f8 ∧ y.f8 < 18446744073709551616)) : ∀ i : Nat, i < l.length → TB (rdT l (i : Int)) := by
  intro i hi
  obtain ⟨_, _, _, h8, ht⟩ := h
  have hx := ht (i : Int) (by omega) (by omega)
  have hm : rdT l (i : Int) ∈ l := List.mem_of_mem_drop (i := i) (by rw [rdT_drop hi]; exact List.mem_cons_self)
  have hy := hu _ hm
  obtain ⟨hN, h1, h2, _, h4, h5, h6, h7, h9⟩ := hx
  have hs := RefSetN.sum_bound h4
  have e1 : 0 ≤ (rd_T30 l (i : Int)).f1 := by omega
  have e2 : 0 ≤ (rd_T30 l (i : Int)).f2 := by omega
  have e3 : (rd_T30 l (i : Int)).f2 ≤ 10000 := by omega
  refine ⟨hN.1, ⟨e1, h7⟩, ⟨e2, e3⟩, ?_, h2, h4, hy.1, hy.2⟩
  rcases h9 with h9 | h9 | h9
  · exact Or.inl h9.1
  · exact Or.inr (Or.inl ⟨h9.1, h9.2.1, h9.2.2.1⟩)
  · exact Or.inr (Or.inr ⟨h9.1, h9.2.2.1, Int.le_trans h9.2.2.2 (by omega)⟩)
end Go.Proofs.YtkdndgclldlddaaDoor.Pure
namespace Go.Proofs.YtkdndgclldlddaaDoor.Pure
open Go.RowKit Go.Proofs.YtkdndgclldlddaaDoor.QSh Go.Proofs.YtkdndgclldlddaaDoorW.PrintWords Go.Proofs.YtkdndgclldlddaaDoorW.PrintLast Go.Proofs.YtkdndgclldlddaaDoorW.PrintMore
set_option linter.unusedVariables false
set_option linter.unusedSimpArgs false
def tA : Tk := ⟨(⟨#[97]⟩ : ByteArray), 5, 5, 0, 0, 0, [2, 1], 0, 0⟩
theorem tA_ok : TB tA := by
  refine ⟨by decide, by decide, by decide, Or.inl rfl, by decide, ?_, by decide, by decide⟩
  intro r hr
  simp only [tA, List.mem_cons, List.not_mem_nil, or_false] at hr
  rcases hr with rfl | rfl <;> decide
theorem it_small {n : Nat} (h : n < 10) : Lib.itoa (n : Int) = [UInt8.ofNat (48 + n)] := by rw [itoa_nat, Lib.decDigits_one h]
theorem known7 : Ev (fun k => taskmasterlaw7_known.f k) true := by
  unfold taskmasterlaw7_known.f
  have ht := task_ev tA_ok
  have e : (B (taskL tA)) = B [116, 97, 115, 107, 32, 97, 32, 112, 101, 114, 105, 111, 100, 32, 53, 32, 100, 101, 97, 100, 108, 105, 110, 101, 32, 53, 32, 102, 105, 120, 101, 100, 32, 114, 101, 103, 105, 111, 110, 115, 32, 50, 32, 49, 59] := by
    have h5 : Lib.itoa 5 = [53] := it_small (n := 5) (by decide)
    have h2 : Lib.itoa 2 = [50] := it_small (n := 2) (by decide)
    have h1 : Lib.itoa 1 = [49] := it_small (n := 1) (by decide)
    have hl : taskL tA = [116, 97, 115, 107, 32, 97, 32, 112, 101, 114, 105, 111, 100, 32, 53, 32, 100, 101, 97, 100, 108, 105, 110, 101, 32, 53, 32, 102, 105, 120, 101, 100, 32, 114, 101, 103, 105, 111, 110, 115, 32, 50, 32, 49, 59] := by
      have hm : modeL tA = wFixed := by
        unfold modeL
        rw [if_neg (show ¬ tA.f3 = 1 by decide), if_neg (show ¬ tA.f3 = 2 by decide)]
      simp only [taskL, headL, restL, hm]
      simp only [tA, tl_cons, tl_nil, tl_app, h5, h2, h1, List.map_cons, List.map_nil, setL, Int.toNat_zero, if_pos, List.append_nil]
      rfl
    rw [hl]
  rw [e] at ht
  refine Ev.bind ht ?_
  show Ev (fun _ => some ((B _).toList == _)) true
  have e2 : (B [116, 97, 115, 107, 32, 97, 32, 112, 101, 114, 105, 111, 100, 32, 53, 32, 100, 101, 97, 100, 108, 105, 110, 101, 32, 53, 32, 102, 105, 120, 101, 100, 32, 114, 101, 103, 105, 111, 110, 115, 32, 50, 32, 49, 59]).toList = [116, 97, 115, 107, 32, 97, 32, 112, 101, 114, 105, 111, 100, 32, 53, 32, 100, 101, 97, 100, 108, 105, 110, 101, 32, 53, 32, 102, 105, 120, 101, 100, 32, 114, 101, 103, 105, 111, 110, 115, 32, 50, 32, 49, 59] := by decide +kernel
  rw [e2]
  exact Ev.now true
theorem u_of {x : S24} (w0 : wf24 x) : (∀ y ∈ x.f1, y.f0.size ≤ 9223372036854775807) ∧ ∀ y ∈ x.f1, (0 ≤ y.f7 ∧ y.f7 < 18446744073709551616) ∧ (0 ≤ y.f8 ∧ y.f8 < 18446744073709551616) := by
  refine ⟨fun y hy => (w0.2 y hy).1, fun y hy => ?_⟩
  obtain ⟨_, _, _, _, _, _, _, h7, h8⟩ := w0.2 y hy
  exact ⟨u64_in h7, u64_in h8⟩
theorem lines_loop (r : Int) (h0 : 0 ≤ r) (h1 : r ≤ 10000) (l : List Tk) (hl : l.length ≤ 8) (hb : ∀ i : Nat, i < l.length → TB (rdT l (i : Int))) (d : Nat) : ∀ (i : Nat) (L : List UInt8), i + d = l.length → L ++ linesL (l.drop i) = linesL l → L.length + 6001 * d ≤ 60000 → Ev (fun k => taskmasterlaw7_ShowLines.l0 k (B L) (i : Int) r l) true := by
  induction d with
  | zero =>
    intro i L hi hL hlen
    rw [List.drop_eq_nil_of_le (by omega), show linesL [] = [] from rfl, List.append_nil] at hL
    subst hL
    have hn := it_len h0 (by omega)
    refine Ev.step (fun k => by rw [taskmasterlaw7_ShowLines.l0]) (evn (by omega) ?_)
    refine Ev.bind (text_ev r h0 h1 l hl hb) (Ev.bind (dig_ev h0 (by omega)) (evp (by rw [B_size]; omega) ?_))
    rw [show (⟨#[114, 101, 108, 111, 97, 100, 32]⟩ : ByteArray) = B wReload from rfl, show (⟨#[59, 10]⟩ : ByteArray) = B [59, 10] from rfl, B_app, B_app, B_app]
    have h7 : wReload.length = 7 := rfl
    refine evp (by rw [B_size, List.length_append]; omega) (evp (by rw [B_size, B_size, List.length_append, List.length_append]; simp only [List.length_cons, List.length_nil]; omega) ?_)
    exact evp rfl (Ev.bind known7 (Ev.now true))
  | succ d ih =>
    intro i L hi hL hlen
    have hil : i < l.length := by omega
    have hx := hb i hil
    have ht := task_len hx
    have ht' : (taskL (rd_T30 l (i : Int))).length ≤ 6000 := ht
    refine Ev.step (fun k => by rw [taskmasterlaw7_ShowLines.l0]) (evp (by omega) (evp (by omega) ?_))
    refine Ev.bind (task_ev hx) (evp (by rw [B_size, B_size]; omega) ?_)
    rw [B_app]
    refine evp (by rw [B_size, List.length_append]; omega) ?_
    rw [show (⟨#[10]⟩ : ByteArray) = B [10] from rfl, B_app, wi (by omega)]
    refine ih (i + 1) _ (by omega) ?_ (by rw [List.length_append, List.length_append, List.length_singleton]; omega)
    rw [← hL, rdT_drop hil, lines_cons]
    simp
theorem ShowLines (a0 : S24) (w0 : wf24 a0) : ∃ k : Nat, taskmasterlaw7_ShowLines.f k a0.f0 a0.f1 = some true := by
  refine Ev.rounds ?_
  unfold taskmasterlaw7_ShowLines.f
  by_cases c0 : (a0.f1.length : Int) > 10
  · exact evp c0 (Ev.step (fun k => by rw [taskmasterlaw7_ShowLines.j0]) (evp rfl (Ev.now true)))
  refine evn c0 ?_
  have hu := u_of w0
  obtain ⟨b, hb, hok⟩ := RefSetN.all_ends a0.f0 a0.f1 hu.1
  refine Ev.bind hb ?_
  cases b with
  | false =>
    refine Ev.step (fun k => by rw [taskmasterlaw7_ShowLines.j0]) ?_
    exact evp rfl (Ev.now true)
  | true =>
    have hs := hok rfl
    have h8 := hs.2.2.2.1
    refine Ev.step (fun k => by rw [taskmasterlaw7_ShowLines.j0]) ?_
    refine evn (by simp) ?_
    exact lines_loop a0.f0 hs.1 hs.2.1 a0.f1 h8 (tb_of hs hu.2) a0.f1.length 0 [] (by omega) (by rw [List.drop_zero]; rfl) (by simp only [List.length_nil]; omega)
end Go.Proofs.YtkdndgclldlddaaDoor.Pure
namespace Go.Proofs.YtkdndgclldlddaaDoor.QSh
open Go.RowKit
set_option linter.unusedVariables false
abbrev laidL : List (String × DataW Unit) := [("math/bits.deBruijn32tab", Rows.laid_math_bits_deBruijn32tab), ("math/bits.deBruijn64tab", Rows.laid_math_bits_deBruijn64tab), ("internal/strconv.uint64pow10", Rows.laid_internal_strconv_uint64pow10)]
def tabZ : List Int := List.map Int.ofNat Lib.deBruijn64tab
theorem vars_tail {W : World} {x : String × DataW Unit} {r : List (String × DataW Unit)} {ps : List MemPlace} (h : DataW.LaidVars Tryd.prog W (x :: r) ps) : ∃ q, DataW.LaidVars Tryd.prog W r q := by
  obtain ⟨_, _, _, _, _, q, _, _, _, _, h2, _⟩ := h
  exact ⟨q, h2⟩
theorem tab_of_vars {W : World} {name : String} {k : IntKind} {zs : List Int} {rest : List (String × DataW Unit)} {ps : List MemPlace} {g : Nat} {t e : TypeId} {n : Nat}
    (hg : Tryd.prog.globalNamed name = some g) (hty : (Tryd.prog.globals[g]?).map (·.type) = some t) (ht : Tryd.prog.underlying t = some (.array n e)) (he : Tryd.prog.underlying e = some (.int k)) (hce : Tryd.prog.cellsOf e = 1) (hct : Tryd.prog.cellsOf t = n)
    (h : DataW.LaidVars Tryd.prog W ((name, Lib.tabData k zs) :: rest) ps) : Lib.TabIs Tryd.prog W name k zs := by
  obtain ⟨g', t', cs, fuel, p, q, hg', ht', hvar, hd, _, _⟩ := h
  obtain rfl := Option.some.inj (hg.symm.trans hg')
  obtain rfl := Option.some.inj (hty.symm.trans ht')
  unfold Lib.TabIs
  rw [hvar, ← Lib.cells_of_tab ht he hce hct hd]
theorem laid_eq : (laidL : List (String × DataW Unit)) = [("math/bits.deBruijn32tab", Rows.laid_math_bits_deBruijn32tab), ("math/bits.deBruijn64tab", Lib.tabData .u8 tabZ), ("internal/strconv.uint64pow10", Lib.tabData .u64 Lib.pow10Tab)] := by rfl
theorem gTab : Tryd.prog.globalNamed "math/bits.deBruijn64tab" = some 0 := by kernel_rfl
theorem tTab : (Tryd.prog.globals[0]?).map (·.type) = some 118 := by kernel_rfl
theorem tPow : (Tryd.prog.globals[2]?).map (·.type) = some 130 := by kernel_rfl
theorem tab_of_laid {W : World} (h : laidMetH Tryd.prog laidL W) : TabW W := by
  rw [MakeChecks.laidMetH_plain _ _ _ (by kernel_rfl), laid_eq] at h
  obtain ⟨ps, hv, _⟩ := h
  obtain ⟨q1, h1⟩ := vars_tail hv
  obtain ⟨q2, h2⟩ := vars_tail h1
  have ht : Lib.TabIs Tryd.prog W "math/bits.deBruijn64tab" .u8 tabZ := tab_of_vars (e := 5) (n := 64) gTab tTab (by kernel_rfl) (by kernel_rfl) (by kernel_rfl) (by kernel_rfl) h1
  have hp : Lib.TabIs Tryd.prog W "internal/strconv.uint64pow10" .u64 Lib.pow10Tab := tab_of_vars (e := 28) (n := 20) gPow tPow (by kernel_rfl) (by kernel_rfl) (by kernel_rfl) (by kernel_rfl) h2
  have all : TabAt 0 Lib.deBruijn64tab W := fun j hj => by
    have hl : tabZ.length = 64 := by decide
    have hj' : j < 64 := hj
    rw [ht.cell gTab j (by omega)]
    have e : tabZ.getD j 0 = ((Lib.deBruijn64tab.getD j 0 : Nat) : Int) := (show ∀ j, j < 64 → tabZ.getD j 0 = ((Lib.deBruijn64tab.getD j 0 : Nat) : Int) by decide) j hj'
    rw [e]
  exact ⟨⟨World.block_lt_of_cell? W _ (all 0 (by decide)), all⟩, hp⟩
theorem door_met (os : Os) (args : Array Value) : laidMetH Tryd.prog laidL ((World.doorLaid Tryd.prog 14 os).forCall (fun _ _ => 0) ⟨#[], args, []⟩).memory :=
  laidMetH_of_parts3 (fuel := 8) (laidMet_of_run' 8 (by kernel_rfl) (by kernel_rfl)) (by kernel_rfl) (by kernel_rfl)
end Go.Proofs.YtkdndgclldlddaaDoor.QSh
namespace Go.Proofs.YtkdndgclldlddaaDoor.showLines
open Go.ChangeShapes Go.WideShapes Go.ChangeAt Go.RowKit
open Go.ChangeMaps (open_string shut_string)
open Go.Proofs.YtkdndgclldlddaaDoorW.PrintWords Go.Proofs.YtkdndgclldlddaaDoorW.PrintLast Go.Proofs.YtkdndgclldlddaaDoor.QSh Go.Proofs.YtkdndgclldlddaaDoor.Open
set_option linter.unusedVariables false
theorem own : ownKnob Tryd.prog.godebug = none := by kernel_rfl
theorem laidOut : laidOutB Tryd.prog = true := by kernel_rfl
set_option maxRecDepth 100000 in
theorem lifted (os : Os) (started : os.Started) (H : Type) (enc : TypeId × Value → H) :
    ReturnsInHanded {} Tryd.checked os 6 .any (fun w args => (Rows.showLinesSpec.pre enc Tryd.prog Tryd.f6 [] false w args ∧ laidMetH Tryd.prog laidL w) ∧ sizedMet enc Tryd.prog Tryd.f6 (OpenSpec.ofChange Rows.showLinesSpec) false w args) (Rows.showLinesSpec.post enc Tryd.prog Tryd.f6 false true false false) := by
  refine returnsInHanded_of_change_and (C := Tryd.checked) (X := fun w _ => laidMetH Tryd.prog laidL w) (fun _ _ _ hh h => h.of_heap hh) own started (by kernel_rfl) Tryd.func6
    (ChangeSpec.witness_shaped (enc := enc) (C := Tryd.checked) (os := os) (X := fun w _ => laidMetH Tryd.prog laidL w) false (World.doorLaid Tryd.prog 14 os) #[.agg #[.int .i64 0, .slice none 0 0]] 8 rfl (World.shaped_of_RefB (by kernel_rfl) (by kernel_rfl)) (by kernel_rfl) (by kernel_rfl) (by kernel_rfl) (door_met os _)) ?_
  intro W base args ds gs before hval0 hW hcnd hsz0 hL _
  have hTab := tab_of_laid hL
  clear hL
  have hsz : (DataW.weightsEach Tryd.prog (Tryd.f6.params.toList ++ Rows.showLinesSpec.plain.varTypes Tryd.prog) (ds ++ gs)).all (· ≤ reachBytes) = true := hsz0
  have hval : ∀ (j : Nat) t v, Tryd.f6.params[j]? = some t → args[j]? = some v → Value.okWide Tryd.prog W .any base t v := hval0
  have hW' := hW
  obtain ⟨p, q, hA0, hV, rfl, hfz, hnd⟩ := hW
  have hA : DataW.TrodAll enc Tryd.prog W 0 (fun _ => true) true Tryd.f6.params.toList args.toList ds p := hA0
  rw [Tryd.params6] at hA hval hsz
  obtain ⟨v0, vs0, d0, ds0, p0, q0, hargs, rfl, rfl, h0, r0⟩ := trodAll_cons hA
  obtain ⟨rfl, rfl, rfl⟩ := trodAll_nil r0
  obtain rfl : args = #[v0] := by cases args; simp_all
  obtain ⟨rfl, rfl⟩ := trodVars_none hV
  have k0 := h0
  have lt0 : ∀ x ∈ p0, x.block < W.heap.size := by obtain ⟨m, hm⟩ := k0; exact DataW.trod_lt m _ _ _ hm
  obtain ⟨a0, cs0, rfl, hk0, hw0⟩ := arg_struct Tryd.underlying24 (hval 0 24 v0 rfl rfl) opens24 h0
  obtain ⟨A0_1, c0_1, rfl, hc0_1, hr0_1⟩ := k24_open hk0
  clear hA0 hval0 hsz0 hsz
  obtain ⟨k, hk⟩ := Pure.ShowLines a0 hw0
  refine (taskmasterlaw7_ShowLines.calls (w := W) (h := hk) (hT := hTab) (hc0_1 := hc0_1) (hr0_1 := hr0_1)).mono fun e W' ⟨he, bel0⟩ => ?_
  have bel : Below W.heap.size W W' := bel0
  subst he
  exact ⟨_, rfl, _, _, _, [], _, [], hW', trodAll_mk1 (shut_bool Tryd.underlying4 _), (trodAll_cons_mk (Below.trod laidOut (by kernel_rfl) (of_decide_eq_true (by kernel_rfl)) k0 bel lt0) trodAll_mk0), rfl, bel.frame _, fun h => by cases h⟩
theorem over : Rows.showLinesRow.holds Tryd.pinned (OpenSpec.ofChange Rows.showLinesSpec) :=
  OpenClaim.holds_of_wide 6 Tryd.f6 rfl rfl rfl rfl rfl rfl rfl ⟨rfl, rfl, rfl, rfl, rfl⟩ rfl rfl rfl rfl rfl (by kernel_rfl) Tryd.func6 (by kernel_rfl)
    (of_decide_eq_true (by kernel_rfl)) (by unfold Func.isWrapper; first | (rw [if_pos (by decide +kernel)]; kernel_rfl) | (rw [if_neg (by decide +kernel)]; exact ⟨rfl, rfl⟩))
    (fun os started H enc _ => lifted os started H enc)
theorem proved : Rows.ShowLinesSaid := over
end Go.Proofs.YtkdndgclldlddaaDoor.showLines
namespace Go.Proofs.YtkdndgclldlddaaDoor
theorem showLines_holds : Rows.ShowLinesCardSaid :=
  Claim7.holds_tied_plain_at .later [] [.data, .data, .data] true Rows.showLinesCard.stood.harness Rows.showLinesCard.stood.looks
    showLines.proved (fun _ h => by cases h) (by kernel_rfl) (fun _ h => by cases h) showLines_row_tie rfl ⟨rfl, rfl⟩ (by kernel_rfl) rfl
    (fun f fn hf hfn => by
      obtain rfl : f = 6 := Option.some.inj ((show Tryd.prog.funcNamed "taskmaster/taskmasterlaw7.ShowLines" = some 6 by kernel_rfl).symm.trans hf) |>.symm
      obtain rfl : fn = Tryd.f6 := (Option.some.inj (Tryd.func6.symm.trans hfn)).symm
      exact ⟨by kernel_rfl, fun j t ht => by
        rw [Tryd.params6] at ht
        have hm : t ∈ [24] := by simpa using Array.mem_of_getElem? ht
        have hall : ([24].all fun u => !Tryd.prog.wantsStandIn u) = true := by kernel_rfl
        exact (show Tryd.prog.wantsStandIn t = false by simpa using List.all_eq_true.1 hall t hm)⟩)
    (by kernel_rfl)
end Go.Proofs.YtkdndgclldlddaaDoor

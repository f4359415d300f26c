/- What is proved: contracts and plain facts on the way to the row RowShowBack, and, in the last text, the row itself; conditions as each theorem names them. -/
import Derived.Laws.BitsLemmas
import Derived.Lib.ItoaLen
import Derived.ChangeArms
import Derived.Deep.Slices
import Derived.DataReads
import Derived.WideShapes
import Derived.KernelRfl
import Derived.Laws.Strings
import Derived.Test.YtkdndgclldlddaaDoorRows
import Derived.LaidMore
import Derived.MakeChecks
import Derived.Lib.LaidTab
import Derived.ProofKit
import Derived.WalkKit
import Derived.OpenShut
import Derived.ShutString
import Derived.ChangeOld
import Derived.Below
import Derived.SizedLaws
import Derived.Test.YtkdndgclldlddaaDoorTie
import Derived.Test.YtkdndgclldlddaaDoorCards
import Derived.SevenTiedAt
import Derived.Stop.Joined
import Derived.Test.YtkdndgclldlddaaDoorSkBack1
import Derived.Test.YtkdndgclldlddaaDoorSkBack2
import Derived.Test.YtkdndgclldlddaaDoorSkBack3
import Derived.Test.YtkdndgclldlddaaDoorSkBack4
import Derived.Test.YtkdndgclldlddaaDoorSkBack5
namespace Go.Proofs.YtkdndgclldlddaaDoor.Pure
open Go.RowKit Go.Proofs.YtkdndgclldlddaaDoor.QSb Go.Proofs.YtkdndgclldlddaaDoorW.PrintWords Go.Proofs.YtkdndgclldlddaaDoorW.PrintLast Go.Proofs.YtkdndgclldlddaaDoorW.PrintMore
set_option linter.unusedVariables false
theorem wrapN {a : Nat} (h : a < 18446744073709551616) : IntKind.u64.wrap (a : Int) = (a : Int) := by rw [IntKind.wrap_u64]; omega
theorem wr64 (n : Int) (h0 : 0 ≤ n) (h1 : n < 2 ^ 64) : IntKind.u64.wrap n = n := by rw [IntKind.wrap_u64]; omega
theorem andN (a b : Nat) (ha : a < 18446744073709551616) (hb : b < 18446744073709551616) : Go.bits .and .u64 (a : Int) (b : Int) = ((a &&& b : Nat) : Int) := (bits_nat .u64 64 (by decide) wr64 a b ha hb).1
theorem orN (a b : Nat) (ha : a < 18446744073709551616) (hb : b < 18446744073709551616) : Go.bits .or .u64 (a : Int) (b : Int) = ((a ||| b : Nat) : Int) := (bits_nat .u64 64 (by decide) wr64 a b ha hb).2
theorem and_lt {a b : Nat} (ha : a < 18446744073709551616) : a &&& b < 18446744073709551616 := Nat.lt_of_le_of_lt Nat.and_le_left ha
theorem evp {α : Type} {c : Prop} [Decidable c] {f g : Nat → Option α} {r : α} (h : c) (k : Ev f r) : Ev (fun n => if c then f n else g n) r := Ev.congr (fun _ => if_pos h) k
theorem evn {α : Type} {c : Prop} [Decidable c] {f g : Nat → Option α} {r : α} (h : ¬ c) (k : Ev g r) : Ev (fun n => if c then f n else g n) r := Ev.congr (fun _ => if_neg h) k
theorem evb {α β : Type} {o : Option α} {f : Nat → α → Option β} {a : α} {r : β} (h : o = some a) (k : Ev (fun n => f n a) r) : Ev (fun n => o.bind (f n)) r := Ev.congr (fun n => by rw [h]; rfl) k
theorem w64 {n : Int} (h0 : -9223372036854775808 ≤ n) (h1 : n ≤ 9223372036854775807) : wrap64 n = n := by unfold wrap64; omega
theorem wi {i : Nat} (h : i ≤ 1000000) : wrap64 ((i : Int) + 1) = ((i + 1 : Nat) : Int) := w64 (by omega) (by omega)
theorem rd_drop {l : List Int} {i : Nat} (h : i < l.length) : l.drop i = rd l (i : Int) :: l.drop (i + 1) := by
  rw [List.drop_eq_getElem_cons h]; unfold rd
  rw [Int.toNat_natCast, List.getD_eq_getElem?_getD, List.getElem?_eq_getElem h]; rfl
theorem ctz_spec {n : Nat} (h0 : n ≠ 0) (h : n < 18446744073709551616) : ∃ k m, Lib.ctz 64 n = k ∧ n = 2 ^ k * (2 * m + 1) ∧ k < 64 := by
  obtain ⟨m, h1, h2⟩ := Lib.ctzFrom_spec 64 n (by omega) h
  refine ⟨Lib.ctzFrom 64 n, m, ?_, h1, h2⟩
  unfold Lib.ctz; rw [if_neg h0]
theorem bit_of {k m : Nat} (j : Nat) : (2 ^ k * (2 * m + 1)).testBit j = (if j < k then false else (2 * m + 1).testBit (j - k)) := by
  have := Nat.testBit_two_pow_mul_add (2 * m + 1) (b := 0) (i := k) (Nat.two_pow_pos k) j
  rw [Nat.add_zero, Nat.zero_testBit] at this
  exact this
theorem tz_eq {n : Nat} (h : n < 18446744073709551616) : bits_TrailingZeros64.f (n : Int) = some ((Lib.ctz 64 n : Nat) : Int) := by
  unfold bits_TrailingZeros64.f; rw [if_pos (by omega), Int.toNat_natCast]
theorem u64_in {n : Int} (h : (Lit.int .u64 n).wf = true) : 0 ≤ n ∧ n < 18446744073709551616 := by
  simp only [Lit.wf, IntKind.min, IntKind.max, IntKind.signed, IntKind.bits, Bool.and_eq_true] at h
  simp at h
  omega
def listFrom (n : Nat) : Nat → Nat → List Int
  | 0, _ => []
  | d + 1, i => if n.testBit i then (i : Int) :: listFrom n d (i + 1) else listFrom n d (i + 1)
theorem listFrom_le (n : Nat) : ∀ (d i : Nat), (listFrom n d i).length ≤ d
  | 0, i => Nat.le_refl _
  | d + 1, i => by
    unfold listFrom
    have := listFrom_le n d (i + 1)
    split
    · rw [List.length_cons]; omega
    · omega
theorem clear_of {k m : Nat} (j : Nat) : ((2 ^ k * (2 * m + 1)) &&& (2 ^ k * (2 * m + 1) - 1)).testBit j = ((2 ^ k * (2 * m + 1)).testBit j && decide (j ≠ k)) := by
  have hp := Nat.two_pow_pos k
  have e : 2 ^ k * (2 * m + 1) - 1 = 2 ^ k * (2 * m) + (2 ^ k - 1) := by rw [Nat.mul_add, Nat.mul_one]; omega
  rw [Nat.testBit_and, bit_of, e, Nat.testBit_two_pow_mul_add (2 * m) (by omega) j]
  by_cases hj : j < k
  · rw [if_pos hj]; rfl
  · rw [if_neg hj, if_neg hj]
    by_cases hk : j = k
    · subst hk
      rw [Nat.sub_self, Nat.testBit_zero, Nat.testBit_zero]
      simp
    · obtain ⟨d, rfl⟩ : ∃ d, j = k + (d + 1) := ⟨j - k - 1, by omega⟩
      rw [show k + (d + 1) - k = d + 1 by omega, ← Nat.testBit_div_two, ← Nat.testBit_div_two, show (2 * m + 1) / 2 = m by omega, show 2 * m / 2 = m by omega]
      simp
theorem list_congr {a b : Nat} : ∀ (d i : Nat), (∀ j, i ≤ j → j < i + d → a.testBit j = b.testBit j) → listFrom a d i = listFrom b d i
  | 0, _, _ => rfl
  | d + 1, i, h => by
    unfold listFrom
    rw [h i (Nat.le_refl _) (by omega), list_congr d (i + 1) (fun j h1 h2 => h j (by omega) (by omega))]
theorem list_first {a b k : Nat} : ∀ (d i : Nat), i ≤ k → k < i + d → a.testBit k = true → b.testBit k = false → (∀ j, j < k → a.testBit j = false) → (∀ j, j ≠ k → b.testBit j = a.testBit j) → listFrom a d i = (k : Int) :: listFrom b d i
  | 0, i, h0, h1, _, _, _, _ => absurd h1 (by omega)
  | d + 1, i, h0, h1, ha, hb, hl, he => by
    by_cases hi : i = k
    · subst hi
      show (if a.testBit i = true then _ else _) = _ :: (if b.testBit i = true then _ else _)
      rw [if_pos ha, if_neg (by rw [hb]; simp), list_congr d (i + 1) (fun j h1 _ => (he j (by omega)).symm)]
    · show (if a.testBit i = true then _ else _) = _ :: (if b.testBit i = true then _ else _)
      rw [if_neg (by rw [hl i (by omega)]; simp), if_neg (by rw [he i hi, hl i (by omega)]; simp)]
      exact list_first d (i + 1) (by omega) (by omega) ha hb hl he
theorem list_zero : ∀ (d i : Nat), listFrom 0 d i = []
  | 0, _ => rfl
  | d + 1, i => by unfold listFrom; rw [if_neg (by rw [Nat.zero_testBit]; simp)]; exact list_zero d (i + 1)
theorem list_step {n : Nat} (h0 : n ≠ 0) (h : n < 18446744073709551616) : listFrom n 64 0 = ((Lib.ctz 64 n : Nat) : Int) :: listFrom (n &&& (n - 1)) 64 0 := by
  obtain ⟨k, m, e, rfl, hk⟩ := ctz_spec h0 h
  rw [e]
  have hb : (2 ^ k * (2 * m + 1)).testBit k = true := by rw [bit_of, if_neg (by omega), Nat.sub_self, Nat.testBit_zero]; simp
  refine list_first 64 0 (by omega) (by omega) hb ?_ (fun j hj => by rw [bit_of, if_pos hj]) (fun j hj => ?_)
  · rw [clear_of]; simp
  · rw [clear_of]; simp [hj]
theorem blist_loop (d : Nat) : ∀ (n : Nat) (acc : List Int), n < 18446744073709551616 → (listFrom n 64 0).length = d → acc.length + d ≤ 64 → Ev (fun k => bits_List.l0 k (n : Int) acc) (acc ++ listFrom n 64 0) := by
  induction d with
  | zero =>
    intro n acc hn hl ha
    have hz : n = 0 := by
      rcases Nat.eq_zero_or_pos n with h | h
      · exact h
      · rw [list_step (by omega) hn] at hl; simp at hl
    subst hz
    refine Ev.step (fun k => by rw [bits_List.l0]) ?_
    refine evp (show ((0 : Nat) : Int) = 0 from rfl) ?_
    rw [list_zero, List.append_nil]; exact Ev.now _
  | succ d ih =>
    intro n acc hn hl ha
    have h0 : n ≠ 0 := by
      rintro rfl
      rw [list_zero] at hl; simp at hl
    rw [list_step h0 hn] at hl ⊢
    refine Ev.step (fun k => by rw [bits_List.l0]) ?_
    refine evn (by omega) ?_
    refine evb (tz_eq hn) ?_
    refine evp (by omega) ?_
    rw [show (n : Int) - 1 = ((n - 1 : Nat) : Int) by omega, wrapN (by omega), andN n (n - 1) hn (by omega)]
    have r := ih (n &&& (n - 1)) (acc ++ [((Lib.ctz 64 n : Nat) : Int)]) (and_lt hn) (by simpa using hl) (by simp; omega)
    rw [List.append_assoc] at r; exact r
theorem blist_ev {n : Nat} (h : n < 18446744073709551616) : Ev (fun k => bits_List.f k (n : Int)) (listFrom n 64 0) := by
  have r := blist_loop (listFrom n 64 0).length n [] h rfl (by have := listFrom_le n 64 0; simpa using this)
  rw [List.nil_append] at r; exact r
end Go.Proofs.YtkdndgclldlddaaDoor.Pure
namespace Go.Proofs.YtkdndgclldlddaaDoor.RefSetN
open Go.RowKit Go.Proofs.YtkdndgclldlddaaDoor.QSb Go.Proofs.YtkdndgclldlddaaDoorW.PrintWords Go.Proofs.YtkdndgclldlddaaDoorW.PrintLast Go.Proofs.YtkdndgclldlddaaDoorW.PrintMore
set_option linter.unusedVariables false
theorem evp {α : Type} {c : Prop} [Decidable c] {f g : Nat → Option α} {r : α} (h : c) (k : Ev f r) : Ev (fun n => if c then f n else g n) r := Ev.congr (fun _ => if_pos h) k
theorem evn {α : Type} {c : Prop} [Decidable c] {f g : Nat → Option α} {r : α} (h : ¬ c) (k : Ev g r) : Ev (fun n => if c then f n else g n) r := Ev.congr (fun _ => if_neg h) k
theorem evb {α β : Type} {o : Option α} {f : Nat → α → Option β} {a : α} {r : β} (h : o = some a) (k : Ev (fun n => f n a) r) : Ev (fun n => o.bind (f n)) r := Ev.congr (fun n => by rw [h]; rfl) k
def Ends {α : Type} (g : Nat → Option α) : Prop := ∃ r, Ev g r
theorem endsNow {α : Type} (r : α) : Ends (fun _ => some r) := ⟨r, Ev.now r⟩
theorem endsStep {α : Type} {g f : Nat → Option α} (h : ∀ k, g (k + 1) = f k) (k : Ends f) : Ends g := let ⟨r, e⟩ := k; ⟨r, Ev.step h e⟩
theorem endsIf {α : Type} {c : Prop} [Decidable c] {f g : Nat → Option α} (h : c → Ends f) (k : ¬ c → Ends g) : Ends (fun n => if c then f n else g n) := by
  by_cases hc : c
  · obtain ⟨r, e⟩ := h hc; exact ⟨r, evp hc e⟩
  · obtain ⟨r, e⟩ := k hc; exact ⟨r, evn hc e⟩
theorem endsAt {α β : Type} {o : Option α} {f : Nat → α → Option β} {a : α} (h : o = some a) (k : Ends (fun n => f n a)) : Ends (fun n => o.bind (f n)) := let ⟨r, e⟩ := k; ⟨r, evb h e⟩
theorem w64 {n : Int} (h0 : -9223372036854775808 ≤ n) (h1 : n ≤ 9223372036854775807) : wrap64 n = n := by unfold wrap64; omega
theorem small_eq (c : Int) : taskmasterref4_small.f c = some (decide (97 ≤ c ∧ c ≤ 122)) := by
  unfold taskmasterref4_small.f
  by_cases h : c ≥ 97
  · rw [if_pos h]; congr 1; exact decide_eq_decide.mpr (by omega)
  · rw [if_neg h, decide_eq_false (by omega)]
theorem digit_eq (c : Int) : taskmasterref4_digit.f c = some (decide (48 ≤ c ∧ c ≤ 57)) := by
  unfold taskmasterref4_digit.f
  by_cases h : c ≥ 48
  · rw [if_pos h]; congr 1; exact decide_eq_decide.mpr (by omega)
  · rw [if_neg h, decide_eq_false (by omega)]
def okB (c : Int) : Prop := (97 ≤ c ∧ c ≤ 122) ∨ (48 ≤ c ∧ c ≤ 57) ∨ c = 95
def NameB (s : ByteArray) : Prop := s.size ≤ 12 ∧ ∀ j : Nat, j < s.size → okB (bt s (j : Int))
def NP (s : ByteArray) (r : Int × ByteArray × Int × Int × Int) : Prop := r.1 = 1 → r.2.2.2.2 = (s.size : Int) → NameB s
def EndsP {α : Type} (P : α → Prop) (g : Nat → Option α) : Prop := ∃ r, Ev g r ∧ P r
theorem endsPNow {α : Type} {P : α → Prop} (r : α) (h : P r) : EndsP P (fun _ => some r) := ⟨r, Ev.now r, h⟩
theorem endsPStep {α : Type} {P : α → Prop} {g f : Nat → Option α} (h : ∀ k, g (k + 1) = f k) (k : EndsP P f) : EndsP P g := let ⟨r, e, p⟩ := k; ⟨r, Ev.step h e, p⟩
theorem endsPIf {α : Type} {P : α → Prop} {c : Prop} [Decidable c] {f g : Nat → Option α} (h : c → EndsP P f) (k : ¬ c → EndsP P g) : EndsP P (fun n => if c then f n else g n) := by
  by_cases hc : c
  · obtain ⟨r, e, p⟩ := h hc; exact ⟨r, evp hc e, p⟩
  · obtain ⟨r, e, p⟩ := k hc; exact ⟨r, evn hc e, p⟩
theorem endsPBind {α β : Type} {P : β → Prop} {g : Nat → Option α} {f : Nat → α → Option β} (h : Ends g) (k : ∀ a, EndsP P (fun n => f n a)) : EndsP P (fun n => (g n).bind (f n)) := by
  obtain ⟨a, e⟩ := h
  obtain ⟨r, e', p⟩ := k a
  exact ⟨r, Ev.bind e e', p⟩
theorem endsPAt {α β : Type} {P : β → Prop} {o : Option α} {f : Nat → α → Option β} {a : α} (h : o = some a) (k : EndsP P (fun n => f n a)) : EndsP P (fun n => o.bind (f n)) := let ⟨r, e, p⟩ := k; ⟨r, evb h e, p⟩
theorem word_loop (s : ByteArray) (l : List ByteArray) (hl : l.length ≤ 100) (d : Nat) : ∀ i : Nat, i + d = l.length → Ends (fun k => taskmasterref4_word.l0 k s l (i : Int)) := by
  induction d with
  | zero =>
    intro i hi
    refine endsStep (fun k => by rw [taskmasterref4_word.l0]) ?_
    exact endsIf (fun h => absurd h (by omega)) (fun _ => endsNow _)
  | succ d ih =>
    intro i hi
    refine endsStep (fun k => by rw [taskmasterref4_word.l0]) ?_
    refine endsIf (fun _ => endsIf (fun _ => endsIf (fun _ => endsNow _) (fun _ => ?_)) (fun h => absurd (Int.natCast_nonneg i) h)) (fun h => absurd (show (i : Int) < (l.length : Int) by omega) h)
    rw [w64 (by omega) (by omega)]
    exact ih (i + 1) (by omega)
theorem word_ends (s : ByteArray) : Ends (fun k => taskmasterref4_word.f k s) := by
  unfold taskmasterref4_word.f
  refine endsAt (show taskmasterref4_Words.f = some _ from rfl) ?_
  exact word_loop s _ (by decide) 10 0 (by decide)
theorem np_ne {s : ByteArray} {n : Int} (h : n ≠ 1) (b : ByteArray) (x y z : Int) : NP s (n, b, x, y, z) := fun e _ => absurd e h
theorem one_j3 (s : ByteArray) (i : Int) (h0 : 0 ≤ i) (h1 : i ≤ s.size) (hall : ∀ j : Nat, (j : Int) < i → okB (bt s (j : Int))) : EndsP (NP s) (fun k => taskmasterref4_one.j3 k s i) := by
  refine endsPStep (fun k => by rw [taskmasterref4_one.j3]) ?_
  refine endsPIf (fun _ => endsPIf (fun _ => ?_) (fun h => absurd h1 h)) (fun h => absurd h0 h)
  refine endsPBind (word_ends _) (fun b => ?_)
  refine endsPIf (fun _ => endsPNow _ (np_ne (by decide) _ _ _ _)) (fun _ => endsPIf (fun _ => endsPNow _ (np_ne (by decide) _ _ _ _)) (fun h12 => endsPNow _ (fun _ hz => ?_)))
  have hz' : i = (s.size : Int) := hz
  exact ⟨by omega, fun j hj => hall j (by omega)⟩
theorem one_l1 (s : ByteArray) (hs : s.size ≤ 9223372036854775807) (d : Nat) : ∀ i : Int, 0 ≤ i → i ≤ s.size → (s.size : Int) - i = d → (∀ j : Nat, (j : Int) < i → okB (bt s (j : Int))) → EndsP (NP s) (fun k => taskmasterref4_one.l1 k s i) := by
  induction d with
  | zero =>
    intro i h0 h1 hd hall
    refine endsPStep (fun k => by rw [taskmasterref4_one.l1]) ?_
    exact endsPIf (fun h => absurd h (by omega)) (fun _ => one_j3 s i h0 h1 hall)
  | succ d ih =>
    intro i h0 h1 hd hall
    refine endsPStep (fun k => by rw [taskmasterref4_one.l1]) ?_
    have more : okB (bt s i) → EndsP (NP s) (fun k => taskmasterref4_one.l1 k s (wrap64 (i + 1))) := fun hok => by
      rw [w64 (by omega) (by omega)]; exact ih (i + 1) (by omega) (by omega) (by omega) (fun j hj => by
        by_cases q : (j : Int) = i
        · rw [q]; exact hok
        · exact hall j (by omega))
    refine endsPIf (fun _ => endsPIf (fun _ => ?_) (fun h => absurd h0 h)) (fun _ => one_j3 s i h0 h1 hall)
    refine endsPAt (small_eq (bt s i)) (endsPIf (fun hc => more (Or.inl (of_decide_eq_true hc))) (fun _ => ?_))
    exact endsPAt (digit_eq (bt s i)) (endsPIf (fun hc => more (Or.inr (Or.inl (of_decide_eq_true hc)))) (fun _ => endsPIf (fun hc => more (Or.inr (Or.inr hc))) (fun _ => one_j3 s i h0 h1 hall)))
theorem one_no (s : ByteArray) (i v : Int) (h0 : 0 < (s.size : Int)) : EndsP (NP s) (fun k => taskmasterref4_one.j1 k s i v false) := by
  refine endsPStep (fun k => by rw [taskmasterref4_one.j1]) ?_
  exact endsPIf (fun h => by cases h) (fun _ => endsPIf (fun _ => endsPNow _ (np_ne (by decide) _ _ _ _)) (fun _ => endsPIf (fun _ => endsPIf (fun _ => endsPIf (fun _ => endsPNow _ (np_ne (by decide) _ _ _ _)) (fun _ => endsPNow _ (np_ne (by decide) _ _ _ _))) (fun h => absurd h0 h)) (fun _ => endsPNow _ (np_ne (by decide) _ _ _ _))))
theorem one_l0 (s : ByteArray) (hs : s.size ≤ 9223372036854775807) (h00 : 0 < (s.size : Int)) (d : Nat) : ∀ i v : Int, 0 ≤ i → i ≤ s.size → (s.size : Int) - i = d → EndsP (NP s) (fun k => taskmasterref4_one.l0 k s i v) := by
  induction d with
  | zero =>
    intro i v h0 h1 hd
    refine endsPStep (fun k => by rw [taskmasterref4_one.l0]) ?_
    exact endsPIf (fun h => absurd h (by omega)) (fun _ => one_no s i v h00)
  | succ d ih =>
    intro i v h0 h1 hd
    refine endsPStep (fun k => by rw [taskmasterref4_one.l0]) ?_
    have more : ∀ v', EndsP (NP s) (fun k => taskmasterref4_one.l0 k s (wrap64 (i + 1)) v') := fun v' => by
      rw [w64 (by omega) (by omega)]; exact ih (i + 1) v' (by omega) (by omega) (by omega)
    refine endsPIf (fun hlt => endsPIf (fun _ => ?_) (fun h => absurd h0 h)) (fun _ => one_no s i v h00)
    refine endsPAt (digit_eq (bt s i)) ?_
    cases decide (48 ≤ bt s i ∧ bt s i ≤ 57) with
    | false => exact one_no s i v h00
    | true =>
      refine endsPStep (fun k => by rw [taskmasterref4_one.j1]) ?_
      exact endsPIf (fun _ => endsPIf (fun _ => endsPIf (fun _ => endsPIf (fun _ => more _) (fun h => absurd hlt h)) (fun h => absurd h0 h)) (fun _ => more _)) (fun h => absurd rfl h)
theorem one_ends (s : ByteArray) (hs : s.size ≤ 9223372036854775807) (h0 : 0 < (s.size : Int)) : EndsP (NP s) (fun k => taskmasterref4_one.f k s) := by
  unfold taskmasterref4_one.f
  refine endsPIf (fun _ => endsPIf (fun _ => endsPNow _ (np_ne (by decide) _ _ _ _)) (fun _ => ?_)) (fun h => absurd h0 h)
  refine endsPAt (digit_eq (bt s 0)) (endsPIf (fun _ => one_l0 s hs h0 s.size 0 0 (by omega) (by omega) (by omega)) (fun _ => ?_))
  exact endsPAt (small_eq (bt s 0)) (endsPIf (fun _ => one_l1 s hs s.size 0 (by omega) (by omega) (by omega) (fun j hj => absurd hj (by omega))) (fun _ => endsPNow _ (np_ne (by decide) _ _ _ _)))
theorem name_ends (s : ByteArray) (hs : s.size ≤ 9223372036854775807) : ∃ b, Ev (fun k => taskmasterref4_Name.f k s) b ∧ (b = true → NameB s) := by
  unfold taskmasterref4_Name.f
  by_cases hz : (s.size : Int) = 0
  · exact ⟨false, evp hz (Ev.now _), fun h => by cases h⟩
  have h0 : 0 < (s.size : Int) := by omega
  obtain ⟨r, e, p⟩ := one_ends s hs h0
  by_cases hsm : (decide (97 ≤ bt s 0 ∧ bt s 0 ≤ 122)) = true
  · by_cases hn : r.2.2.2.2 = (s.size : Int)
    · refine ⟨r.1 == 1, evn hz (evp h0 (evb (small_eq _) (evp hsm (Ev.bind e (evp hn (Ev.now _)))))), fun h => p (by simpa using h) hn⟩
    · exact ⟨false, evn hz (evp h0 (evb (small_eq _) (evp hsm (Ev.bind e (evn hn (Ev.now _)))))), fun h => by cases h⟩
  · exact ⟨false, evn hz (evp h0 (evb (small_eq _) (evn hsm (Ev.now _)))), fun h => by cases h⟩
def sum : List Int → Int
  | [] => 0
  | x :: l => x + sum l
theorem rd_drop {l : List Int} {i : Nat} (h : i < l.length) : l.drop i = rd l (i : Int) :: l.drop (i + 1) := by
  rw [List.drop_eq_getElem_cons h]; unfold rd
  rw [Int.toNat_natCast, List.getD_eq_getElem?_getD, List.getElem?_eq_getElem h]; rfl
theorem in_eq (n a b : Int) : taskmasterref5_in.f n a b = some (decide (a ≤ n ∧ n ≤ b)) := by
  unfold taskmasterref5_in.f
  by_cases h : a ≤ n
  · rw [if_pos (show n ≥ a from h)]; simp [h]
  · rw [if_neg (show ¬ n ≥ a from h)]; simp [h]
theorem sum_bound {l : List Int} (h : ∀ x ∈ l, 1 ≤ x ∧ x ≤ 10000) : (l.length : Int) ≤ sum l ∧ sum l ≤ 10000 * l.length := by
  induction l with
  | nil => simp [sum]
  | cons x l ih =>
    have h1 := ih (fun y hy => h y (List.mem_cons_of_mem _ hy))
    have h2 := h x List.mem_cons_self
    simp only [sum, List.length_cons, Int.natCast_add, Int.natCast_one]
    omega
theorem work_loop (s : ByteArray) (a1 a2 a3 a4 a5 : Int) (l : List Int) (a7 a8 : Int) (hl : l.length ≤ 8) (h : ∀ x ∈ l, 1 ≤ x ∧ x ≤ 10000) (d : Nat) : ∀ (k i : Nat) (acc : Int), i + d = l.length → d < k → 0 ≤ acc → acc ≤ 10000 * i →
    taskmasterref5_Work.l0 k acc (i : Int) s a1 a2 a3 a4 a5 l a7 a8 = some (acc + sum (l.drop i)) := by
  induction d with
  | zero =>
    intro k i acc hi hk h0 h1
    obtain ⟨k, rfl⟩ : ∃ m, k = m + 1 := ⟨k - 1, by omega⟩
    simp only [taskmasterref5_Work.l0]
    rw [if_neg (by omega), List.drop_eq_nil_of_le (by omega)]; simp [sum]
  | succ d ih =>
    intro k i acc hi hk h0 h1
    obtain ⟨k, rfl⟩ : ∃ m, k = m + 1 := ⟨k - 1, by omega⟩
    have hlt : i < l.length := by omega
    have hm : rd l (i : Int) ∈ l := by
      unfold rd; rw [Int.toNat_natCast, List.getD_eq_getElem?_getD, List.getElem?_eq_getElem hlt]; exact List.getElem_mem hlt
    have hx := h _ hm
    simp only [taskmasterref5_Work.l0]
    rw [if_pos (by omega), if_pos (by omega), w64 (n := acc + rd l (i : Int)) (by omega) (by omega), w64 (n := (i : Int) + 1) (by omega) (by omega), rd_drop hlt]
    have := ih k (i + 1) (acc + rd l (i : Int)) (by omega) (by omega) (by omega) (by omega)
    rw [show ((i + 1 : Nat) : Int) = (i : Int) + 1 by omega] at this
    rw [this]
    simp only [sum]
    rw [Int.add_assoc]
theorem work_eq (s : ByteArray) (a1 a2 a3 a4 a5 : Int) (l : List Int) (a7 a8 : Int) (hl : l.length ≤ 8) (h : ∀ x ∈ l, 1 ≤ x ∧ x ≤ 10000) (k : Nat) (hk : 8 < k) : taskmasterref5_Work.f k s a1 a2 a3 a4 a5 l a7 a8 = some (sum l) := by
  unfold taskmasterref5_Work.f
  have := work_loop s a1 a2 a3 a4 a5 l a7 a8 hl h l.length k 0 0 (by omega) (by omega) (by omega) (by omega)
  rw [List.drop_zero, Int.zero_add] at this
  exact this
def TaskOK (x : S30) (p : Int) : Prop :=
  NameB x.f0 ∧ 1 ≤ x.f6.length ∧ x.f6.length ≤ 8 ∧ Go.bits .andNot .u64 x.f8 x.f7 = 0 ∧ (∀ r ∈ x.f6, 1 ≤ r ∧ r ≤ 10000) ∧ sum x.f6 ≤ x.f2 ∧ x.f2 ≤ x.f1 ∧ x.f1 ≤ 10000 ∧
  ((x.f3 = 0 ∧ x.f4 = 0 ∧ x.f5 = 0) ∨ (x.f3 = 1 ∧ 0 ≤ x.f4 ∧ x.f4 ≤ 10000 ∧ x.f5 = 0) ∨ (x.f3 = 2 ∧ x.f4 = 0 ∧ 0 ≤ x.f5 ∧ x.f5 ≤ p))
theorem is_loop (x : S30) (p : Int) (hN : NameB x.f0) (h1 : 1 ≤ x.f6.length) (h8 : x.f6.length ≤ 8) (hb : Go.bits .andNot .u64 x.f8 x.f7 = 0) (d : Nat) : ∀ i : Nat, i + d = x.f6.length → (∀ j : Nat, j < i → 1 ≤ rd x.f6 (j : Int) ∧ rd x.f6 (j : Int) ≤ 10000) →
    ∃ b, Ev (fun k => taskmasterref5_Is.l0 k p (i : Int) x.f0 x.f1 x.f2 x.f3 x.f4 x.f5 x.f6 x.f7 x.f8) b ∧ (b = true → TaskOK x p) := by
  induction d with
  | zero =>
    intro i hi hall
    have hr : ∀ r ∈ x.f6, 1 ≤ r ∧ r ≤ 10000 := fun r hm => by
      obtain ⟨j, hj, rfl⟩ := List.mem_iff_getElem.1 hm
      have := hall j (by omega)
      unfold rd at this
      rw [Int.toNat_natCast, List.getD_eq_getElem?_getD, List.getElem?_eq_getElem hj] at this
      exact this
    have hw : Ev (fun k => taskmasterref5_Work.f k x.f0 x.f1 x.f2 x.f3 x.f4 x.f5 x.f6 x.f7 x.f8) (sum x.f6) := ⟨9, fun k hk => work_eq _ _ _ _ _ _ _ _ _ h8 hr k (by omega)⟩
    have no : Ev (fun k => taskmasterref5_Is.j2 k p true x.f0 x.f1 x.f2 x.f3 x.f4 x.f5 x.f6 x.f7 x.f8) false := Ev.step (fun k => by rw [taskmasterref5_Is.j2, if_pos rfl]) (Ev.now false)
    by_cases c1 : sum x.f6 > x.f2
    · refine ⟨false, Ev.step (fun k => by rw [taskmasterref5_Is.l0]) (evn (by omega) (Ev.bind hw (evp c1 no))), fun h => by cases h⟩
    · by_cases c2 : x.f2 > x.f1
      · refine ⟨false, Ev.step (fun k => by rw [taskmasterref5_Is.l0]) (evn (by omega) (Ev.bind hw (evn c1 (evp c2 no)))), fun h => by cases h⟩
      · by_cases c3 : x.f1 > 10000
        · refine ⟨false, Ev.step (fun k => by rw [taskmasterref5_Is.l0]) (evn (by omega) (Ev.bind hw (evn c1 (evn c2 ?_)))), fun h => by cases h⟩
          rw [decide_eq_true c3]; exact no
        · have base : ∀ {b : Bool}, Ev (fun k => taskmasterref5_Is.j2 k p false x.f0 x.f1 x.f2 x.f3 x.f4 x.f5 x.f6 x.f7 x.f8) b → Ev (fun k => taskmasterref5_Is.l0 k p (i : Int) x.f0 x.f1 x.f2 x.f3 x.f4 x.f5 x.f6 x.f7 x.f8) b := fun hb => by
            refine Ev.step (fun k => by rw [taskmasterref5_Is.l0]) (evn (by omega) (Ev.bind hw (evn c1 (evn c2 ?_))))
            rw [decide_eq_false c3]; exact hb
          have ok : ∀ (_ : (x.f3 = 0 ∧ x.f4 = 0 ∧ x.f5 = 0) ∨ (x.f3 = 1 ∧ 0 ≤ x.f4 ∧ x.f4 ≤ 10000 ∧ x.f5 = 0) ∨ (x.f3 = 2 ∧ x.f4 = 0 ∧ 0 ≤ x.f5 ∧ x.f5 ≤ p)), TaskOK x p := fun hm => ⟨hN, h1, h8, hb, hr, by omega, by omega, by omega, hm⟩
          by_cases m0 : x.f3 = 0
          · by_cases q0 : x.f4 = 0
            · refine ⟨x.f5 == 0, base (Ev.step (fun k => by rw [taskmasterref5_Is.j2, if_neg (by simp), if_pos m0, if_pos q0]) (Ev.now _)), fun h => ok (Or.inl ⟨m0, q0, by simpa using h⟩)⟩
            · exact ⟨false, base (Ev.step (fun k => by rw [taskmasterref5_Is.j2, if_neg (by simp), if_pos m0, if_neg q0]) (Ev.now _)), fun h => by cases h⟩
          · by_cases m1 : x.f3 = 1
            · by_cases q0 : 0 ≤ x.f4 ∧ x.f4 ≤ 10000
              · refine ⟨x.f5 == 0, base (Ev.step (fun k => by rw [taskmasterref5_Is.j2, if_neg (by simp), if_neg m0, if_pos m1, in_eq, decide_eq_true q0, Option.bind_some, if_pos rfl]) (Ev.now _)), fun h => ok (Or.inr (Or.inl ⟨m1, q0.1, q0.2, by simpa using h⟩))⟩
              · exact ⟨false, base (Ev.step (fun k => by rw [taskmasterref5_Is.j2, if_neg (by simp), if_neg m0, if_pos m1, in_eq, decide_eq_false q0, Option.bind_some, if_neg (by simp)]) (Ev.now _)), fun h => by cases h⟩
            · by_cases m2 : x.f3 = 2
              · by_cases q0 : x.f4 = 0
                · by_cases t0 : x.f5 ≥ 0
                  · refine ⟨decide (x.f5 ≤ p), base (Ev.step (fun k => by rw [taskmasterref5_Is.j2, if_neg (by simp), if_neg m0, if_neg m1, if_pos m2, if_pos q0, if_pos t0]) (Ev.now _)), fun h => ok (Or.inr (Or.inr ⟨m2, q0, t0, of_decide_eq_true h⟩))⟩
                  · exact ⟨false, base (Ev.step (fun k => by rw [taskmasterref5_Is.j2, if_neg (by simp), if_neg m0, if_neg m1, if_pos m2, if_pos q0, if_neg t0]) (Ev.now _)), fun h => by cases h⟩
                · exact ⟨false, base (Ev.step (fun k => by rw [taskmasterref5_Is.j2, if_neg (by simp), if_neg m0, if_neg m1, if_pos m2, if_neg q0]) (Ev.now _)), fun h => by cases h⟩
              · exact ⟨false, base (Ev.step (fun k => by rw [taskmasterref5_Is.j2, if_neg (by simp), if_neg m0, if_neg m1, if_neg m2]) (Ev.now _)), fun h => by cases h⟩
  | succ d ih =>
    intro i hi hall
    by_cases c : 1 ≤ rd x.f6 (i : Int) ∧ rd x.f6 (i : Int) ≤ 10000
    · obtain ⟨b, e, hb'⟩ := ih (i + 1) (by omega) (fun j hj => by
        by_cases hji : j = i
        · subst hji; exact c
        · exact hall j (by omega))
      refine ⟨b, Ev.step (fun k => by rw [taskmasterref5_Is.l0]) (evp (by omega) (evp (by omega) (evb (in_eq _ _ _) (evp (decide_eq_true c) ?_)))), hb'⟩
      rw [w64 (by omega) (by omega)]; exact e
    · have hc : ¬ (decide (1 ≤ rd x.f6 (i : Int) ∧ rd x.f6 (i : Int) ≤ 10000) = true) := fun h => c (of_decide_eq_true h)
      exact ⟨false, Ev.step (fun k => by rw [taskmasterref5_Is.l0]) (evp (by omega) (evp (by omega) (evb (in_eq _ _ _) (evn hc (Ev.now false))))), fun h => by cases h⟩
theorem is_ends (x : S30) (p : Int) (hs : x.f0.size ≤ 9223372036854775807) : ∃ b, Ev (fun k => taskmasterref5_Is.f k x.f0 x.f1 x.f2 x.f3 x.f4 x.f5 x.f6 x.f7 x.f8 p) b ∧ (b = true → TaskOK x p) := by
  unfold taskmasterref5_Is.f
  obtain ⟨n, hn, hN⟩ := name_ends x.f0 hs
  have no : Ev (fun k => taskmasterref5_Is.j0 k p true x.f0 x.f1 x.f2 x.f3 x.f4 x.f5 x.f6 x.f7 x.f8) false := Ev.step (fun k => by rw [taskmasterref5_Is.j0, if_pos rfl]) (Ev.now false)
  by_cases c0 : n = true
  · by_cases c1 : (x.f6.length : Int) < 1
    · exact ⟨false, Ev.bind hn (evp c0 (evp c1 no)), fun h => by cases h⟩
    · by_cases c2 : (x.f6.length : Int) > 8
      · exact ⟨false, Ev.bind hn (evp c0 (evn c1 (evp c2 no))), fun h => by cases h⟩
      · by_cases c3 : Go.bits .andNot .u64 x.f8 x.f7 = 0
        · obtain ⟨b, e, hb⟩ := is_loop x p (hN c0) (by omega) (by omega) c3 x.f6.length 0 (by omega) (fun j hj => absurd hj (Nat.not_lt_zero _))
          refine ⟨b, Ev.bind hn (evp c0 (evn c1 (evn c2 (Ev.step (fun k => by rw [taskmasterref5_Is.j0, if_neg (by rw [c3]; simp)]; rfl) e)))), hb⟩
        · refine ⟨false, Ev.bind hn (evp c0 (evn c1 (evn c2 ?_))), fun h => by cases h⟩
          rw [show (Go.bits .andNot .u64 x.f8 x.f7 != 0) = true by simpa using c3]; exact no
  · exact ⟨false, Ev.bind hn (evn c0 no), fun h => by cases h⟩
def SetOK (r : Int) (l : List S30) : Prop := 0 ≤ r ∧ r ≤ 10000 ∧ 1 ≤ l.length ∧ l.length ≤ 8 ∧ ∀ i : Int, 0 ≤ i → i < l.length → TaskOK (rd_T30 l i) i
theorem all_loops (r : Int) (l : List S30) (h0 : 0 ≤ r) (h1 : r ≤ 10000) (h2 : 1 ≤ l.length) (h8 : l.length ≤ 8) (hs : ∀ y ∈ l, y.f0.size ≤ 9223372036854775807) (d : Nat) : ∀ i : Nat, i + d = l.length → (∀ j : Int, 0 ≤ j → j < i → TaskOK (rd_T30 l j) j) →
    ∃ b, Ev (fun k => taskmasterref5_All.l0 k (i : Int) r l) b ∧ (b = true → SetOK r l) := by
  induction d with
  | zero =>
    intro i hi hall
    exact ⟨true, Ev.step (fun k => by rw [taskmasterref5_All.l0]) (evn (by omega) (Ev.now true)), fun _ => ⟨h0, h1, h2, h8, fun j a b => hall j a (by omega)⟩⟩
  | succ d ih =>
    intro i hi hall
    have hlt : i < l.length := by omega
    have hm : rd_T30 l (i : Int) ∈ l := by
      unfold rd_T30; rw [Int.toNat_natCast, List.getD_eq_getElem?_getD, List.getElem?_eq_getElem hlt]; exact List.getElem_mem hlt
    obtain ⟨t, ht, hok⟩ := is_ends (rd_T30 l (i : Int)) (i : Int) (hs _ hm)
    by_cases c : t = true
    · obtain ⟨b, e, hb⟩ := ih (i + 1) (by omega) (fun j a q => by
        by_cases hji : j = i
        · subst hji; exact hok c
        · exact hall j a (by omega))
      have inner : ∀ d' j : Nat, j + d' = i → ∃ b', Ev (fun k => taskmasterref5_All.l1 k (i : Int) (j : Int) r l) b' ∧ (b' = true → SetOK r l) := by
        intro d'
        induction d' with
        | zero =>
          intro j hj
          refine ⟨b, Ev.step (fun k => by rw [taskmasterref5_All.l1]) (evn (by omega) ?_), hb⟩
          rw [w64 (by omega) (by omega)]; exact e
        | succ d' ih' =>
          intro j hj
          by_cases q : ((rd_T30 l (j : Int)).f0).toList = ((rd_T30 l (i : Int)).f0).toList
          · exact ⟨false, Ev.step (fun k => by rw [taskmasterref5_All.l1]) (evp (by omega) (evp (by omega) (evp (by omega) (evp (by omega) (evp (by omega) (evp q (Ev.now false))))))), fun h => by cases h⟩
          · obtain ⟨b', e', hb'⟩ := ih' (j + 1) (by omega)
            refine ⟨b', Ev.step (fun k => by rw [taskmasterref5_All.l1]) (evp (by omega) (evp (by omega) (evp (by omega) (evp (by omega) (evp (by omega) (evn q ?_)))))), hb'⟩
            rw [w64 (by omega) (by omega)]; exact e'
      obtain ⟨b', e', hb'⟩ := inner i 0 (by omega)
      exact ⟨b', Ev.step (fun k => by rw [taskmasterref5_All.l0]) (evp (by omega) (evp (by omega) (Ev.bind ht (evp c e')))), hb'⟩
    · exact ⟨false, Ev.step (fun k => by rw [taskmasterref5_All.l0]) (evp (by omega) (evp (by omega) (Ev.bind ht (evn c (Ev.now false))))), fun h => by cases h⟩
theorem all_ends (r : Int) (l : List S30) (hs : ∀ y ∈ l, y.f0.size ≤ 9223372036854775807) : ∃ b, Ev (fun k => taskmasterref5_All.f k r l) b ∧ (b = true → SetOK r l) := by
  unfold taskmasterref5_All.f
  have no : Ev (fun k => taskmasterref5_All.j0 k true r l) false := Ev.step (fun k => by rw [taskmasterref5_All.j0, if_pos rfl]) (Ev.now false)
  by_cases c0 : 0 ≤ r ∧ r ≤ 10000
  · by_cases c1 : (l.length : Int) < 1
    · exact ⟨false, evb (in_eq _ _ _) (evp (decide_eq_true c0) (evp c1 no)), fun h => by cases h⟩
    · by_cases c2 : (l.length : Int) > 8
      · refine ⟨false, evb (in_eq _ _ _) (evp (decide_eq_true c0) (evn c1 ?_)), fun h => by cases h⟩
        rw [decide_eq_true c2]; exact no
      · obtain ⟨b, e, hb⟩ := all_loops r l c0.1 c0.2 (by omega) (by omega) hs l.length 0 (by omega) (fun j a q => absurd q (by omega))
        refine ⟨b, evb (in_eq _ _ _) (evp (decide_eq_true c0) (evn c1 ?_)), hb⟩
        rw [decide_eq_false c2]
        exact Ev.step (fun k => by rw [taskmasterref5_All.j0, if_neg (by simp)]; rfl) e
  · have hc : ¬ (decide (0 ≤ r ∧ r ≤ 10000) = true) := fun h => c0 (of_decide_eq_true h)
    exact ⟨false, evb (in_eq _ _ _) (evn hc no), fun h => by cases h⟩
end Go.Proofs.YtkdndgclldlddaaDoor.RefSetN
namespace Go.Proofs.YtkdndgclldlddaaDoor.Pure
open Go.RowKit Go.Proofs.YtkdndgclldlddaaDoor.QSb Go.Proofs.YtkdndgclldlddaaDoorW.PrintWords Go.Proofs.YtkdndgclldlddaaDoorW.PrintLast Go.Proofs.YtkdndgclldlddaaDoorW.PrintMore
set_option linter.unusedVariables false
set_option linter.unusedSimpArgs false
def B (l : List UInt8) : ByteArray := ⟨l.toArray⟩
theorem B_app (a b : List UInt8) : B a ++ B b = B (a ++ b) := by
  apply ByteArray.ext
  simp [B]
theorem B_size (a : List UInt8) : (B a).size = a.length := by simp [B, ByteArray.size]
theorem B_of (s : ByteArray) : s = B s.data.toList := rfl
theorem size_of (s : ByteArray) : s.data.toList.length = s.size := Array.length_toList
theorem dd_len (u : Nat) (h : u < 18446744073709551616) : (Lib.decDigits u).length ≤ 20 := by rw [Lib.decDigits_length]; exact Lib.nDigits_le20 u h
theorem itoa_nat (n : Nat) : Lib.itoa (n : Int) = Lib.decDigits n := by unfold Lib.itoa; rw [if_neg (by omega)]; simp
theorem num_eq {n : Int} (h0 : 0 ≤ n) (h1 : n ≤ 9223372036854775807) : show_num.f n = some (B (Lib.itoa n)) := by
  unfold show_num.f strconv_FormatInt_49.f
  rw [if_pos ⟨rfl, by omega, h1⟩]; rfl
theorem it_len {n : Int} (h0 : 0 ≤ n) (h1 : n ≤ 9223372036854775807) : (Lib.itoa n).length ≤ 20 := by
  obtain ⟨m, rfl⟩ := Int.eq_ofNat_of_zero_le h0
  rw [itoa_nat]; exact dd_len m (by omega)
def tl (r : List (List UInt8)) : List UInt8 := (r.map ([32] ++ ·)).flatten
theorem tl_join (x : List UInt8) (r : List (List UInt8)) : Lib.join (x :: r) [32] = x ++ tl r := Lib.join_cons x r [32]
theorem tl_app (a b : List (List UInt8)) : tl (a ++ b) = tl a ++ tl b := by simp [tl]
theorem tl_cons (x : List UInt8) (r : List (List UInt8)) : tl (x :: r) = 32 :: (x ++ tl r) := by simp [tl]
theorem tl_nil : tl [] = [] := rfl
theorem tl_len (r : List (List UInt8)) (h : ∀ x ∈ r, x.length ≤ 30) : (tl r).length ≤ 31 * r.length := by
  induction r with
  | nil => simp [tl]
  | cons x r ih =>
    rw [tl_cons, List.length_cons, List.length_append, List.length_cons]
    have := h x List.mem_cons_self
    have := ih (fun y hy => h y (List.mem_cons_of_mem _ hy))
    omega
def setL (w : List UInt8) (x : Nat) : List (List UInt8) := if x = 0 then [] else w :: (listFrom x 64 0).map Lib.itoa
theorem mem_list (s : Nat) : ∀ (d i : Nat) (x : Int), x ∈ listFrom s d i → 0 ≤ x ∧ x < ((i + d : Nat) : Int)
  | 0, i, x, h => by cases h
  | d + 1, i, x, h => by
    unfold listFrom at h
    split at h
    · rcases List.mem_cons.mp h with rfl | h
      · omega
      · have := mem_list s d (i + 1) x h; omega
    · have := mem_list s d (i + 1) x h; omega
theorem sets_loop (l : List Int) (hl : l.length ≤ 64) (hm : ∀ x ∈ l, 0 ≤ x ∧ x < 64) (d : Nat) : ∀ (i : Nat) (acc : List ByteArray), i + d = l.length → acc.length ≤ i + 1 → Ev (fun k => show_sets.l0 k acc l (l.length : Int) (i : Int)) (acc ++ (l.drop i).map (fun x => B (Lib.itoa x))) := by
  induction d with
  | zero =>
    intro i acc hi ha
    refine Ev.step (fun k => by rw [show_sets.l0]) (evn (by omega) ?_)
    rw [List.drop_eq_nil_of_le (by omega), List.map_nil, List.append_nil]
    exact Ev.now _
  | succ d ih =>
    intro i acc hi ha
    have hil : i < l.length := by omega
    have hx := hm (rd l (i : Int)) (List.mem_of_mem_drop (i := i) (by rw [rd_drop hil]; exact List.mem_cons_self))
    refine Ev.step (fun k => by rw [show_sets.l0]) (evp (by omega) (evp (by omega) (evp (by omega) ?_)))
    refine evb (num_eq hx.1 (by omega)) (evp (by omega) ?_)
    rw [wi (by omega), rd_drop hil, List.map_cons]
    have := ih (i + 1) (acc ++ [B (Lib.itoa (rd l (i : Int)))]) (by omega) (by rw [List.length_append, List.length_singleton]; omega)
    rw [List.append_assoc] at this
    exact this
theorem sets_ev (w : List UInt8) {x : Nat} (hx : x < 18446744073709551616) : Ev (fun k => show_sets.f k (B w) (x : Int)) ((setL w x).map B) := by
  unfold show_sets.f setL
  by_cases h : x = 0
  · subst h; exact evp rfl (Ev.now _)
  · rw [if_neg h]
    refine evn (by omega) (Ev.bind (blist_ev hx) ?_)
    have := sets_loop (listFrom x 64 0) (listFrom_le x 64 0) (fun y hy => by have := mem_list x 64 0 y hy; omega) (listFrom x 64 0).length 0 [B w] (by omega) (by simp)
    rw [List.drop_zero] at this
    rw [List.map_cons, List.map_map]
    exact this
theorem setL_len (w : List UInt8) (x : Nat) : (setL w x).length ≤ 65 := by
  unfold setL
  split
  · simp
  · rw [List.length_cons, List.length_map]; have := listFrom_le x 64 0; omega
theorem setL_mem {w : List UInt8} (hw : w.length ≤ 10) (x : Nat) : ∀ y ∈ setL w x, y.length ≤ 30 := by
  intro y hy
  unfold setL at hy
  split at hy
  · cases hy
  · rcases List.mem_cons.mp hy with rfl | hy
    · omega
    · obtain ⟨z, hz, rfl⟩ := List.mem_map.mp hy
      have := mem_list x 64 0 z hz
      have := it_len (n := z) this.1 (by omega)
      omega
abbrev Tk := S30
abbrev rdT (l : List Tk) (i : Int) : Tk := rd_T30 l i
def TB (x : Tk) : Prop := x.f0.size ≤ 12 ∧ (0 ≤ x.f1 ∧ x.f1 ≤ 10000) ∧ (0 ≤ x.f2 ∧ x.f2 ≤ 10000) ∧ (x.f3 = 0 ∨ (x.f3 = 1 ∧ 0 ≤ x.f4 ∧ x.f4 ≤ 10000) ∨ (x.f3 = 2 ∧ 0 ≤ x.f5 ∧ x.f5 ≤ 10000)) ∧ x.f6.length ≤ 8 ∧ (∀ r ∈ x.f6, 1 ≤ r ∧ r ≤ 10000) ∧
  (0 ≤ x.f7 ∧ x.f7 < 18446744073709551616) ∧ (0 ≤ x.f8 ∧ x.f8 < 18446744073709551616)
def wTask : List UInt8 := [116, 97, 115, 107]
def wPeriod : List UInt8 := [112, 101, 114, 105, 111, 100]
def wDeadline : List UInt8 := [100, 101, 97, 100, 108, 105, 110, 101]
def wRegions : List UInt8 := [114, 101, 103, 105, 111, 110, 115]
def wEcb : List UInt8 := [101, 99, 98]
def wUcb : List UInt8 := [117, 99, 98]
def wFixed : List UInt8 := [102, 105, 120, 101, 100]
def wFloat : List UInt8 := [102, 108, 111, 97, 116]
def wThresh : List UInt8 := [116, 104, 114, 101, 115, 104]
def modeL (x : Tk) : List UInt8 := if x.f3 = 1 then wFloat ++ 32 :: Lib.itoa x.f4 else if x.f3 = 2 then wThresh ++ 32 :: Lib.itoa x.f5 else wFixed
def headL (x : Tk) : List (List UInt8) := [x.f0.data.toList, wPeriod, Lib.itoa x.f1, wDeadline, Lib.itoa x.f2, modeL x]
def restL (x : Tk) : List (List UInt8) := x.f6.map Lib.itoa ++ setL wEcb x.f7.toNat ++ setL wUcb x.f8.toNat
def taskL (x : Tk) : List UInt8 := wTask ++ tl (headL x) ++ tl [wRegions] ++ tl (restL x) ++ [59]
theorem mode_len {x : Tk} (h : TB x) : (modeL x).length ≤ 27 := by
  unfold modeL
  obtain ⟨_, _, _, hm, _⟩ := h
  rcases hm with hm | hm | hm
  · rw [hm, if_neg (by decide), if_neg (by decide)]; decide
  · rw [if_pos hm.1]; have := it_len hm.2.1 (by omega); simp [wFloat]; omega
  · rw [hm.1, if_neg (by decide), if_pos rfl]; have := it_len hm.2.1 (by omega); simp [wThresh]; omega
theorem head_mem {x : Tk} (h : TB x) : ∀ y ∈ headL x, y.length ≤ 30 := by
  have hm := mode_len h
  have h1 := it_len h.2.1.1 (by have := h.2.1.2; omega)
  have h2 := it_len h.2.2.1.1 (by have := h.2.2.1.2; omega)
  have h0 := h.1
  rw [← size_of] at h0
  intro y hy
  simp only [headL, List.mem_cons, List.not_mem_nil, or_false] at hy
  rcases hy with rfl | rfl | rfl | rfl | rfl | rfl
  · omega
  · decide
  · omega
  · decide
  · omega
  · omega
theorem reg_mem {x : Tk} (h : TB x) : ∀ y ∈ x.f6.map Lib.itoa, y.length ≤ 30 := by
  intro y hy
  obtain ⟨r, hr, rfl⟩ := List.mem_map.mp hy
  have := h.2.2.2.2.2.1 r hr
  have := it_len (n := r) (by omega) (by omega)
  omega
theorem rest_mem {x : Tk} (h : TB x) : ∀ y ∈ restL x, y.length ≤ 30 := by
  intro y hy
  simp only [restL, List.mem_append] at hy
  rcases hy with (hy | hy) | hy
  · exact reg_mem h y hy
  · exact setL_mem (by decide) _ y hy
  · exact setL_mem (by decide) _ y hy
theorem rest_len {x : Tk} (h : TB x) : (restL x).length ≤ 138 := by
  have h1 := setL_len wEcb x.f7.toNat
  have h2 := setL_len wUcb x.f8.toNat
  have h3 := h.2.2.2.2.1
  simp only [restL, List.length_append, List.length_map]
  omega
theorem task_len {x : Tk} (h : TB x) : (taskL x).length ≤ 6000 := by
  have h1 := tl_len _ (head_mem h)
  have h2 := tl_len _ (rest_mem h)
  have h3 := rest_len h
  have h4 : (headL x).length = 6 := rfl
  have h5 : (tl [wRegions]).length = 8 := rfl
  have h6 : wTask.length = 4 := rfl
  simp only [taskL, List.length_append, h5, h6, List.length_singleton]
  omega
theorem mode_eq {x : Tk} (h : TB x) : show_mode.f x.f0 x.f1 x.f2 x.f3 x.f4 x.f5 x.f6 x.f7 x.f8 = some (B (modeL x)) := by
  unfold show_mode.f modeL
  obtain ⟨_, _, _, hm, _⟩ := h
  rcases hm with hm | hm | hm
  · rw [hm, if_neg (by decide), if_neg (by decide), if_neg (by decide), if_neg (by decide)]; rfl
  · have hl := it_len hm.2.1 (by omega)
    rw [if_pos hm.1, if_pos hm.1, num_eq hm.2.1 (by omega), Option.bind_some, if_pos (by rw [B_size]; omega), show (⟨#[102, 108, 111, 97, 116, 32]⟩ : ByteArray) = B [102, 108, 111, 97, 116, 32] from rfl, B_app]
    rfl
  · have hl := it_len hm.2.1 (by omega)
    rw [hm.1, if_neg (by decide), if_pos rfl, num_eq hm.2.1 (by omega), Option.bind_some, if_pos (by rw [B_size]; omega), if_neg (by decide), if_pos rfl, show (⟨#[116, 104, 114, 101, 115, 104, 32]⟩ : ByteArray) = B [116, 104, 114, 101, 115, 104, 32] from rfl, B_app]
    rfl
theorem map_data (m : List (List UInt8)) : (m.map B).map (fun x => x.data.toList) = m := by
  rw [List.map_map]
  conv => rhs; rw [← List.map_id m]
  rfl
theorem join_eq (m : List (List UInt8)) (hm : ∀ y ∈ m, y.length ≤ 30) (hl : m.length ≤ 1000) : strings_Join.f ((wTask :: m).map B) (⟨#[32]⟩ : ByteArray) = some (B (wTask ++ tl m)) := by
  unfold strings_Join.f
  have h1 := tl_len m hm
  have e : Lib.join (((wTask :: m).map B).map (fun x => x.data.toList)) ((⟨#[32]⟩ : ByteArray).data.toList) = wTask ++ tl m := by
    rw [map_data]; exact tl_join wTask m
  rw [e, if_pos ⟨by simp, by rw [List.length_map, List.length_cons]; omega, by rw [List.length_append]; have : wTask.length = 4 := rfl; omega⟩]
  rfl
theorem task_loop {x : Tk} (h : TB x) (d : Nat) : ∀ (i : Nat) (m : List (List UInt8)), i + d = x.f6.length → m.length ≤ 8 + i → (∀ y ∈ m, y.length ≤ 30) →
    Ev (fun k => show_Task.l0 k ((wTask :: m).map B) x.f6 (x.f6.length : Int) (i : Int) x.f0 x.f1 x.f2 x.f3 x.f4 x.f5 x.f6 x.f7 x.f8) (B (wTask ++ tl (m ++ ((x.f6.drop i).map Lib.itoa ++ setL wEcb x.f7.toNat ++ setL wUcb x.f8.toNat)) ++ [59])) := by
  have h8 := h.2.2.2.2.1
  have h7 := h.2.2.2.2.2.2
  induction d with
  | zero =>
    intro i m hi hm hy
    refine Ev.step (fun k => by rw [show_Task.l0]) (evn (by omega) ?_)
    have he := sets_ev wEcb (x := x.f7.toNat) (by omega)
    have hu := sets_ev wUcb (x := x.f8.toNat) (by omega)
    rw [Int.toNat_of_nonneg h7.1.1] at he
    rw [Int.toNat_of_nonneg h7.2.1] at hu
    have l1 := setL_len wEcb x.f7.toNat
    have l2 := setL_len wUcb x.f8.toNat
    refine Ev.bind he (evp (by simp only [List.length_map, List.length_cons]; omega) (evb rfl ?_))
    refine Ev.bind hu (evp (by simp only [List.length_append, List.length_map, List.length_cons]; omega) ?_)
    rw [← List.map_append, ← List.map_append]
    have hj := join_eq (m ++ setL wEcb x.f7.toNat ++ setL wUcb x.f8.toNat) (fun y hm' => by
      simp only [List.mem_append] at hm'
      rcases hm' with (hm' | hm') | hm'
      · exact hy y hm'
      · exact setL_mem (by decide) _ y hm'
      · exact setL_mem (by decide) _ y hm') (by simp only [List.length_append]; omega)
    refine evb hj ?_
    have hl := tl_len (m ++ setL wEcb x.f7.toNat ++ setL wUcb x.f8.toNat) (fun y hm' => by
      simp only [List.mem_append] at hm'
      rcases hm' with (hm' | hm') | hm'
      · exact hy y hm'
      · exact setL_mem (by decide) _ y hm'
      · exact setL_mem (by decide) _ y hm')
    refine evp (by rw [B_size]; simp only [List.length_append] at hl ⊢; have : wTask.length = 4 := rfl; omega) ?_
    rw [show (⟨#[59]⟩ : ByteArray) = B [59] from rfl, B_app, List.drop_eq_nil_of_le (by omega), List.map_nil, List.nil_append, List.append_assoc m]
    exact Ev.now _
  | succ d ih =>
    intro i m hi hm hy
    have hil : i < x.f6.length := by omega
    have hr := h.2.2.2.2.2.1 (rd x.f6 (i : Int)) (List.mem_of_mem_drop (i := i) (by rw [rd_drop hil]; exact List.mem_cons_self))
    refine Ev.step (fun k => by rw [show_Task.l0]) (evp (by omega) (evp (by omega) (evp (by omega) ?_)))
    refine evb (num_eq (n := rd x.f6 (i : Int)) (by omega) (by omega)) (evp (by simp only [List.length_map, List.length_cons]; omega) ?_)
    rw [wi (by omega), rd_drop hil, List.map_cons]
    have hl := it_len (n := rd x.f6 (i : Int)) (by omega) (by omega)
    have := ih (i + 1) (m ++ [Lib.itoa (rd x.f6 (i : Int))]) (by omega) (by rw [List.length_append, List.length_singleton]; omega) (fun y hm' => by
      rcases List.mem_append.mp hm' with hm' | hm'
      · exact hy y hm'
      · rw [List.mem_singleton.mp hm']; omega)
    rw [← List.cons_append, List.map_append, List.append_assoc m] at this
    exact this
theorem task_ev {x : Tk} (h : TB x) : Ev (fun k => show_Task.f k x.f0 x.f1 x.f2 x.f3 x.f4 x.f5 x.f6 x.f7 x.f8) (B (taskL x)) := by
  unfold show_Task.f
  have b1 := h.2.1
  have b2 := h.2.2.1
  refine evb (num_eq b1.1 (by omega)) (evb (num_eq b2.1 (by omega)) (evb (mode_eq h) ?_))
  have hl := task_loop h x.f6.length 0 (headL x ++ [wRegions]) (by omega) (by simp [headL]) (fun y hy => by
    rcases List.mem_append.mp hy with hy | hy
    · exact head_mem h y hy
    · rw [List.mem_singleton.mp hy]; decide)
  have e : wTask ++ tl (headL x ++ [wRegions] ++ ((x.f6.drop 0).map Lib.itoa ++ setL wEcb x.f7.toNat ++ setL wUcb x.f8.toNat)) ++ [59] = taskL x := by
    rw [List.drop_zero, tl_app, tl_app]
    simp only [taskL, restL, List.append_assoc]
  rw [e] at hl
  exact hl
def linesL (l : List Tk) : List UInt8 := (l.map (fun x => taskL x ++ [10])).flatten
def wReload : List UInt8 := [114, 101, 108, 111, 97, 100, 32]
def textL (r : Int) (l : List Tk) : List UInt8 := wReload ++ Lib.itoa r ++ [59, 10] ++ linesL l
theorem rdT_drop {l : List Tk} {i : Nat} (h : i < l.length) : l.drop i = rdT l (i : Int) :: l.drop (i + 1) := by
  rw [List.drop_eq_getElem_cons h]
  unfold rdT rd_T30
  rw [Int.toNat_natCast, List.getD_eq_getElem?_getD, List.getElem?_eq_getElem h]; rfl
theorem lines_cons (x : Tk) (l : List Tk) : linesL (x :: l) = taskL x ++ [10] ++ linesL l := by simp [linesL]
theorem text_loop (l : List Tk) (hl : l.length ≤ 8) (hb : ∀ i : Nat, i < l.length → TB (rdT l (i : Int))) (d : Nat) : ∀ (i : Nat) (L : List UInt8), i + d = l.length → L.length + 6001 * d ≤ 60000 →
    Ev (fun k => show_Text.l0 k (B L) l (l.length : Int) (i : Int)) (B (L ++ linesL (l.drop i))) := by
  induction d with
  | zero =>
    intro i L hi hL
    refine Ev.step (fun k => by rw [show_Text.l0]) (evn (by omega) ?_)
    rw [List.drop_eq_nil_of_le (by omega), show linesL [] = [] from rfl, List.append_nil]
    exact Ev.now _
  | succ d ih =>
    intro i L hi hL
    have hil : i < l.length := by omega
    have hx := hb i hil
    have hlen := task_len hx
    have hlen' : (taskL (rd_T30 l (i : Int))).length ≤ 6000 := hlen
    refine Ev.step (fun k => by rw [show_Text.l0]) (evp (by omega) (evp (by omega) (evp (by omega) ?_)))
    refine Ev.bind (task_ev hx) (evp (by rw [B_size]; omega) ?_)
    rw [show (⟨#[10]⟩ : ByteArray) = B [10] from rfl, B_app]
    refine evp (by rw [B_size, B_size, List.length_append, List.length_singleton]; omega) ?_
    rw [B_app, wi (by omega), rdT_drop hil, lines_cons]
    have := ih (i + 1) (L ++ (taskL (rdT l (i : Int)) ++ [10])) (by omega) (by rw [List.length_append, List.length_append, List.length_singleton]; omega)
    rw [List.append_assoc] at this
    exact this
theorem text_ev (r : Int) (h0 : 0 ≤ r) (h1 : r ≤ 10000) (l : List Tk) (hl : l.length ≤ 8) (hb : ∀ i : Nat, i < l.length → TB (rdT l (i : Int))) : Ev (fun k => show_Text.f k r l) (B (textL r l)) := by
  have hn := it_len h0 (by omega)
  unfold show_Text.f
  refine evb (num_eq h0 (by omega)) (evp (by rw [B_size]; omega) ?_)
  rw [show (⟨#[114, 101, 108, 111, 97, 100, 32]⟩ : ByteArray) = B wReload from rfl, show (⟨#[59, 10]⟩ : ByteArray) = B [59, 10] from rfl, B_app]
  have h7 : wReload.length = 7 := rfl
  refine evp (by rw [B_size, List.length_append]; omega) ?_
  rw [B_app]
  have := text_loop l hl hb l.length 0 (wReload ++ Lib.itoa r ++ [59, 10]) (by omega) (by simp only [List.length_append, List.length_cons, List.length_nil]; omega)
  rw [List.drop_zero] at this
  exact this
theorem tb_of {r : Int} {l : List Tk} (h : RefSetN.SetOK r l) (hu : ∀ y ∈ l, (0 ≤ y.f7 ∧ y.f7 < 18446744073709551616) ∧ (0 ≤ y.f8 ∧ y.f8 < 18446744073709551616)) : ∀ i : Nat, i < l.length → TB (rdT l (i : Int)) := by
  intro i hi
  obtain ⟨_, _, _, h8, ht⟩ := h
  have hx := ht (i : Int) (by omega) (by omega)
  have hm : rdT l (i : Int) ∈ l := List.mem_of_mem_drop (i := i) (by rw [rdT_drop hi]; exact List.mem_cons_self)
  have hy := hu _ hm
  obtain ⟨hN, h1, h2, _, h4, h5, h6, h7, h9⟩ := hx
  have hs := RefSetN.sum_bound h4
  have e1 : 0 ≤ (rd_T30 l (i : Int)).f1 := by omega
  have e2 : 0 ≤ (rd_T30 l (i : Int)).f2 := by omega
  have e3 : (rd_T30 l (i : Int)).f2 ≤ 10000 := by omega
  refine ⟨hN.1, ⟨e1, h7⟩, ⟨e2, e3⟩, ?_, h2, h4, hy.1, hy.2⟩
  rcases h9 with h9 | h9 | h9
  · exact Or.inl h9.1
  · exact Or.inr (Or.inl ⟨h9.1, h9.2.1, h9.2.2.1⟩)
  · exact Or.inr (Or.inr ⟨h9.1, h9.2.2.1, Int.le_trans h9.2.2.2 (by omega)⟩)
def isD (c : UInt8) : Prop := 48 ≤ c.toNat ∧ c.toNat ≤ 57
theorem isD_of {k : Nat} (h : k < 10) : isD (UInt8.ofNat (48 + k)) := by
  unfold isD
  rw [UInt8.toNat_ofNat']
  omega
theorem dd_isD (n : Nat) : ∀ c ∈ Lib.decDigits n, isD c := by
  induction n using Nat.strongRecOn with
  | _ n ih =>
    intro c hc
    rw [Lib.decDigits] at hc
    by_cases h : n < 10
    · rw [dif_pos h] at hc
      rw [List.mem_singleton.mp hc]; exact isD_of h
    · rw [dif_neg h] at hc
      rcases List.mem_append.mp hc with hc | hc
      · exact ih (n / 10) (by omega) c hc
      · rw [List.mem_singleton.mp hc]; exact isD_of (by omega)
theorem dd_ne (n : Nat) : Lib.decDigits n ≠ [] := by
  rw [Lib.decDigits]
  split
  · simp
  · simp
def valL (l : List UInt8) : Nat := l.foldl (fun v c => 10 * v + (c.toNat - 48)) 0
theorem val_dd (n : Nat) : valL (Lib.decDigits n) = n := by
  induction n using Nat.strongRecOn with
  | _ n ih =>
    rw [Lib.decDigits]
    by_cases h : n < 10
    · rw [dif_pos h]
      simp only [valL, List.foldl_cons, List.foldl_nil, UInt8.toNat_ofNat']
      omega
    · rw [dif_neg h]
      have := ih (n / 10) (by omega)
      unfold valL at this ⊢
      rw [List.foldl_append, this]
      simp only [List.foldl_cons, List.foldl_nil, UInt8.toNat_ofNat']
      omega
theorem it_isD {n : Int} (h : 0 ≤ n) : ∀ c ∈ Lib.itoa n, isD c := by
  obtain ⟨m, rfl⟩ := Int.eq_ofNat_of_zero_le h
  rw [itoa_nat]; exact dd_isD m
def TT (x : Tk) : Prop := TB x ∧ RefSetN.NameB x.f0 ∧ ((x.f3 = 0 ∧ x.f4 = 0 ∧ x.f5 = 0) ∨ (x.f3 = 1 ∧ 0 ≤ x.f4 ∧ x.f5 = 0) ∨ (x.f3 = 2 ∧ x.f4 = 0 ∧ 0 ≤ x.f5))
def modeW (x : Tk) : List (List UInt8) := if x.f3 = 1 then [wFloat, Lib.itoa x.f4] else if x.f3 = 2 then [wThresh, Lib.itoa x.f5] else [wFixed]
def wordsL (x : Tk) : List (List UInt8) := [x.f0.data.toList, wPeriod, Lib.itoa x.f1, wDeadline, Lib.itoa x.f2] ++ (modeW x ++ (wRegions :: restL x))
theorem words_eq (x : Tk) : taskL x = wTask ++ (tl (wordsL x) ++ [59]) := by
  have hm : tl (modeW x) = tl [modeL x] := by
    unfold modeW modeL
    by_cases c1 : x.f3 = 1
    · rw [if_pos c1, if_pos c1]; simp [tl]
    · rw [if_neg c1, if_neg c1]
      by_cases c2 : x.f3 = 2
      · rw [if_pos c2, if_pos c2]; simp [tl]
      · rw [if_neg c2, if_neg c2]
  have hh : tl (headL x) = tl [x.f0.data.toList, wPeriod, Lib.itoa x.f1, wDeadline, Lib.itoa x.f2] ++ tl [modeL x] := by
    rw [← tl_app]; rfl
  unfold taskL wordsL
  rw [hh, ← hm, show wRegions :: restL x = [wRegions] ++ restL x from rfl]
  simp only [tl_app, List.append_assoc]
theorem tt_of {r : Int} {l : List Tk} (h : RefSetN.SetOK r l) (hu : ∀ y ∈ l, (0 ≤ y.f7 ∧ y.f7 < 18446744073709551616) ∧ (0 ≤ y.f8 ∧ y.f8 < 18446744073709551616)) : ∀ x ∈ l, TT x := by
  intro x hx
  obtain ⟨i, hi, e⟩ := List.getElem_of_mem hx
  have hb := tb_of h hu i hi
  have ht := h.2.2.2.2 (i : Int) (by omega) (by omega)
  have ex : rdT l (i : Int) = x := by
    unfold rdT rd_T30
    rw [Int.toNat_natCast, List.getD_eq_getElem?_getD, List.getElem?_eq_getElem hi]
    exact e
  rw [ex] at hb
  have ht' : RefSetN.TaskOK x (i : Int) := by rw [← ex]; exact ht
  obtain ⟨hN, _, _, _, _, _, _, _, h9⟩ := ht'
  refine ⟨hb, hN, ?_⟩
  rcases h9 with h9 | h9 | h9
  · exact Or.inl h9
  · exact Or.inr (Or.inl ⟨h9.1, h9.2.1, h9.2.2.2⟩)
  · exact Or.inr (Or.inr ⟨h9.1, h9.2.1, h9.2.2.1⟩)
end Go.Proofs.YtkdndgclldlddaaDoor.Pure
namespace Go.Proofs.YtkdndgclldlddaaDoor.Open
open Go.RowKit Go.Proofs.YtkdndgclldlddaaDoorW.PrintWords Go.Proofs.YtkdndgclldlddaaDoorW.PrintLast Go.WideShapes
set_option linter.unusedVariables false
structure Opens (P : Program) {α : Type} (k : Kd α) (t : TypeId) (W : α → Prop) : Prop where
  out : ∀ {H : Type} {enc : TypeId × Value → H} {w : World} {base : Nat} {spare : Nat → Bool} {held : Bool} {fuel : Nat} {cs : List Value} {x : DataW H × List MemPlace},
    DataW.trod enc P w base spare held fuel t cs = some x → ∃ a : α, k.K w a cs ∧ W a
theorem opens_int {P : Program} {t : TypeId} {k : IntKind} (ht : P.underlying t = some (.int k)) : Opens P (Kd.int k) t (fun n => (Lit.int k n).wf = true) := by
  refine ⟨fun {H enc w base spare held fuel cs x} h => ?_⟩
  obtain ⟨n, rfl, _, hw⟩ := DataW.trod_int ht h
  exact ⟨n, rfl, hw⟩
theorem opens_string {P : Program} {t : TypeId} (ht : P.underlying t = some .string) : Opens P Kd.string t (fun s => s.size ≤ maxLen) := by
  refine ⟨fun {H enc w base spare held fuel cs x} h => ?_⟩
  obtain ⟨s, rfl, _, hs⟩ := DataW.trod_string ht h
  exact ⟨s, rfl, hs⟩
theorem addr_add (a : Addr) (i j : Nat) : (a.add i).add j = a.add (i + j) := Go.Deep.add_add a i j
theorem opens_slice {P : Program} {α : Type} [Inhabited α] {d : Kd α} {t e : TypeId} {W : α → Prop} (ht : P.underlying t = some (.slice e)) (hs : P.cellsOf e = d.sz) (hd : Opens P d e W) :
    Opens P (Kd.slice e d) t (fun xs => ∀ x ∈ xs, W x) := by
  refine ⟨fun {H enc w base spare held fuel cs x} h => ?_⟩
  rcases Go.Deep.open_slice ht h with ⟨rfl, _⟩ | ⟨a, len, cap, m, n, D, Pl, rfl, hb, hl, hc, hm, _, hel⟩
  · exact ⟨[], ⟨none, 0, rfl, Nat.le_refl _, rfl, Nat.zero_le _, fun h => absurd h (Nat.lt_irrefl _)⟩, fun x hx => absurd hx (List.not_mem_nil)⟩
  · have hlm : len ≤ m := by rw [hm]; split <;> omega
    have each : ∀ i, i < len → ∃ y : α, (∃ cs', w.cells? base (a.add (i * P.cellsOf e)) (P.cellsOf e) = some cs' ∧ d.K w y cs') ∧ W y := fun i hi => by
      obtain ⟨cs', h1, h2⟩ := hel i (by omega)
      obtain ⟨y, hy, hw⟩ := hd.out h2
      exact ⟨y, ⟨cs', h1, hy⟩, hw⟩
    obtain ⟨f, hf⟩ := Go.Deep.choose_lt each
    have hlen : ((List.range len).map f).length = len := by simp
    refine ⟨(List.range len).map f, ⟨some a, cap, by rw [hlen], by rw [hlen]; exact hl, rfl, ?_, ?_⟩, ?_⟩
    · rw [hlen]; unfold maxLen at hc; omega
    · intro _
      refine ⟨a, rfl, fun j p hp => ?_⟩
      obtain ⟨hj, rfl⟩ := List.getElem?_eq_some_iff.1 hp
      rw [hlen] at hj
      obtain ⟨⟨cs', h1, h2⟩, _⟩ := hf j hj
      obtain ⟨_, h4, h5⟩ := World.cells?_some h1
      refine ⟨cs', by rw [h4, hs], by simpa using h2, fun i u hu => ?_⟩
      have hi : i < cs'.length := by
        by_cases q : i < cs'.length
        · exact q
        · rw [List.getElem?_eq_none (by omega)] at hu; cases hu
      have := h5 i (by omega)
      rw [addr_add, hs] at this
      rw [this]; exact hu
    · intro x hx
      obtain ⟨i, hi, rfl⟩ := List.mem_map.1 hx
      exact (hf i (List.mem_range.1 hi)).2
structure OpensFrom (P : Program) (fs : Array Field) (i : Nat) (off : Nat) {α : Type} (k : Kd α) (W : α → Prop) : Prop where
  out : ∀ {H : Type} {enc : TypeId × Value → H} {w : World} {base : Nat} {spare : Nat → Bool} {held : Bool} {n : Nat} {cs : List Value} {xs : List (DataW H × List MemPlace)},
    xs.length = fs.size → cs.length = off + k.sz →
    (∀ (j : Nat) (f : Field), fs[j]? = some f → DataW.trod enc P w base spare held n f.type ((cs.drop f.offset).take (P.cellsOf f.type)) = xs[j]?) → ∃ a : α, k.K w a (cs.drop off) ∧ W a
theorem opensFrom_last {P : Program} {fs : Array Field} {i off : Nat} {α : Type} {k : Kd α} {W : α → Prop} (f : Field) (hf : fs[i]? = some f) (ho : f.offset = off) (hs : P.cellsOf f.type = k.sz) (hd : Opens P k f.type W) : OpensFrom P fs i off k W := by
  refine ⟨fun {H enc w base spare held n cs xs} hx hl h => ?_⟩
  have hi : i < xs.length := by
    rw [hx]
    by_cases q : i < fs.size
    · exact q
    · rw [Array.getElem?_eq_none (by omega)] at hf; cases hf
  have h1 := h i f hf
  rw [List.getElem?_eq_getElem hi, ho, hs, List.take_of_length_le (by simp; omega)] at h1
  exact hd.out h1
theorem opensFrom_cons {P : Program} {fs : Array Field} {i off : Nat} {α β : Type} {k : Kd α} {l : Kd β} {W : α → Prop} {V : β → Prop} (f : Field) (hf : fs[i]? = some f) (ho : f.offset = off) (hs : P.cellsOf f.type = k.sz)
    (hd : Opens P k f.type W) (hr : OpensFrom P fs (i + 1) (off + k.sz) l V) : OpensFrom P fs i off (Kd.pair k l) (fun x => W x.1 ∧ V x.2) := by
  refine ⟨fun {H enc w base spare held n cs xs} hx hl h => ?_⟩
  have hi : i < xs.length := by
    rw [hx]
    by_cases q : i < fs.size
    · exact q
    · rw [Array.getElem?_eq_none (by omega)] at hf; cases hf
  have hl' : cs.length = off + (k.sz + l.sz) := hl
  have h1 := h i f hf
  rw [List.getElem?_eq_getElem hi, ho, hs] at h1
  obtain ⟨a, ka, wa⟩ := hd.out h1
  obtain ⟨b, kb, wb⟩ := hr.out hx (by omega) h
  refine ⟨(a, b), ⟨_, _, ?_, ka, kb⟩, wa, wb⟩
  rw [← List.drop_drop, List.take_append_drop]
theorem opens_struct {P : Program} {t : TypeId} {fs : Array Field} {α β : Type} {k : Kd α} {g : β → α} {W : α → Prop} {V : β → Prop} (ht : P.underlying t = some (.struct fs)) (hs : P.cellsOf t = k.sz) (hd : OpensFrom P fs 0 0 k W)
    (inv : α → β) (hg : ∀ a, g (inv a) = a) (hW : ∀ a, W a → V (inv a)) : Opens P (Kd.iso k g) t V := by
  refine ⟨fun {H enc w base spare held fuel cs x} h => ?_⟩
  obtain ⟨xs, n, _, _, hl, hx, hall⟩ := DataW.trod_struct ht h
  obtain ⟨a, ka, wa⟩ := hd.out hx (by rw [hl, hs]; omega) hall
  exact ⟨inv a, by show k.K w (g (inv a)) cs; rw [hg]; simpa using ka, hW a wa⟩
theorem arg_struct {P : Program} {H : Type} {enc : TypeId × Value → H} {w : World} {base : Nat} {spare : Nat → Bool} {held : Bool} {α : Type} {d : Kd α} {t : TypeId} {fs : Array Field} {W : α → Prop} {v : Value} {x : DataW H} {ps : List MemPlace} {r : Reach} {b0 : Nat}
    (ht : P.underlying t = some (.struct fs)) (hv : Value.okWide P w r b0 t v) (ho : Opens P d t W) (h : DataW.Trod enc P w base spare held t v x ps) :
    ∃ (a : α) (cs : List Value), v = .agg cs.toArray ∧ d.K w a cs ∧ W a := by
  obtain ⟨fuel, hf⟩ := h
  obtain ⟨cs, rfl, _⟩ := okWide_struct ht hv
  obtain ⟨a, ha, hw⟩ := ho.out hf
  exact ⟨a, cs.toList, by simp, ha, hw⟩
end Go.Proofs.YtkdndgclldlddaaDoor.Open
namespace Go.Proofs.YtkdndgclldlddaaDoor.QSb
open Go.RowKit Go.Proofs.YtkdndgclldlddaaDoorW.PrintWords Go.Proofs.YtkdndgclldlddaaDoorW.PrintLast Go.Proofs.YtkdndgclldlddaaDoor.Open
set_option linter.unusedVariables false
instance : Inhabited S30 := ⟨z30⟩
def wf30 (x : S30) : Prop := ((x.f0).size ≤ maxLen) ∧ ((Lit.int .i64 x.f1).wf = true) ∧ ((Lit.int .i64 x.f2).wf = true) ∧ ((Lit.int .i64 x.f3).wf = true) ∧ ((Lit.int .i64 x.f4).wf = true) ∧ ((Lit.int .i64 x.f5).wf = true) ∧ (∀ y ∈ x.f6, (Lit.int .i64 y).wf = true) ∧ ((Lit.int .u64 x.f7).wf = true) ∧ ((Lit.int .u64 x.f8).wf = true)
theorem opens30 : Opens Tryd.prog k30 30 wf30 :=
  opens_struct Tryd.underlying30 (by kernel_rfl) (opensFrom_cons _ rfl rfl (by kernel_rfl) (opens_string Tryd.underlying9) (opensFrom_cons _ rfl rfl (by kernel_rfl) (opens_int Tryd.underlying2) (opensFrom_cons _ rfl rfl (by kernel_rfl) (opens_int Tryd.underlying2) (opensFrom_cons _ rfl rfl (by kernel_rfl) (opens_int Tryd.underlying3) (opensFrom_cons _ rfl rfl (by kernel_rfl) (opens_int Tryd.underlying2) (opensFrom_cons _ rfl rfl (by kernel_rfl) (opens_int Tryd.underlying3) (opensFrom_cons _ rfl rfl (by kernel_rfl) (opens_slice Tryd.underlying27 (by kernel_rfl) (opens_int Tryd.underlying2)) (opensFrom_cons _ rfl rfl (by kernel_rfl) (opens_int Tryd.underlying28) (opensFrom_last _ rfl rfl (by kernel_rfl) (opens_int Tryd.underlying28)))))))))) (fun a => ⟨a.1, a.2.1, a.2.2.1, a.2.2.2.1, a.2.2.2.2.1, a.2.2.2.2.2.1, a.2.2.2.2.2.2.1, a.2.2.2.2.2.2.2.1, a.2.2.2.2.2.2.2.2⟩) (fun _ => rfl) (fun _ h => h)
instance : Inhabited S24 := ⟨z24⟩
def wf24 (x : S24) : Prop := ((Lit.int .i64 x.f0).wf = true) ∧ (∀ y ∈ x.f1, wf30 y)
theorem opens24 : Opens Tryd.prog k24 24 wf24 :=
  opens_struct Tryd.underlying24 (by kernel_rfl) (opensFrom_cons _ rfl rfl (by kernel_rfl) (opens_int Tryd.underlying2) (opensFrom_last _ rfl rfl (by kernel_rfl) (opens_slice Tryd.underlying22 (by kernel_rfl) opens30))) (fun a => ⟨a.1, a.2⟩) (fun _ => rfl) (fun _ h => h)
end Go.Proofs.YtkdndgclldlddaaDoor.QSb
namespace Go.Proofs.YtkdndgclldlddaaDoor.Pure
open Go.RowKit Go.Proofs.YtkdndgclldlddaaDoor.QSb Go.Proofs.YtkdndgclldlddaaDoorW.PrintWords Go.Proofs.YtkdndgclldlddaaDoorW.PrintLast Go.Proofs.YtkdndgclldlddaaDoorW.PrintMore
set_option linter.unusedVariables false
set_option linter.unusedSimpArgs false
def tA : Tk := ⟨(⟨#[97]⟩ : ByteArray), 5, 5, 0, 0, 0, [2, 1], 0, 0⟩
theorem tA_ok : TB tA := by
  refine ⟨by decide, by decide, by decide, Or.inl rfl, by decide, ?_, by decide, by decide⟩
  intro r hr
  simp only [tA, List.mem_cons, List.not_mem_nil, or_false] at hr
  rcases hr with rfl | rfl <;> decide
theorem it_small {n : Nat} (h : n < 10) : Lib.itoa (n : Int) = [UInt8.ofNat (48 + n)] := by rw [itoa_nat, Lib.decDigits_one h]
theorem known7 : Ev (fun k => taskmasterlaw7_known.f k) true := by
  unfold taskmasterlaw7_known.f
  have ht := task_ev tA_ok
  have e : (B (taskL tA)) = B [116, 97, 115, 107, 32, 97, 32, 112, 101, 114, 105, 111, 100, 32, 53, 32, 100, 101, 97, 100, 108, 105, 110, 101, 32, 53, 32, 102, 105, 120, 101, 100, 32, 114, 101, 103, 105, 111, 110, 115, 32, 50, 32, 49, 59] := by
    have h5 : Lib.itoa 5 = [53] := it_small (n := 5) (by decide)
    have h2 : Lib.itoa 2 = [50] := it_small (n := 2) (by decide)
    have h1 : Lib.itoa 1 = [49] := it_small (n := 1) (by decide)
    have hl : taskL tA = [116, 97, 115, 107, 32, 97, 32, 112, 101, 114, 105, 111, 100, 32, 53, 32, 100, 101, 97, 100, 108, 105, 110, 101, 32, 53, 32, 102, 105, 120, 101, 100, 32, 114, 101, 103, 105, 111, 110, 115, 32, 50, 32, 49, 59] := by
      have hm : modeL tA = wFixed := by
        unfold modeL
        rw [if_neg (show ¬ tA.f3 = 1 by decide), if_neg (show ¬ tA.f3 = 2 by decide)]
      simp only [taskL, headL, restL, hm]
      simp only [tA, tl_cons, tl_nil, tl_app, h5, h2, h1, List.map_cons, List.map_nil, setL, Int.toNat_zero, if_pos, List.append_nil]
      rfl
    rw [hl]
  rw [e] at ht
  refine Ev.bind ht ?_
  show Ev (fun _ => some ((B _).toList == _)) true
  have e2 : (B [116, 97, 115, 107, 32, 97, 32, 112, 101, 114, 105, 111, 100, 32, 53, 32, 100, 101, 97, 100, 108, 105, 110, 101, 32, 53, 32, 102, 105, 120, 101, 100, 32, 114, 101, 103, 105, 111, 110, 115, 32, 50, 32, 49, 59]).toList = [116, 97, 115, 107, 32, 97, 32, 112, 101, 114, 105, 111, 100, 32, 53, 32, 100, 101, 97, 100, 108, 105, 110, 101, 32, 53, 32, 102, 105, 120, 101, 100, 32, 114, 101, 103, 105, 111, 110, 115, 32, 50, 32, 49, 59] := by decide +kernel
  rw [e2]
  exact Ev.now true
theorem u_of {x : S24} (w0 : wf24 x) : (∀ y ∈ x.f1, y.f0.size ≤ 9223372036854775807) ∧ ∀ y ∈ x.f1, (0 ≤ y.f7 ∧ y.f7 < 18446744073709551616) ∧ (0 ≤ y.f8 ∧ y.f8 < 18446744073709551616) := by
  refine ⟨fun y hy => (w0.2 y hy).1, fun y hy => ?_⟩
  obtain ⟨_, _, _, _, _, _, _, h7, h8⟩ := w0.2 y hy
  exact ⟨u64_in h7, u64_in h8⟩
def diffB (x y : Tk) : Bool := if x.f0.toList = y.f0.toList then if x.f1 = y.f1 then if x.f2 = y.f2 then if x.f3 = y.f3 then if x.f4 = y.f4 then if x.f5 = y.f5 then if x.f7 = y.f7 then if x.f8 = y.f8 then !decide (x.f6 = y.f6) else true else true else true else true else true else true else true else true
theorem diff_eq {x y : Tk} (hx : x.f6.length ≤ 1000) (hy : y.f6.length ≤ 1000) : ref5_differ.f x.f0 x.f1 x.f2 x.f3 x.f4 x.f5 x.f6 x.f7 x.f8 y.f0 y.f1 y.f2 y.f3 y.f4 y.f5 y.f6 y.f7 y.f8 = some (diffB x y) := by
  unfold ref5_differ.f diffB
  rw [if_pos ⟨hx, hy⟩]
theorem diff_self (x : Tk) : diffB x x = false := by
  unfold diffB
  simp
theorem diff_none {x y : Tk} (h : diffB x y = false) : x = y := by
  have hx := differ_false (show ref5_differ.f x.f0 x.f1 x.f2 x.f3 x.f4 x.f5 [] x.f7 x.f8 y.f0 y.f1 y.f2 y.f3 y.f4 y.f5 [] y.f7 y.f8 = some false by
    unfold ref5_differ.f
    rw [if_pos ⟨by simp, by simp⟩]
    unfold diffB at h
    split at h
    · split at h
      · split at h
        · split at h
          · split at h
            · split at h
              · split at h
                · split at h
                  · simp_all
                  · cases h
                · cases h
              · cases h
            · cases h
          · cases h
        · cases h
      · cases h
    · cases h)
  obtain ⟨e0, e1, e2, e3, e4, e5, e7, e8, _⟩ := hx
  have e6 : x.f6 = y.f6 := by
    unfold diffB at h
    rw [if_pos e0, if_pos e1, if_pos e2, if_pos e3, if_pos e4, if_pos e5, if_pos e7, if_pos e8] at h
    simpa using h
  have e0' : x.f0 = y.f0 := by
    rw [ByteArray.toList_eq, ByteArray.toList_eq] at e0
    exact ByteArray.ext (Array.toList_inj.mp e0)
  cases x
  cases y
  simp only at e0' e1 e2 e3 e4 e5 e6 e7 e8
  subst e0'; subst e1; subst e2; subst e3; subst e4; subst e5; subst e6; subst e7; subst e8
  rfl
theorem same_loop (r r' : Int) (l l' : List Tk) (hl : l.length ≤ 8) (e : l.length = l'.length) (h6 : ∀ x ∈ l, x.f6.length ≤ 1000) (h6' : ∀ x ∈ l', x.f6.length ≤ 1000) (d : Nat) : ∀ i : Nat, i + d = l.length → ∃ b, Ev (fun k => taskmasterref5_Same.l0 k (i : Int) r l r' l') b ∧ (b = true ↔ l.drop i = l'.drop i) := by
  induction d with
  | zero =>
    intro i hi
    refine ⟨true, Ev.step (fun k => by rw [taskmasterref5_Same.l0]) (evn (by omega) (Ev.now _)), ?_⟩
    rw [List.drop_eq_nil_of_le (by omega), List.drop_eq_nil_of_le (by omega)]
    simp
  | succ d ih =>
    intro i hi
    have h1 : i < l.length := by omega
    have h2 : i < l'.length := by omega
    have m1 : rdT l (i : Int) ∈ l := List.mem_of_mem_drop (i := i) (by rw [rdT_drop h1]; exact List.mem_cons_self)
    have m2 : rdT l' (i : Int) ∈ l' := List.mem_of_mem_drop (i := i) (by rw [rdT_drop h2]; exact List.mem_cons_self)
    have hd := diff_eq (h6 _ m1) (h6' _ m2)
    rw [rdT_drop h1, rdT_drop h2]
    cases hb : diffB (rdT l (i : Int)) (rdT l' (i : Int)) with
    | true =>
      rw [hb] at hd
      refine ⟨false, Ev.step (fun k => by rw [taskmasterref5_Same.l0]) (evp (by omega) (evp (by omega) (evp (by omega) (evb hd (evp rfl (Ev.now _)))))), ?_⟩
      refine ⟨fun z => (by cases z), fun z => ?_⟩
      have := (List.cons.inj z).1
      rw [this, diff_self] at hb
      cases hb
    | false =>
      rw [hb] at hd
      obtain ⟨b, eb, hb2⟩ := ih (i + 1) (by omega)
      refine ⟨b, Ev.step (fun k => by rw [taskmasterref5_Same.l0]) ?_, ?_⟩
      · refine evp (by omega) (evp (by omega) (evp (by omega) (evb hd ?_)))
        refine evn (by simp) ?_
        rw [wi (by omega)]; exact eb
      · rw [hb2, diff_none hb]
        simp
theorem same_ev (r r' : Int) (l l' : List Tk) (hl : l.length ≤ 8) (h6 : ∀ x ∈ l, x.f6.length ≤ 1000) (h6' : ∀ x ∈ l', x.f6.length ≤ 1000) : ∃ b, Ev (fun k => taskmasterref5_Same.f k r l r' l') b ∧ (b = true ↔ r = r' ∧ l = l') := by
  unfold taskmasterref5_Same.f
  have no : Ev (fun k => taskmasterref5_Same.j0 k true r l r' l') false := Ev.step (fun k => by rw [taskmasterref5_Same.j0, if_pos rfl]) (Ev.now false)
  by_cases c : r = r'
  · by_cases q : (l.length : Int) = (l'.length : Int)
    · obtain ⟨b, e, hb⟩ := same_loop r r' l l' hl (by omega) h6 h6' l.length 0 (by omega)
      refine ⟨b, evp c ?_, ?_⟩
      · rw [show ((l.length : Int) != (l'.length : Int)) = false by simpa using q]
        exact Ev.step (fun k => by rw [taskmasterref5_Same.j0, if_neg (by simp)]; rfl) e
      · rw [hb, List.drop_zero, List.drop_zero]
        exact ⟨fun z => ⟨c, z⟩, fun z => z.2⟩
    · refine ⟨false, evp c ?_, ⟨fun z => (by cases z), fun z => absurd (congrArg (fun m : List Tk => (m.length : Int)) z.2) q⟩⟩
      rw [show ((l.length : Int) != (l'.length : Int)) = true by simpa using q]
      exact no
  · exact ⟨false, evn c no, ⟨fun z => (by cases z), fun z => absurd z.1 c⟩⟩
abbrev Tn := S62
theorem ev_uniq {α : Type} {g : Nat → Option α} {a b : α} (h : Ev g a) (k : Ev g b) : a = b := by
  obtain ⟨K, h⟩ := h
  obtain ⟨M, k⟩ := k
  exact Option.some.inj ((h (max K M) (Nat.le_max_left _ _)).symm.trans (k (max K M) (Nat.le_max_right _ _)))
theorem ev_step_inv {α : Type} {g f : Nat → Option α} {r : α} (h : ∀ k, g (k + 1) = f k) (k : Ev g r) : Ev f r := by
  obtain ⟨K, k⟩ := k
  exact ⟨K, fun n hn => (h n).symm.trans (k (n + 1) (by omega))⟩
theorem ev_bind_inv {α β : Type} {g : Nat → Option α} {f : Nat → α → Option β} {a : α} {r : β} (h : Ev g a) (k : Ev (fun n => (g n).bind (f n)) r) : Ev (fun n => f n a) r := by
  obtain ⟨K, h⟩ := h
  obtain ⟨M, k⟩ := k
  refine ⟨max K M, fun n hn => ?_⟩
  have this : (g n).bind (f n) = some r := k n (by omega)
  rw [h n (by omega)] at this
  exact this
theorem ev_pos_inv {α : Type} {c : Prop} [Decidable c] {f g : Nat → Option α} {r : α} (h : c) (k : Ev (fun n => if c then f n else g n) r) : Ev f r := Ev.congr (fun _ => (if_pos h).symm) k
theorem ev_neg_inv {α : Type} {c : Prop} [Decidable c] {f g : Nat → Option α} {r : α} (h : ¬ c) (k : Ev (fun n => if c then f n else g n) r) : Ev g r := Ev.congr (fun _ => (if_neg h).symm) k
theorem bt_B (l : List UInt8) (i : Nat) (h : i < l.length) : bt (B l) (i : Int) = ((l[i]).toNat : Int) := by
  unfold bt
  rw [dif_pos (show (i : Int).toNat < (B l).size by rw [Int.toNat_natCast, B_size]; exact h)]
  rfl
theorem bt_0 (c : UInt8) (r : List UInt8) : bt (B (c :: r)) 0 = (c.toNat : Int) := bt_B (c :: r) 0 (by simp)
theorem ext_drop (l : List UInt8) (p : Nat) : (B l).extract p (B l).size = B (l.drop p) := by
  apply ByteArray.ext
  simp [B, ByteArray.size]
  rw [List.take_of_length_le (by simp)]
theorem ext_take (l : List UInt8) (n : Nat) : (B l).extract 0 n = B (l.take n) := by
  apply ByteArray.ext
  simp [B]
def sepR (rest : List UInt8) : Prop := ∃ c r, rest = c :: r ∧ (c = 32 ∨ c = 59 ∨ c = 10)
theorem sep_not {c : UInt8} (h : c = 32 ∨ c = 59 ∨ c = 10) : ¬ RefSetN.okB (c.toNat : Int) := by
  unfold RefSetN.okB
  rcases h with rfl | rfl | rfl <;> decide
theorem bt_app {w rest : List UInt8} {i : Nat} (h : i < w.length) : bt (B (w ++ rest)) (i : Int) = ((w[i]).toNat : Int) := by
  rw [bt_B _ i (by rw [List.length_append]; omega), List.getElem_append_left h]
theorem bt_sep {w rest : List UInt8} {c : UInt8} {r : List UInt8} (h : rest = c :: r) : bt (B (w ++ rest)) (w.length : Int) = (c.toNat : Int) := by
  subst h
  rw [bt_B _ w.length (by simp)]
  simp
theorem word_l1 (w rest : List UInt8) (hw : ∀ c ∈ w, RefSetN.okB (c.toNat : Int)) (hr : sepR rest) (hs : (w ++ rest).length ≤ 100000) {r : Int × ByteArray × Int × Int × Int} (d : Nat) : ∀ i : Nat, i + d = w.length → Ev (fun k => taskmasterref4_one.j3 k (B (w ++ rest)) (w.length : Int)) r → Ev (fun k => taskmasterref4_one.l1 k (B (w ++ rest)) (i : Int)) r := by
  obtain ⟨c, q, e, hc⟩ := hr
  have hlen : (w ++ rest).length = w.length + 1 + q.length := by rw [e]; simp; omega
  induction d with
  | zero =>
    intro i hi h
    have : i = w.length := by omega
    subst this
    have hn := sep_not hc
    have hb := bt_sep (w := w) e
    refine Ev.step (fun k => by rw [taskmasterref4_one.l1]) (evp (by rw [B_size]; omega) (evp (by omega) ?_))
    refine evb (RefSetN.small_eq _) (evn ?_ (evb (RefSetN.digit_eq _) (evn ?_ (evn ?_ h))))
    · intro z; rw [hb] at z; exact hn (Or.inl (of_decide_eq_true z))
    · intro z; rw [hb] at z; exact hn (Or.inr (Or.inl (of_decide_eq_true z)))
    · intro z; rw [hb] at z; exact hn (Or.inr (Or.inr z))
  | succ d ih =>
    intro i hi h
    have hil : i < w.length := by omega
    have hb := bt_app (rest := rest) hil
    have hok := hw _ (List.getElem_mem hil)
    have more := ih (i + 1) (by omega) h
    rw [← wi (by omega)] at more
    refine Ev.step (fun k => by rw [taskmasterref4_one.l1]) (evp (by rw [B_size]; omega) (evp (by omega) ?_))
    refine evb (RefSetN.small_eq _) ?_
    rw [hb]
    by_cases c1 : 97 ≤ ((w[i]).toNat : Int) ∧ ((w[i]).toNat : Int) ≤ 122
    · exact evp (decide_eq_true c1) more
    · refine evn (by simpa using c1) (evb (RefSetN.digit_eq _) ?_)
      by_cases c2 : 48 ≤ ((w[i]).toNat : Int) ∧ ((w[i]).toNat : Int) ≤ 57
      · exact evp (decide_eq_true c2) more
      · refine evn (by simpa using c2) (evp ?_ more)
        rcases hok with h1 | h1 | h1
        · exact absurd h1 c1
        · exact absurd h1 c2
        · exact h1
theorem one_word {w rest : List UInt8} {b : Bool} (h0 : ∃ c r, w = c :: r ∧ 97 ≤ c.toNat ∧ c.toNat ≤ 122) (hw : ∀ c ∈ w, RefSetN.okB (c.toNat : Int)) (hr : sepR rest) (hs : (w ++ rest).length ≤ 100000) (h12 : w.length ≤ 12) (hb : Ev (fun k => taskmasterref4_word.f k (B w)) b) :
    Ev (fun k => taskmasterref4_one.f k (B (w ++ rest))) (if b = true then 3 else 1, B w, 0, 0, (w.length : Int)) := by
  obtain ⟨c, r, e, hc⟩ := h0
  have hj : Ev (fun k => taskmasterref4_one.j3 k (B (w ++ rest)) (w.length : Int)) (if b = true then 3 else 1, B w, 0, 0, (w.length : Int)) := by
    refine Ev.step (fun k => by rw [taskmasterref4_one.j3]) (evp (by omega) (evp (by rw [B_size, List.length_append]; omega) ?_))
    rw [Int.toNat_natCast, ext_take, List.take_left]
    refine Ev.bind hb ?_
    cases b with
    | true => exact evp rfl (Ev.now _)
    | false => exact evn (by simp) (evn (by omega) (Ev.now _))
  have hl := word_l1 w rest hw hr hs w.length 0 (by omega) hj
  have hbt : bt (B (w ++ rest)) 0 = (c.toNat : Int) := by rw [e]; exact bt_0 c (r ++ rest)
  unfold taskmasterref4_one.f
  rw [hbt]
  refine evp (by rw [B_size, e]; simp; omega) (evn (by omega) (evb (RefSetN.digit_eq _) (evn (by simp; omega) (evb (RefSetN.small_eq _) (evp (decide_eq_true (by omega)) hl)))))
theorem one_semi (rest : List UInt8) : Ev (fun k => taskmasterref4_one.f k (B (59 :: rest))) (3, B [59], 0, 0, 1) := by
  unfold taskmasterref4_one.f
  rw [bt_0]
  exact evp (by rw [B_size, List.length_cons]; omega) (evp rfl (Ev.now _))
theorem val_snoc (l : List UInt8) (c : UInt8) : valL (l ++ [c]) = 10 * valL l + (c.toNat - 48) := by
  unfold valL
  rw [List.foldl_append]; rfl
theorem fold_lt : ∀ (l : List UInt8) (v : Nat), (∀ c ∈ l, isD c) → l.foldl (fun v c => 10 * v + (c.toNat - 48)) v < (v + 1) * 10 ^ l.length
  | [], v, _ => by simp
  | c :: l, v, h => by
    have h1 := fold_lt l (10 * v + (c.toNat - 48)) (fun x hx => h x (List.mem_cons_of_mem _ hx))
    have h2 := h c List.mem_cons_self
    unfold isD at h2
    rw [List.foldl_cons, List.length_cons, Nat.pow_succ]
    refine Nat.lt_of_lt_of_le h1 ?_
    rw [Nat.mul_comm (10 ^ l.length) 10, ← Nat.mul_assoc]
    exact Nat.mul_le_mul_right _ (by omega)
theorem val_lt (l : List UInt8) (h : ∀ c ∈ l, isD c) : valL l < 10 ^ l.length := by
  have := fold_lt l 0 h
  simpa [valL] using this
theorem nd_le : ∀ (k n : Nat), 1 ≤ k → n < 10 ^ k → Lib.nDigits n ≤ k
  | 0, n, h, _ => absurd h (by omega)
  | k + 1, n, h, hn => by
    by_cases h10 : n < 10
    · rw [Lib.nDigits_small h10]; omega
    · rw [Lib.nDigits_big h10]
      rw [Nat.pow_succ] at hn
      by_cases hk : k = 0
      · subst hk; simp at hn; omega
      · have := nd_le k (n / 10) (by omega) (by omega)
        omega
theorem num_l0 (w rest : List UInt8) (hw : ∀ c ∈ w, isD c) (h9 : w.length ≤ 9) (hr : sepR rest) (hs : (w ++ rest).length ≤ 100000) {r : Int × ByteArray × Int × Int × Int} (d : Nat) : ∀ i : Nat, i + d = w.length → Ev (fun k => taskmasterref4_one.j1 k (B (w ++ rest)) (w.length : Int) (valL w : Int) false) r → Ev (fun k => taskmasterref4_one.l0 k (B (w ++ rest)) (i : Int) (valL (w.take i) : Int)) r := by
  obtain ⟨c, q, e, hc⟩ := hr
  have hlen : (w ++ rest).length = w.length + 1 + q.length := by rw [e]; simp; omega
  induction d with
  | zero =>
    intro i hi h
    have : i = w.length := by omega
    subst this
    have hn := sep_not hc
    have hb := bt_sep (w := w) e
    rw [List.take_length]
    refine Ev.step (fun k => by rw [taskmasterref4_one.l0]) (evp (by rw [B_size]; omega) (evp (by omega) (evb (RefSetN.digit_eq _) ?_)))
    rw [hb, show decide (48 ≤ (c.toNat : Int) ∧ (c.toNat : Int) ≤ 57) = false from decide_eq_false (fun z => hn (Or.inr (Or.inl z)))]
    exact h
  | succ d ih =>
    intro i hi h
    have hil : i < w.length := by omega
    have hb := bt_app (rest := rest) hil
    have hD := hw _ (List.getElem_mem hil)
    have more := ih (i + 1) (by omega) h
    have hv := val_lt (w.take i) (fun x hx => hw x (List.mem_of_mem_take hx))
    have hp : 10 ^ (w.take i).length ≤ 10 ^ 9 := Nat.pow_le_pow_right (by decide) (by rw [List.length_take]; omega)
    have hp9 : 10 ^ 9 = 1000000000 := by decide
    unfold isD at hD
    rw [List.take_add_one, List.getElem?_eq_getElem hil, Option.toList_some, val_snoc, ← wi (by omega)] at more
    refine Ev.step (fun k => by rw [taskmasterref4_one.l0]) (evp (by rw [B_size]; omega) (evp (by omega) (evb (RefSetN.digit_eq _) ?_)))
    rw [hb, show decide (48 ≤ ((w[i]).toNat : Int) ∧ ((w[i]).toNat : Int) ≤ 57) = true from decide_eq_true (by omega)]
    refine Ev.step (fun k => by rw [taskmasterref4_one.j1]) (evp rfl (evp (by omega) (evp (by omega) (evp (by rw [B_size]; omega) ?_))))
    rw [hb, w64 (n := 10 * (valL (w.take i) : Int)) (by omega) (by omega), w64 (n := 10 * (valL (w.take i) : Int) + (((w[i]).toNat : Int) - 48) % 256) (by omega) (by omega),
      show 10 * (valL (w.take i) : Int) + (((w[i]).toNat : Int) - 48) % 256 = ((10 * valL (w.take i) + ((w[i]).toNat - 48) : Nat) : Int) by omega]
    exact more
theorem dd_head (n : Nat) : ∀ c r, Lib.decDigits n = c :: r → r ≠ [] → c ≠ 48 := by
  induction n using Nat.strongRecOn with
  | _ n ih =>
    intro c r h hr
    by_cases h10 : n < 10
    · rw [Lib.decDigits, dif_pos h10] at h
      exact absurd (List.cons.inj h).2.symm hr
    · rw [Lib.decDigits, dif_neg h10] at h
      cases hq : Lib.decDigits (n / 10) with
      | nil => exact absurd hq (dd_ne _)
      | cons c2 r2 =>
        rw [hq, List.cons_append] at h
        obtain ⟨rfl, _⟩ := List.cons.inj h
        by_cases h2 : r2 = []
        · subst h2
          by_cases h100 : n / 10 < 10
          · rw [Lib.decDigits, dif_pos h100] at hq
            obtain ⟨rfl, _⟩ := List.cons.inj hq
            intro z
            have := congrArg UInt8.toNat z
            rw [UInt8.toNat_ofNat'] at this
            simp at this
            omega
          · rw [Lib.decDigits, dif_neg h100] at hq
            cases hq2 : Lib.decDigits (n / 10 / 10) with
            | nil => exact absurd hq2 (dd_ne _)
            | cons c3 r3 => rw [hq2] at hq; simp at hq
        · exact ih (n / 10) (by omega) c2 r2 hq h2
theorem one_num {n : Int} (h0 : 0 ≤ n) (h1 : n ≤ 999999999) {rest : List UInt8} (hr : sepR rest) (hs : (Lib.itoa n ++ rest).length ≤ 100000) :
    Ev (fun k => taskmasterref4_one.f k (B (Lib.itoa n ++ rest))) (2, B [], n, 0, ((Lib.itoa n).length : Int)) := by
  obtain ⟨m, rfl⟩ := Int.eq_ofNat_of_zero_le h0
  rw [itoa_nat] at hs ⊢
  have hD := dd_isD m
  have hv := val_dd m
  have hl9 : (Lib.decDigits m).length ≤ 9 := by
    rw [Lib.decDigits_length]
    exact nd_le 9 m (by decide) (by have : 10 ^ 9 = 1000000000 := by decide
                                    omega)
  have hj : Ev (fun k => taskmasterref4_one.j1 k (B (Lib.decDigits m ++ rest)) ((Lib.decDigits m).length : Int) (valL (Lib.decDigits m) : Int) false) (2, B [], (m : Int), 0, ((Lib.decDigits m).length : Int)) := by
    rw [hv]
    refine Ev.step (fun k => by rw [taskmasterref4_one.j1]) (evn (by simp) (evn (by omega) ?_))
    cases hq : Lib.decDigits m with
    | nil => exact absurd hq (dd_ne m)
    | cons c r =>
      by_cases hr2 : r = []
      · subst hr2
        exact evn (by simp) (Ev.now _)
      · have hc := dd_head m c r hq hr2
        have hrl : 0 < r.length := List.length_pos_iff.mpr hr2
        refine evp (by rw [List.length_cons]; omega) (evp (by rw [B_size, List.length_append, List.length_cons]; omega) ?_)
        rw [List.cons_append, bt_0]
        refine evn (fun z => hc ?_) (Ev.now _)
        exact UInt8.toNat_inj.mp (by have : (48 : UInt8).toNat = 48 := rfl; omega)
  have hl := num_l0 (Lib.decDigits m) rest hD hl9 hr hs (Lib.decDigits m).length 0 (by omega) hj
  rw [List.take_zero] at hl
  unfold taskmasterref4_one.f
  cases hq : Lib.decDigits m with
  | nil => exact absurd hq (dd_ne m)
  | cons c r =>
    have hc := hD c (by rw [hq]; simp)
    unfold isD at hc
    rw [hq] at hl
    rw [List.cons_append, bt_0]
    exact evp (by rw [B_size, List.length_cons]; omega) (evn (by omega) (evb (RefSetN.digit_eq _) (evp (decide_eq_true (by omega)) hl)))
def tW (s : List UInt8) : Tn := ⟨3, B s, 0, 0⟩
def tN (n : Int) : Tn := ⟨2, B [], n, 0⟩
def tM (s : ByteArray) : Tn := ⟨1, s, 0, 0⟩
def same (x y : Tn) : Prop := x.f0 = y.f0 ∧ x.f1 = y.f1 ∧ x.f2 = y.f2
def Alike : List Tn → List Tn → Prop
  | [], [] => True
  | x :: xs, y :: ys => same x y ∧ Alike xs ys
  | _, _ => False
theorem alike_app : ∀ {a b c d : List Tn}, Alike a b → Alike c d → Alike (a ++ c) (b ++ d)
  | [], [], _, _, _, k => k
  | _ :: _, _ :: _, _, _, h, k => ⟨h.1, alike_app h.2 k⟩
  | [], _ :: _, _, _, h, _ => h.elim
  | _ :: _, [], _, _, h, _ => h.elim
theorem alike_len : ∀ {a b : List Tn}, Alike a b → a.length = b.length
  | [], [], _ => rfl
  | _ :: _, _ :: _, h => by rw [List.length_cons, List.length_cons, alike_len h.2]
  | [], _ :: _, h => h.elim
  | _ :: _, [], h => h.elim
structure IsTok (w : List UInt8) (t : Tn) : Prop where
  ne : w ≠ []
  hd : ∀ c r, w = c :: r → c ≠ 32 ∧ c ≠ 10 ∧ c ≠ 35
  ev : ∀ rest, sepR rest → (w ++ rest).length ≤ 100000 → Ev (fun k => taskmasterref4_one.f k (B (w ++ rest))) (t.f0, t.f1, t.f2, 0, (w.length : Int))
def Reach (L : List UInt8) (p q : Nat) (ys : List Tn) : Prop := ∀ acc : List Tn, acc.length ≤ p → (acc ++ ys).length ≤ q ∧ ∀ r, Ev (fun k => taskmasterref4_Tokens.l0 k (B L) (acc ++ ys) false (q : Int)) r → Ev (fun k => taskmasterref4_Tokens.l0 k (B L) acc false (p : Int)) r
theorem Reach.trans {L : List UInt8} {p q s : Nat} {ys zs : List Tn} (h : Reach L p q ys) (k : Reach L q s zs) : Reach L p s (ys ++ zs) := by
  intro acc ha
  obtain ⟨h1, h2⟩ := h acc ha
  obtain ⟨k1, k2⟩ := k _ h1
  rw [List.append_assoc] at k1 k2
  exact ⟨k1, fun r hr => h2 r (k2 r hr)⟩
theorem drop_app {L a b : List UInt8} {p : Nat} (h : L.drop p = a ++ b) : L.drop (p + a.length) = b := by
  rw [← List.drop_drop, h, List.drop_left]
theorem drop_lt {L a : List UInt8} {p : Nat} (h : L.drop p = a) (ha : a ≠ []) : p < L.length := by
  rcases Nat.lt_or_ge p L.length with q | q
  · exact q
  · rw [List.drop_eq_nil_of_le q] at h; exact absurd h.symm ha
theorem drop_at {L a : List UInt8} {c : UInt8} {p : Nat} (h : L.drop p = c :: a) : bt (B L) (p : Int) = (c.toNat : Int) := by
  have hp := drop_lt h (by simp)
  rw [bt_B L p hp]
  have : L[p] = c := by
    have := List.drop_eq_getElem_cons hp
    rw [h] at this
    exact (List.cons.inj this).1.symm
  rw [this]
theorem byte_ne {c d : UInt8} (h : c ≠ d) : (c.toNat : Int) ≠ (d.toNat : Int) := fun z => h (UInt8.toNat_inj.mp (by omega))
theorem tk_blank {L a : List UInt8} {c : UInt8} {p : Nat} (hL : L.length ≤ 4000) (h : L.drop p = c :: a) (hc : c = 32 ∨ c = 10) : Reach L p (p + 1) [] := by
  intro acc ha
  have hp := drop_lt h (by simp)
  have hb := drop_at h
  rw [List.append_nil]
  refine ⟨by omega, fun r hr => ?_⟩
  have h35 : (bt (B L) (p : Int) == 35) = false := by
    rw [hb]
    rcases hc with rfl | rfl <;> decide
  refine Ev.step (fun k => by rw [taskmasterref4_Tokens.l0]) (evp (by rw [B_size]; omega) (evn (by simp) (evp (by omega) ?_)))
  rw [h35]
  refine Ev.step (fun k => by rw [taskmasterref4_Tokens.j1]) (evn (by simp) (evp (by omega) (evp (by rw [B_size]; omega) ?_)))
  have go : Ev (fun k => taskmasterref4_Tokens.j2 k (B L) acc false (p : Int) true) r := by
    refine Ev.step (fun k => by rw [taskmasterref4_Tokens.j2]) (evp rfl ?_)
    rw [wi (by omega)]
    exact hr
  rcases hc with rfl | rfl
  · exact evp (by rw [hb]; decide) go
  · refine evn (by rw [hb]; decide) ?_
    rw [show (bt (B L) (p : Int) == 10) = true by rw [hb]; decide]
    exact go
theorem tk_any {L w rest : List UInt8} {p : Nat} {a0 : Int} {a1 : ByteArray} {a2 : Int} (hL : L.length ≤ 4000) (h : L.drop p = w ++ rest) (hne : w ≠ []) (hd : ∀ c r, w = c :: r → c ≠ 32 ∧ c ≠ 10 ∧ c ≠ 35) (he : Ev (fun k => taskmasterref4_one.f k (B (w ++ rest))) (a0, a1, a2, 0, (w.length : Int))) :
    Reach L p (p + w.length) [⟨a0, a1, a2, (p : Int)⟩] := by
  intro acc ha
  cases hq : w with
  | nil => exact absurd hq hne
  | cons c w' =>
    obtain ⟨d1, d2, d3⟩ := hd c w' hq
    have h2 : L.drop p = c :: (w' ++ rest) := by rw [h, hq]; rfl
    have hp := drop_lt h2 (by simp)
    have hb := drop_at h2
    have hle : p + w.length ≤ L.length := by
      have := congrArg List.length h
      rw [List.length_drop, List.length_append] at this
      omega
    have hwl : w.length = w'.length + 1 := by rw [hq]; rfl
    rw [← hq]
    refine ⟨by rw [List.length_append, List.length_singleton]; omega, fun r hr => ?_⟩
    have n1 := byte_ne d1
    have n2 := byte_ne d2
    have n3 := byte_ne d3
    refine Ev.step (fun k => by rw [taskmasterref4_Tokens.l0]) (evp (by rw [B_size]; omega) (evn (by simp) (evp (by omega) ?_)))
    rw [show (bt (B L) (p : Int) == 35) = false by rw [hb]; exact beq_eq_false_iff_ne.mpr n3]
    refine Ev.step (fun k => by rw [taskmasterref4_Tokens.j1]) (evn (by simp) (evp (by omega) (evp (by rw [B_size]; omega) (evn (by rw [hb]; exact n1) ?_))))
    rw [show (bt (B L) (p : Int) == 10) = false by rw [hb]; exact beq_eq_false_iff_ne.mpr n2]
    refine Ev.step (fun k => by rw [taskmasterref4_Tokens.j2]) (evn (by simp) (evp (by omega) (evp (by rw [B_size]; omega) ?_)))
    rw [Int.toNat_natCast, ext_drop, h]
    refine Ev.bind he (evn (by show ¬ ((w.length : Int) = 0); omega) (evp (by omega) ?_))
    show Ev (fun k => taskmasterref4_Tokens.l0 k (B L) (acc ++ [⟨a0, a1, a2, (p : Int)⟩]) false (wrap64 ((p : Int) + (w.length : Int)))) r
    rw [w64 (by omega) (by omega), show ((p : Int) + (w.length : Int)) = ((p + w.length : Nat) : Int) by omega]
    exact hr
theorem tk_tok {L w rest : List UInt8} {p : Nat} {t : Tn} (hL : L.length ≤ 4000) (h : L.drop p = w ++ rest) (ht : IsTok w t) (hr : sepR rest) : Reach L p (p + w.length) [⟨t.f0, t.f1, t.f2, (p : Int)⟩] := by
  have hlen : (w ++ rest).length ≤ 100000 := by rw [← h, List.length_drop]; omega
  exact tk_any hL h ht.ne ht.hd (ht.ev rest hr hlen)
theorem tk_semi {L rest : List UInt8} {p : Nat} (hL : L.length ≤ 4000) (h : L.drop p = 59 :: rest) : Reach L p (p + 1) [⟨3, B [59], 0, (p : Int)⟩] :=
  tk_any (w := [59]) hL h (by simp) (fun c r e => by
    obtain ⟨rfl, _⟩ := List.cons.inj e
    decide) (one_semi rest)
def Toks : List (List UInt8) → List Tn → Prop
  | [], [] => True
  | w :: ws, t :: ts => IsTok w t ∧ Toks ws ts
  | _, _ => False
theorem toks_app : ∀ {a : List (List UInt8)} {b : List Tn} {c : List (List UInt8)} {d : List Tn}, Toks a b → Toks c d → Toks (a ++ c) (b ++ d)
  | [], [], _, _, _, k => k
  | _ :: _, _ :: _, _, _, h, k => ⟨h.1, toks_app h.2 k⟩
  | [], _ :: _, _, _, h, _ => h.elim
  | _ :: _, [], _, _, h, _ => h.elim
theorem sep_tl (ws : List (List UInt8)) {rest : List UInt8} (h : sepR rest) : sepR (tl ws ++ rest) := by
  cases ws with
  | nil => exact h
  | cons w ws => rw [tl_cons]; exact ⟨32, _, rfl, Or.inl rfl⟩
theorem tk_row {L : List UInt8} (hL : L.length ≤ 4000) : ∀ {ws : List (List UInt8)} {ts : List Tn} {rest : List UInt8} {p : Nat}, Toks ws ts → L.drop p = tl ws ++ rest → sepR rest → ∃ ys, Alike ts ys ∧ Reach L p (p + (tl ws).length) ys
  | [], [], rest, p, _, h, _ => ⟨[], trivial, fun acc ha => by rw [List.append_nil]; exact ⟨by rw [tl_nil]; simpa using ha, fun r hr => by rw [tl_nil] at hr; simpa using hr⟩⟩
  | w :: ws, t :: ts, rest, p, ht, h, hr => by
    rw [tl_cons] at h
    have h1 : L.drop p = 32 :: (w ++ (tl ws ++ rest)) := by rw [h]; simp
    have r1 := tk_blank hL h1 (Or.inl rfl)
    have h2 : L.drop (p + 1) = w ++ (tl ws ++ rest) := by
      have := drop_app (a := [32]) (b := w ++ (tl ws ++ rest)) (p := p) (L := L) (by rw [h1]; rfl)
      exact this
    have r2 := tk_tok hL h2 ht.1 (sep_tl ws hr)
    obtain ⟨ys, ha, r3⟩ := tk_row hL (ws := ws) (ts := ts) ht.2 (drop_app h2) hr
    refine ⟨⟨t.f0, t.f1, t.f2, ((p + 1 : Nat) : Int)⟩ :: ys, ⟨⟨rfl, rfl, rfl⟩, ha⟩, ?_⟩
    have := (r1.trans r2).trans r3
    rw [tl_cons, List.length_cons, List.length_append, show p + (w.length + (tl ws).length + 1) = p + 1 + w.length + (tl ws).length by omega]
    exact this
theorem word_yes {w : List UInt8} (h : taskmasterref4_word.f 30 (B w) = some true) : Ev (fun k => taskmasterref4_word.f k (B w)) true := Ev.of (fun k => taskmasterref4_word.mono _ k) h
theorem tok_word {w : List UInt8} (h : taskmasterref4_word.f 30 (B w) = some true) (h0 : ∃ c r, w = c :: r ∧ 97 ≤ c.toNat ∧ c.toNat ≤ 122) (hw : ∀ c ∈ w, RefSetN.okB (c.toNat : Int)) (h12 : w.length ≤ 12) : IsTok w (tW w) := by
  refine ⟨?_, ?_, fun rest hr hs => one_word h0 hw hr hs h12 (word_yes h)⟩
  · obtain ⟨c, r, e, _⟩ := h0; rw [e]; simp
  · obtain ⟨c, r, e, hc⟩ := h0
    intro c' r' e'
    rw [e] at e'
    obtain ⟨rfl, _⟩ := List.cons.inj e'
    refine ⟨?_, ?_, ?_⟩ <;> (rintro rfl; exact absurd hc (by decide))
theorem tok_num {n : Int} (h0 : 0 ≤ n) (h1 : n ≤ 999999999) : IsTok (Lib.itoa n) (tN n) := by
  have hd := it_isD h0
  refine ⟨?_, ?_, fun rest hr hs => one_num h0 h1 hr hs⟩
  · obtain ⟨m, rfl⟩ := Int.eq_ofNat_of_zero_le h0
    rw [itoa_nat]; exact dd_ne m
  · intro c r e
    have := hd c (by rw [e]; exact List.mem_cons_self)
    unfold isD at this
    refine ⟨?_, ?_, ?_⟩ <;> (rintro rfl; exact absurd this (by decide))
def NameOK (s : ByteArray) : Prop := (∃ c r, s.data.toList = c :: r ∧ 97 ≤ c.toNat ∧ c.toNat ≤ 122) ∧ Ev (fun k => taskmasterref4_word.f k s) false
theorem nameB_ok {s : ByteArray} (h : RefSetN.NameB s) : ∀ c ∈ s.data.toList, RefSetN.okB (c.toNat : Int) := by
  intro c hc
  obtain ⟨j, hj, rfl⟩ := List.getElem_of_mem hc
  have := h.2 j (by rw [← size_of]; exact hj)
  rw [B_of s, bt_B _ j hj] at this
  exact this
theorem tok_name {s : ByteArray} (hB : RefSetN.NameB s) (h : NameOK s) : IsTok s.data.toList (tM s) := by
  refine ⟨?_, ?_, fun rest hr hs => ?_⟩
  · obtain ⟨⟨c, r, e, _⟩, _⟩ := h; rw [e]; simp
  · obtain ⟨⟨c, r, e, hc⟩, _⟩ := h
    intro c' r' e'
    rw [e] at e'
    obtain ⟨rfl, _⟩ := List.cons.inj e'
    refine ⟨?_, ?_, ?_⟩ <;> (rintro rfl; exact absurd hc (by decide))
  · exact one_word h.1 (nameB_ok hB) hr hs (by rw [size_of]; exact hB.1) h.2
theorem words_tok : IsTok wTask (tW wTask) ∧ IsTok wPeriod (tW wPeriod) ∧ IsTok wDeadline (tW wDeadline) ∧ IsTok wRegions (tW wRegions) ∧ IsTok wEcb (tW wEcb) ∧ IsTok wUcb (tW wUcb) ∧ IsTok wFixed (tW wFixed) ∧ IsTok wFloat (tW wFloat) ∧ IsTok wThresh (tW wThresh) ∧ IsTok [114, 101, 108, 111, 97, 100] (tW [114, 101, 108, 111, 97, 100]) := by
  refine ⟨?_, ?_, ?_, ?_, ?_, ?_, ?_, ?_, ?_, ?_⟩ <;> refine tok_word (by decide +kernel) ⟨_, _, rfl, by decide, by decide⟩ ?_ (by decide) <;>
    (intro c hc
     simp only [wTask, wPeriod, wDeadline, wRegions, wEcb, wUcb, wFixed, wFloat, wThresh, List.mem_cons, List.not_mem_nil, or_false] at hc
     refine Or.inl ?_
     rcases hc with rfl | rfl | rfl | rfl | rfl | rfl | rfl | rfl <;> decide)
def setT (w : List UInt8) (x : Nat) : List Tn := if x = 0 then [] else tW w :: (listFrom x 64 0).map tN
def modeT (x : Tk) : List Tn := if x.f3 = 1 then [tW wFloat, tN x.f4] else if x.f3 = 2 then [tW wThresh, tN x.f5] else [tW wFixed]
def toksT (x : Tk) : List Tn := [tM x.f0, tW wPeriod, tN x.f1, tW wDeadline, tN x.f2] ++ (modeT x ++ (tW wRegions :: (x.f6.map tN ++ setT wEcb x.f7.toNat ++ setT wUcb x.f8.toNat)))
theorem toks_map : ∀ {l : List Int}, (∀ x ∈ l, 0 ≤ x ∧ x ≤ 999999999) → Toks (l.map Lib.itoa) (l.map tN)
  | [], _ => trivial
  | x :: l, h => ⟨tok_num (h x List.mem_cons_self).1 (h x List.mem_cons_self).2, toks_map (fun y hy => h y (List.mem_cons_of_mem _ hy))⟩
theorem toks_set {w : List UInt8} (hw : IsTok w (tW w)) (x : Nat) : Toks (setL w x) (setT w x) := by
  unfold setL setT
  split
  · trivial
  · exact ⟨hw, toks_map (fun y hy => by have := mem_list x 64 0 y hy; omega)⟩
def TR (x : Tk) : Prop := TT x ∧ NameOK x.f0 ∧ (x.f4 ≤ 10000) ∧ (x.f5 ≤ 10000)
theorem toks_words {x : Tk} (h : TR x) : Toks (wordsL x) (toksT x) := by
  obtain ⟨⟨hb, hn, hm⟩, hN, h4, h5⟩ := h
  obtain ⟨k1, k2, k3, k4, k5, k6, k7, k8, k9, _⟩ := words_tok
  have b1 := hb.2.1
  have b2 := hb.2.2.1
  have b6 := hb.2.2.2.2.2.1
  unfold wordsL toksT
  refine toks_app (a := [_, _, _, _, _]) (b := [_, _, _, _, _]) ⟨tok_name hn hN, k2, tok_num b1.1 (by omega), k3, tok_num b2.1 (by omega), trivial⟩ (toks_app ?_ ⟨k4, ?_⟩)
  · unfold modeW modeT
    rcases hm with hm | hm | hm
    · rw [hm.1, if_neg (by decide), if_neg (by decide), if_neg (by decide), if_neg (by decide)]; exact ⟨k7, trivial⟩
    · rw [if_pos hm.1, if_pos hm.1]; exact ⟨k8, tok_num hm.2.1 (by omega), trivial⟩
    · rw [hm.1, if_neg (by decide), if_pos rfl, if_neg (by decide), if_pos rfl]; exact ⟨k9, tok_num hm.2.2 (by omega), trivial⟩
  · unfold restL
    exact toks_app (toks_app (toks_map (fun r hr => by have := b6 r hr; omega)) (toks_set k5 _)) (toks_set k6 _)
theorem tk_task {L rest : List UInt8} {p : Nat} {x : Tk} (hL : L.length ≤ 4000) (hx : TR x) (h : L.drop p = taskL x ++ [10] ++ rest) :
    ∃ ys, Alike (tW wTask :: (toksT x ++ [tW [59]])) ys ∧ Reach L p (p + (taskL x ++ [10]).length) ys := by
  rw [words_eq] at h ⊢
  have h1 : L.drop p = wTask ++ (tl (wordsL x) ++ ([59] ++ ([10] ++ rest))) := by rw [h]; simp
  have s1 : sepR ([59] ++ ([10] ++ rest)) := ⟨59, _, rfl, Or.inr (Or.inl rfl)⟩
  have r1 := tk_tok hL h1 words_tok.1 (sep_tl _ s1)
  have h2 := drop_app h1
  obtain ⟨ys, ha, r2⟩ := tk_row hL (toks_words hx) h2 s1
  have h3 := drop_app h2
  have r3 := tk_semi hL (rest := [10] ++ rest) h3
  have h4 := drop_app (a := [59]) h3
  have r4 := tk_blank hL (a := rest) (c := 10) h4 (Or.inr rfl)
  have R := ((r1.trans r2).trans r3).trans r4
  rw [show p + wTask.length + (tl (wordsL x)).length + [(59 : UInt8)].length + 1 = p + (wTask ++ (tl (wordsL x) ++ [59]) ++ [10]).length by simp; omega] at R
  refine ⟨_, ?_, R⟩
  rw [List.append_nil]
  exact ⟨⟨rfl, rfl, rfl⟩, alike_app ha ⟨⟨rfl, rfl, rfl⟩, trivial⟩⟩
def toksL (l : List Tk) : List Tn := (l.map (fun x => tW wTask :: (toksT x ++ [tW [59]]))).flatten
theorem tk_lines {L : List UInt8} (hL : L.length ≤ 4000) : ∀ (l : List Tk) (p : Nat), (∀ x ∈ l, TR x) → L.drop p = linesL l → ∃ ys, Alike (toksL l) ys ∧ Reach L p (p + (linesL l).length) ys
  | [], p, _, h => ⟨[], trivial, fun acc ha => by rw [List.append_nil]; exact ⟨by simpa [linesL] using ha, fun r hr => by simpa [linesL] using hr⟩⟩
  | x :: l, p, hx, h => by
    rw [lines_cons] at h
    obtain ⟨ys, ha, r1⟩ := tk_task hL (hx x List.mem_cons_self) h
    have h2 := drop_app h
    obtain ⟨zs, hb, r2⟩ := tk_lines hL l _ (fun y hy => hx y (List.mem_cons_of_mem _ hy)) h2
    refine ⟨ys ++ zs, ?_, ?_⟩
    · have := alike_app ha hb
      simpa [toksL] using this
    · rw [lines_cons, List.length_append, ← Nat.add_assoc]
      exact r1.trans r2
theorem tk_end {L : List UInt8} (hL : L.length ≤ 4000) {Z : List Tn} (R : Reach L 0 L.length Z) : Ev (fun k => taskmasterref4_Tokens.f k (B L)) (Z ++ [⟨4, (⟨#[]⟩ : ByteArray), 0, (L.length : Int)⟩], (L.length : Int), 0) := by
  obtain ⟨q1, q2⟩ := R [] (Nat.zero_le _)
  rw [List.nil_append] at q1 q2
  unfold taskmasterref4_Tokens.f
  refine evn (by rw [B_size]; omega) (q2 _ ?_)
  refine Ev.step (fun k => by rw [taskmasterref4_Tokens.l0]) (evn (by rw [B_size]; omega) (evp (by omega) ?_))
  rw [B_size]
  exact Ev.now _
theorem tk_text {r : Int} {l : List Tk} (h0 : 0 ≤ r) (h1 : r ≤ 10000) (hx : ∀ x ∈ l, TR x) (hL : (textL r l).length ≤ 4000) :
    ∃ ys z, Alike (tW [114, 101, 108, 111, 97, 100] :: tN r :: tW [59] :: toksL l) ys ∧ z.f0 = 4 ∧ Ev (fun k => taskmasterref4_Tokens.f k (B (textL r l))) (ys ++ [z], ((textL r l).length : Int), 0) := by
  have e0 : textL r l = [114, 101, 108, 111, 97, 100] ++ (tl [Lib.itoa r] ++ ([59] ++ ([10] ++ linesL l))) := by simp [textL, wReload, tl]
  generalize hT : textL r l = L at hL e0 ⊢
  have d0 : L.drop 0 = [114, 101, 108, 111, 97, 100] ++ (tl [Lib.itoa r] ++ ([59] ++ ([10] ++ linesL l))) := by rw [List.drop_zero]; exact e0
  have s1 : sepR ([59] ++ ([10] ++ linesL l)) := ⟨59, _, rfl, Or.inr (Or.inl rfl)⟩
  have r1 := tk_tok hL d0 words_tok.2.2.2.2.2.2.2.2.2 (sep_tl _ s1)
  have d1 := drop_app d0
  obtain ⟨ys, ha, r2⟩ := tk_row hL (ws := [Lib.itoa r]) (ts := [tN r]) ⟨tok_num h0 (by omega), trivial⟩ d1 s1
  have d2 := drop_app d1
  have r3 := tk_semi hL (rest := [10] ++ linesL l) d2
  have d3 := drop_app (a := [59]) d2
  have r4 := tk_blank hL (a := linesL l) (c := 10) d3 (Or.inr rfl)
  have d4 := drop_app (a := [10]) d3
  obtain ⟨zs, hb, r5⟩ := tk_lines hL l _ hx d4
  have R := (((r1.trans r2).trans r3).trans r4).trans r5
  have hq := congrArg List.length e0
  rw [List.length_append, List.length_append, List.length_append, List.length_append] at hq
  have hq2 : 0 + ([114, 101, 108, 111, 97, 100] : List UInt8).length + (tl [Lib.itoa r]).length + 1 + 1 + (linesL l).length = L.length := by
    rw [hq]; simp only [List.length_cons, List.length_nil]; omega
  rw [show ([59] : List UInt8).length = 1 from rfl, show ([10] : List UInt8).length = 1 from rfl] at R
  rw [hq2] at R
  refine ⟨_, ⟨4, (⟨#[]⟩ : ByteArray), 0, (L.length : Int)⟩, ?_, rfl, tk_end hL R⟩
  rw [List.append_nil]
  exact alike_app (a := [tW [114, 101, 108, 111, 97, 100], tN r, tW [59]]) (c := toksL l) (alike_app (a := [tW [114, 101, 108, 111, 97, 100], tN r]) (c := [tW [59]]) (alike_app (a := [tW [114, 101, 108, 111, 97, 100]]) (c := [tN r]) ⟨⟨rfl, rfl, rfl⟩, trivial⟩ ha) ⟨⟨rfl, rfl, rfl⟩, trivial⟩) hb
def Nx (T : List Tn) (i : Nat) (ts : List Tn) : Prop := T.length ≤ 100000 ∧ Alike ts (T.drop i)
theorem Nx.head {T : List Tn} {i : Nat} {t : Tn} {ts : List Tn} (h : Nx T i (t :: ts)) : i < T.length ∧ same t (rd_T62 T (i : Int)) ∧ Nx T (i + 1) ts := by
  obtain ⟨hl, ha⟩ := h
  have hi : i < T.length := by
    rcases Nat.lt_or_ge i T.length with q | q
    · exact q
    · rw [List.drop_eq_nil_of_le q] at ha; exact ha.elim
  have e : rd_T62 T (i : Int) = T[i] := by
    unfold rd_T62
    rw [Int.toNat_natCast, List.getD_eq_getElem?_getD, List.getElem?_eq_getElem hi]; rfl
  rw [List.drop_eq_getElem_cons hi] at ha
  rw [e]
  exact ⟨hi, ha.1, hl, ha.2⟩
theorem now_x {T : List Tn} {i : Nat} {t : Tn} {ts : List Tn} (h : Nx T i (t :: ts)) (at_ : Int) : ∃ a, taskmasterref6_parser_now.f T (i : Int) 0 at_ = some (t.f0, t.f1, t.f2, a, (i : Int), 0, at_) := by
  obtain ⟨hi, ⟨e0, e1, e2⟩, _⟩ := h.head
  refine ⟨(rd_T62 T (i : Int)).f3, ?_⟩
  unfold taskmasterref6_parser_now.f
  rw [if_pos rfl, if_pos ⟨by omega, by omega⟩, e0, e1, e2]
theorem eat_yes {T : List Tn} {i : Nat} {w : List UInt8} {ts : List Tn} (h : Nx T i (tW w :: ts)) (at_ : Int) {a : ByteArray} (ha : a = B w) : taskmasterref6_parser_eat.f T (i : Int) 0 at_ a = some (true, ((i + 1 : Nat) : Int), 0, at_) := by
  subst ha
  have hi := h.head.1
  obtain ⟨p, e⟩ := now_x h at_
  unfold taskmasterref6_parser_eat.f
  rw [e, Option.bind_some, if_pos (show (tW w).f0 = 3 from rfl), if_pos (show ((tW w).f1).toList = (B w).toList from rfl), wi (by have := h.1; omega)]
theorem eat_no {T : List Tn} {i : Nat} {t : Tn} {ts : List Tn} (h : Nx T i (t :: ts)) (at_ : Int) {a : ByteArray} (ha : t.f0 ≠ 3 ∨ t.f1.toList ≠ a.toList) : taskmasterref6_parser_eat.f T (i : Int) 0 at_ a = some (false, (i : Int), 0, at_) := by
  obtain ⟨p, e⟩ := now_x h at_
  unfold taskmasterref6_parser_eat.f
  rw [e, Option.bind_some]
  by_cases h3 : t.f0 = 3
  · rcases ha with ha | ha
    · exact absurd h3 ha
    · rw [if_pos h3, if_neg ha]
  · rw [if_neg h3]
theorem need_yes {T : List Tn} {i : Nat} {w : List UInt8} {ts : List Tn} (h : Nx T i (tW w :: ts)) (at_ : Int) {a : ByteArray} (ha : a = B w) : taskmasterref6_parser_need.f T (i : Int) 0 at_ a = some (((i + 1 : Nat) : Int), 0, at_) := by
  unfold taskmasterref6_parser_need.f
  rw [eat_yes h at_ ha, Option.bind_some, if_pos rfl]
theorem kind_yes {T : List Tn} {i : Nat} {t : Tn} {ts : List Tn} (h : Nx T i (t :: ts)) (at_ : Int) {kd : Int} (hk : t.f0 = kd) : ∃ p, taskmasterref6_parser_kind.f T (i : Int) 0 at_ kd = some (kd, t.f1, t.f2, p, ((i + 1 : Nat) : Int), 0, at_) := by
  obtain ⟨p, e⟩ := now_x h at_
  have hi := h.head.1
  refine ⟨p, ?_⟩
  unfold taskmasterref6_parser_kind.f
  rw [e, Option.bind_some, if_pos hk, wi (by have := h.1; omega), hk]
theorem shl_eq {i : Nat} (h : i < 64) : shl .u64 1 (i : Int) = ((2 ^ i : Nat) : Int) := by
  unfold shl
  rw [Int.toNat_natCast]
  have hj : i ≤ IntKind.u64.bits := by show i ≤ 64; omega
  rw [show min i IntKind.u64.bits = i from Nat.min_eq_left hj]
  have hp : 2 ^ i < 18446744073709551616 := Nat.pow_lt_pow_right (n := 64) (by decide) h
  rw [show (1 : Int) * 2 ^ i = ((2 ^ i : Nat) : Int) by norm_cast; simp]
  exact wrapN hp
theorem or_step {x j : Nat} (hj : j < 64) (hb : x.testBit j = true) : Go.bits .or .u64 ((x % 2 ^ j : Nat) : Int) (shl .u64 1 (IntKind.u64.wrap (j : Int))) = ((x % 2 ^ (j + 1) : Nat) : Int) := by
  have hp : 2 ^ j < 18446744073709551616 := Nat.pow_lt_pow_right (n := 64) (by decide) hj
  have hlt : x % 2 ^ j < 2 ^ j := Nat.mod_lt _ (Nat.two_pow_pos j)
  rw [wrapN (by omega), shl_eq hj, orN _ _ (by omega) hp]
  congr 1
  refine Nat.eq_of_testBit_eq (fun i => ?_)
  rw [Nat.testBit_or, Nat.testBit_mod_two_pow, Nat.testBit_mod_two_pow, Nat.testBit_two_pow]
  by_cases q : j = i
  · subst q; rw [hb]; simp
  · by_cases q2 : i < j
    · simp [q, q2, show i < j + 1 by omega]
    · simp [q, q2, show ¬ i < j + 1 by omega]
theorem mod_skip {x j : Nat} (hb : x.testBit j = false) : x % 2 ^ (j + 1) = x % 2 ^ j := by
  refine Nat.eq_of_testBit_eq (fun i => ?_)
  rw [Nat.testBit_mod_two_pow, Nat.testBit_mod_two_pow]
  by_cases q : i = j
  · subst q; rw [hb]; simp
  · by_cases q2 : i < j
    · simp [q2, show i < j + 1 by omega]
    · simp [q2, show ¬ i < j + 1 by omega]
theorem list_nil (x : Nat) : ∀ d j : Nat, listFrom x d j = [] → x % 2 ^ (j + d) = x % 2 ^ j
  | 0, j, _ => rfl
  | d + 1, j, h => by
    unfold listFrom at h
    by_cases hb : x.testBit j = true
    · rw [if_pos hb] at h; cases h
    · rw [if_neg hb] at h
      have := list_nil x d (j + 1) h
      rw [show j + (d + 1) = j + 1 + d by omega, this, mod_skip (Bool.eq_false_iff.mpr hb)]
theorem sets_run (x : Nat) {T : List Tn} {t : Tn} {ts : List Tn} (ht : t.f0 ≠ 2) (at_ : Int) : ∀ (d j i : Nat) (last : Int), j + d = 64 → last < j → listFrom x d j ≠ [] → Nx T i ((listFrom x d j).map tN ++ t :: ts) →
    Ev (fun k => taskmasterref6_parser_sets.l0 k ((x % 2 ^ j : Nat) : Int) last T (i : Int) 0 at_) (((x % 2 ^ 64 : Nat) : Int), ((i + (listFrom x d j).length : Nat) : Int), 0, at_)
  | 0, j, i, last, hd, hl, hne, h => absurd rfl hne
  | d + 1, j, i, last, hd, hl, hne, h => by
    by_cases hb : x.testBit j = true
    · have e : listFrom x (d + 1) j = (j : Int) :: listFrom x d (j + 1) := by rw [listFrom, if_pos hb]
      rw [e] at h ⊢
      rw [List.map_cons, List.cons_append] at h
      obtain ⟨p, hk⟩ := kind_yes h at_ (kd := 2) rfl
      have h2 := h.head.2.2
      have hm : ((x % 2 ^ j : Nat) : Int) = ((x % 2 ^ j : Nat) : Int) := rfl
      refine Ev.step (fun k => by rw [taskmasterref6_parser_sets.l0]) (evb hk (evp rfl (evn (show ¬ ((j : Int) ≥ 64) by omega) ?_)))
      show Ev (fun k => taskmasterref6_parser_sets.j1 k ((x % 2 ^ j : Nat) : Int) (decide ((j : Int) ≤ last)) T ((i + 1 : Nat) : Int) 0 at_ 2 (B []) (j : Int) p) _
      rw [decide_eq_false (show ¬ ((j : Int) ≤ last) by omega)]
      refine Ev.step (fun k => by rw [taskmasterref6_parser_sets.j1]) (evn (by simp) ?_)
      refine Ev.step (fun k => by rw [taskmasterref6_parser_sets.j2]) (evp rfl (evp (by rw [wrapN (by omega)]; omega) ?_))
      rw [or_step (by omega) hb]
      by_cases hq : listFrom x d (j + 1) = []
      · rw [hq] at h2 ⊢
        obtain ⟨p2, hn⟩ := now_x h2 at_
        refine evb hn (evn ht ?_)
        have := list_nil x d (j + 1) hq
        rw [show j + 1 + d = 64 by omega] at this
        rw [this]
        exact Ev.now _
      · have h3 := sets_run x ht at_ d (j + 1) (i + 1) (j : Int) (by omega) (by omega) hq h2
        cases hz : listFrom x d (j + 1) with
        | nil => exact absurd hz hq
        | cons z zs =>
          rw [hz] at h2 h3
          rw [List.map_cons, List.cons_append] at h2
          obtain ⟨p2, hn⟩ := now_x h2 at_
          refine evb hn (evp rfl ?_)
          rw [List.length_cons, show i + ((z :: zs).length + 1) = i + 1 + (z :: zs).length by omega]
          exact h3
    · have e : listFrom x (d + 1) j = listFrom x d (j + 1) := by rw [listFrom, if_neg hb]
      rw [e] at h hne ⊢
      rw [← mod_skip (Bool.eq_false_iff.mpr hb)]
      exact sets_run x ht at_ d (j + 1) i last (by omega) (by omega) hne h
theorem sets_x {x : Nat} (hx : x < 18446744073709551616) {T : List Tn} {t : Tn} {ts : List Tn} {i : Nat} (ht : t.f0 ≠ 2) (at_ : Int) (hne : x ≠ 0) (h : Nx T i ((listFrom x 64 0).map tN ++ t :: ts)) :
    Ev (fun k => taskmasterref6_parser_sets.f k T (i : Int) 0 at_) ((x : Int), ((i + (listFrom x 64 0).length : Nat) : Int), 0, at_) := by
  have := sets_run x ht at_ 64 0 i (-1) (by omega) (by omega) (by rw [list_step hne hx]; simp) h
  rw [Nat.pow_zero, Nat.mod_one, Nat.mod_eq_of_lt (show x < 2 ^ 64 from hx)] at this
  exact this
theorem mode_x {x : Tk} (hx : TR x) {T : List Tn} {ts : List Tn} {i : Nat} (at_ : Int) (h : Nx T i (modeT x ++ ts)) : ∃ a, taskmasterref6_parser_mode.f T (i : Int) 0 at_ = some (a, x.f3, x.f5, x.f4, ((i + (modeT x).length : Nat) : Int), 0, at_) := by
  have hm := hx.1.2.2
  unfold taskmasterref6_parser_mode.f
  unfold modeT at h ⊢
  refine ⟨0, ?_⟩
  have ne1 : (B wFloat).toList ≠ (⟨#[102, 105, 120, 101, 100]⟩ : ByteArray).toList := by rw [ByteArray.toList_eq, ByteArray.toList_eq]; decide
  have ne2 : (B wThresh).toList ≠ (⟨#[102, 105, 120, 101, 100]⟩ : ByteArray).toList := by rw [ByteArray.toList_eq, ByteArray.toList_eq]; decide
  have ne3 : (B wThresh).toList ≠ (⟨#[102, 108, 111, 97, 116]⟩ : ByteArray).toList := by rw [ByteArray.toList_eq, ByteArray.toList_eq]; decide
  rcases hm with hm | hm | hm
  · rw [hm.1, if_neg (by decide), if_neg (by decide)] at h ⊢
    rw [eat_yes h at_ (a := (⟨#[102, 105, 120, 101, 100]⟩ : ByteArray)) rfl, Option.bind_some, if_pos rfl, hm.2.1, hm.2.2]
    rfl
  · rw [if_pos hm.1] at h ⊢
    obtain ⟨p, hk⟩ := kind_yes h.head.2.2 at_ (kd := 2) rfl
    rw [eat_no h at_ (Or.inr ne1), Option.bind_some, if_neg (by simp)]
    show (taskmasterref6_parser_eat.f T (i : Int) 0 at_ _).bind _ = _
    rw [eat_yes h at_ (a := (⟨#[102, 108, 111, 97, 116]⟩ : ByteArray)) rfl, Option.bind_some, if_pos rfl]
    show (taskmasterref6_parser_kind.f T ((i + 1 : Nat) : Int) 0 at_ 2).bind _ = _
    rw [hk, Option.bind_some, hm.1, hm.2.2]
    rfl
  · rw [hm.1, if_neg (by decide), if_pos rfl] at h ⊢
    obtain ⟨p, hk⟩ := kind_yes h.head.2.2 at_ (kd := 2) rfl
    rw [eat_no h at_ (Or.inr ne2), Option.bind_some, if_neg (by simp)]
    show (taskmasterref6_parser_eat.f T (i : Int) 0 at_ _).bind _ = _
    rw [eat_no h at_ (Or.inr ne3), Option.bind_some, if_neg (by simp)]
    show (taskmasterref6_parser_eat.f T (i : Int) 0 at_ _).bind _ = _
    rw [eat_yes h at_ (a := (⟨#[116, 104, 114, 101, 115, 104]⟩ : ByteArray)) rfl, Option.bind_some, if_pos rfl]
    show (taskmasterref6_parser_kind.f T ((i + 1 : Nat) : Int) 0 at_ 2).bind _ = _
    rw [hk, Option.bind_some, hm.2.1]
    rfl
theorem ne_ecb : (B wUcb).toList ≠ (⟨#[101, 99, 98]⟩ : ByteArray).toList ∧ (B [59]).toList ≠ (⟨#[101, 99, 98]⟩ : ByteArray).toList ∧ (B [59]).toList ≠ (⟨#[117, 99, 98]⟩ : ByteArray).toList := by
  refine ⟨?_, ?_, ?_⟩ <;> (rw [ByteArray.toList_eq, ByteArray.toList_eq]; decide)
theorem ucb_head (u : Nat) (ts : List Tn) : ∃ t ts', setT wUcb u ++ tW [59] :: ts = t :: ts' ∧ t.f0 = 3 ∧ t.f1.toList ≠ (⟨#[101, 99, 98]⟩ : ByteArray).toList := by
  unfold setT
  split
  · exact ⟨_, _, rfl, rfl, ne_ecb.2.1⟩
  · exact ⟨_, _, rfl, rfl, ne_ecb.1⟩
theorem j1_x {u : Nat} (hu : u < 18446744073709551616) {T : List Tn} {ts : List Tn} {i : Nat} (at_ : Int) (h : Nx T i (setT wUcb u ++ tW [59] :: ts)) (nm : ByteArray) (a b c d e : Int) (f : List Int) (g : Int) :
    Ev (fun k => taskmasterref6_parser_task.j1 k T (i : Int) 0 at_ nm a b c d e f g 0) (nm, a, b, c, d, e, f, g, (u : Int), ((i + (setT wUcb u).length + 1 : Nat) : Int), 0, at_) := by
  unfold setT at h ⊢
  by_cases q : u = 0
  · subst q
    rw [if_pos rfl] at h ⊢
    rw [List.nil_append] at h
    refine Ev.step (fun k => by rw [taskmasterref6_parser_task.j1]) ?_
    refine (evb (eat_no h at_ (Or.inr ne_ecb.2.2)) (evn (by simp) ?_))
    exact evb (need_yes h at_ (a := (⟨#[59]⟩ : ByteArray)) rfl) (Ev.now _)
  · rw [if_neg q] at h ⊢
    rw [List.cons_append] at h
    have h2 := h.head.2.2
    have hs := sets_x hu (t := tW [59]) (by decide) at_ q h2
    have h3 : Nx T (i + 1 + (listFrom u 64 0).length) (tW [59] :: ts) := by
      obtain ⟨hl, ha⟩ := h2
      refine ⟨hl, ?_⟩
      rw [← List.drop_drop]
      have : ∀ (xs : List Int) (D : List Tn), Alike (xs.map tN ++ tW [59] :: ts) D → Alike (tW [59] :: ts) (D.drop xs.length) := by
        intro xs
        induction xs with
        | nil => intro D hD; exact hD
        | cons x xs ih =>
          intro D hD
          cases D with
          | nil => exact hD.elim
          | cons y D => exact ih D hD.2
      exact this _ _ ha
    refine Ev.step (fun k => by rw [taskmasterref6_parser_task.j1]) ?_
    refine (evb (eat_yes h at_ (a := (⟨#[117, 99, 98]⟩ : ByteArray)) rfl) (evp rfl ?_))
    refine Ev.bind hs (evb (need_yes h3 at_ (a := (⟨#[59]⟩ : ByteArray)) rfl) ?_)
    rw [List.length_cons, List.length_map, show i + ((listFrom u 64 0).length + 1) + 1 = i + 1 + (listFrom u 64 0).length + 1 by omega]
    exact Ev.now _
theorem nx_skip {T : List Tn} : ∀ {xs : List Tn} {i : Nat} {ts : List Tn}, Nx T i (xs ++ ts) → Nx T (i + xs.length) ts
  | [], i, ts, h => h
  | x :: xs, i, ts, h => by
    have := nx_skip (xs := xs) (h.head.2.2)
    rw [List.length_cons, show i + (xs.length + 1) = i + 1 + xs.length by omega]
    exact this
theorem tail_x {e u : Nat} (he : e < 18446744073709551616) (hu : u < 18446744073709551616) {T : List Tn} {ts : List Tn} {i : Nat} (at_ : Int) (h : Nx T i (setT wEcb e ++ (setT wUcb u ++ tW [59] :: ts))) (nm : ByteArray) (a b c d th : Int) (f : List Int) :
    Ev (fun k => taskmasterref6_parser_task.l0 k T (i : Int) 0 at_ nm a b c d th f 0 0) (nm, a, b, c, d, th, f, (e : Int), (u : Int), ((i + (setT wEcb e).length + (setT wUcb u).length + 1 : Nat) : Int), 0, at_) := by
  obtain ⟨t, ts', ht, h3, hne⟩ := ucb_head u ts
  by_cases q : e = 0
  · subst q
    have h' := h
    rw [show setT wEcb 0 = [] from rfl, List.nil_append] at h
    have h0 := h
    rw [ht] at h
    obtain ⟨p, hn⟩ := now_x h at_
    refine Ev.step (fun k => by rw [taskmasterref6_parser_task.l0]) ?_
    refine evb hn (evn (by rw [h3]; show ¬ ((3 : Int) = 2); decide) (evb (eat_no h at_ (Or.inr hne)) (evn (by simp) ?_)))
    exact j1_x hu at_ h0 nm a b c d th f 0
  · have hh := h
    have hs : setT wEcb e = tW wEcb :: (listFrom e 64 0).map tN := by unfold setT; rw [if_neg q]
    rw [hs, List.cons_append] at h
    obtain ⟨p, hn⟩ := now_x h at_
    have h2 := h.head.2.2
    have h4 := nx_skip (xs := setT wEcb e) hh
    have hset := sets_x he (t := t) (ts := ts') (by rw [h3]; decide) at_ q (by rw [← ht]; exact h2)
    rw [hs, List.length_cons, List.length_map, show i + ((listFrom e 64 0).length + 1) = i + 1 + (listFrom e 64 0).length by omega] at h4
    refine Ev.step (fun k => by rw [taskmasterref6_parser_task.l0]) ?_
    refine (evb hn (evn (show ¬ ((3 : Int) = 2) by decide) (evb (eat_yes h at_ (a := (⟨#[101, 99, 98]⟩ : ByteArray)) rfl) (evp rfl (Ev.bind hset ?_)))))
    have := j1_x hu at_ h4 nm a b c d th f (e : Int)
    rw [hs, List.length_cons, List.length_map, show i + ((listFrom e 64 0).length + 1) = i + 1 + (listFrom e 64 0).length by omega]
    exact this
theorem reg_run {T : List Tn} {t : Tn} {ts : List Tn} (ht : t.f0 ≠ 2) (at_ : Int) (nm : ByteArray) (a b c d th : Int) {r : ByteArray × Int × Int × Int × Int × Int × List Int × Int × Int × Int × Int × Int} : ∀ (rs acc : List Int) (i : Nat), acc.length + rs.length ≤ 100 → Nx T i (rs.map tN ++ t :: ts) →
    Ev (fun k => taskmasterref6_parser_task.l0 k T ((i + rs.length : Nat) : Int) 0 at_ nm a b c d th (acc ++ rs) 0 0) r → Ev (fun k => taskmasterref6_parser_task.l0 k T (i : Int) 0 at_ nm a b c d th acc 0 0) r
  | [], acc, i, _, _, h => by rw [List.append_nil] at h; exact h
  | x :: rs, acc, i, hl, hx, h => by
    rw [List.map_cons, List.cons_append] at hx
    obtain ⟨p, hn⟩ := now_x hx at_
    obtain ⟨p2, hk⟩ := kind_yes hx at_ (kd := 2) rfl
    rw [List.length_cons] at hl
    refine Ev.step (fun k => by rw [taskmasterref6_parser_task.l0]) ?_
    refine (evb hn (evp rfl (evb hk (evp (by omega) ?_))))
    refine reg_run ht at_ nm a b c d th rs (acc ++ [x]) (i + 1) (by rw [List.length_append, List.length_singleton]; omega) hx.head.2.2 ?_
    rw [List.append_assoc, show i + 1 + rs.length = i + (x :: rs).length by rw [List.length_cons]; omega]
    exact h
theorem task_x {x : Tk} (hx : TR x) (h6 : 1 ≤ x.f6.length) {T : List Tn} {ts : List Tn} {i : Nat} (at_ : Int) (h : Nx T i (toksT x ++ tW [59] :: ts)) :
    Ev (fun k => taskmasterref6_parser_task.f k T (i : Int) 0 at_) (x.f0, x.f1, x.f2, x.f3, x.f4, x.f5, x.f6, x.f7, x.f8, ((i + (toksT x).length + 1 : Nat) : Int), 0, at_) := by
  have h7 := hx.1.1.2.2.2.2.2.2
  have h8 := hx.1.1.2.2.2.2.1
  have e7 : ((x.f7.toNat : Nat) : Int) = x.f7 := Int.toNat_of_nonneg h7.1.1
  have e8 : ((x.f8.toNat : Nat) : Int) = x.f8 := Int.toNat_of_nonneg h7.2.1
  cases hr : x.f6 with
  | nil => rw [hr] at h6; simp at h6
  | cons r0 rs =>
    have et : toksT x ++ tW [59] :: ts = tM x.f0 :: tW wPeriod :: tN x.f1 :: tW wDeadline :: tN x.f2 :: (modeT x ++ (tW wRegions :: tN r0 :: (rs.map tN ++ (setT wEcb x.f7.toNat ++ (setT wUcb x.f8.toNat ++ tW [59] :: ts))))) := by
      unfold toksT
      rw [hr]
      simp
    rw [et] at h
    obtain ⟨p0, k0⟩ := kind_yes h at_ (kd := 1) rfl
    have g1 := h.head.2.2
    have n1 := need_yes g1 at_ (a := (⟨#[112, 101, 114, 105, 111, 100]⟩ : ByteArray)) rfl
    have g2 := g1.head.2.2
    obtain ⟨p2, k2⟩ := kind_yes g2 at_ (kd := 2) rfl
    have g3 := g2.head.2.2
    have n3 := need_yes g3 at_ (a := (⟨#[100, 101, 97, 100, 108, 105, 110, 101]⟩ : ByteArray)) rfl
    have g4 := g3.head.2.2
    obtain ⟨p4, k4⟩ := kind_yes g4 at_ (kd := 2) rfl
    have g5 := g4.head.2.2
    obtain ⟨p5, k5⟩ := mode_x hx at_ g5
    have g6 := nx_skip g5
    have n6 := need_yes g6 at_ (a := (⟨#[114, 101, 103, 105, 111, 110, 115]⟩ : ByteArray)) rfl
    have g7 := g6.head.2.2
    obtain ⟨p7, k7⟩ := kind_yes g7 at_ (kd := 2) rfl
    have g8 := g7.head.2.2
    have g9 := nx_skip (xs := rs.map tN) g8
    rw [List.length_map] at g9
    have ht := tail_x (e := x.f7.toNat) (u := x.f8.toNat) (by omega) (by omega) at_ g9 x.f0 x.f1 x.f2 x.f3 x.f4 x.f5 ([r0] ++ rs)
    have hlen : (i + (toksT x).length + 1) = i + 1 + 1 + 1 + 1 + 1 + (modeT x).length + 1 + 1 + rs.length + (setT wEcb x.f7.toNat).length + (setT wUcb x.f8.toNat).length + 1 := by
      unfold toksT
      rw [hr]
      simp
      omega
    rw [e7, e8] at ht
    rw [hlen]
    have hloop : Ev (fun k => taskmasterref6_parser_task.l0 k T ((i + 1 + 1 + 1 + 1 + 1 + (modeT x).length + 1 + 1 : Nat) : Int) 0 at_ x.f0 x.f1 x.f2 x.f3 x.f4 x.f5 [r0] 0 0) (x.f0, x.f1, x.f2, x.f3, x.f4, x.f5, [r0] ++ rs, x.f7, x.f8, ((i + 1 + 1 + 1 + 1 + 1 + (modeT x).length + 1 + 1 + rs.length + (setT wEcb x.f7.toNat).length + (setT wUcb x.f8.toNat).length + 1 : Nat) : Int), 0, at_) := by
      obtain ⟨t, ts', hq, h3⟩ : ∃ t ts', setT wEcb x.f7.toNat ++ (setT wUcb x.f8.toNat ++ tW [59] :: ts) = t :: ts' ∧ t.f0 = 3 := by
        obtain ⟨t, ts', hq, h3, _⟩ := ucb_head x.f8.toNat ts
        by_cases z : x.f7.toNat = 0
        · rw [z, show setT wEcb 0 = [] from rfl, List.nil_append]; exact ⟨t, ts', hq, h3⟩
        · rw [show setT wEcb x.f7.toNat = tW wEcb :: (listFrom x.f7.toNat 64 0).map tN by unfold setT; rw [if_neg z]]; exact ⟨_, _, rfl, rfl⟩
      rw [hq] at g8
      exact reg_run (t := t) (ts := ts') (by rw [h3]; decide) at_ x.f0 x.f1 x.f2 x.f3 x.f4 x.f5 rs [r0] _ (by rw [hr, List.length_cons] at h8; rw [List.length_singleton]; omega) g8 ht
    unfold taskmasterref6_parser_task.f
    refine evb k0 (evb n1 (evb k2 (evb n3 (evb k4 (evb k5 (evb n6 (evb k7 (evp (by decide) ?_))))))))
    exact hloop
def AllT (l : List Tk) : Prop := ∀ i : Nat, i < l.length → Ev (fun k => taskmasterref5_Is.f k (rdT l (i : Int)).f0 (rdT l (i : Int)).f1 (rdT l (i : Int)).f2 (rdT l (i : Int)).f3 (rdT l (i : Int)).f4 (rdT l (i : Int)).f5 (rdT l (i : Int)).f6 (rdT l (i : Int)).f7 (rdT l (i : Int)).f8 (i : Int)) true ∧
  ∀ j : Nat, j < i → (rdT l (j : Int)).f0.toList ≠ (rdT l (i : Int)).f0.toList
theorem all_from (r : Int) (l : List Tk) (hl : l.length ≤ 8) (hs : ∀ y ∈ l, y.f0.size ≤ 9223372036854775807) (d : Nat) : ∀ i : Nat, i + d = l.length → Ev (fun k => taskmasterref5_All.l0 k (i : Int) r l) true → ∀ q : Nat, i ≤ q → q < l.length →
    Ev (fun k => taskmasterref5_Is.f k (rdT l (q : Int)).f0 (rdT l (q : Int)).f1 (rdT l (q : Int)).f2 (rdT l (q : Int)).f3 (rdT l (q : Int)).f4 (rdT l (q : Int)).f5 (rdT l (q : Int)).f6 (rdT l (q : Int)).f7 (rdT l (q : Int)).f8 (q : Int)) true ∧ ∀ j : Nat, j < q → (rdT l (j : Int)).f0.toList ≠ (rdT l (q : Int)).f0.toList := by
  induction d with
  | zero => intro i hi _ q h1 h2; exact absurd h2 (by omega)
  | succ d ih =>
    intro i hi h
    have hil : i < l.length := by omega
    have hm : rdT l (i : Int) ∈ l := List.mem_of_mem_drop (i := i) (by rw [rdT_drop hil]; exact List.mem_cons_self)
    have h1 : Ev (fun k => (taskmasterref5_Is.f k (rdT l (i : Int)).f0 (rdT l (i : Int)).f1 (rdT l (i : Int)).f2 (rdT l (i : Int)).f3 (rdT l (i : Int)).f4 (rdT l (i : Int)).f5 (rdT l (i : Int)).f6 (rdT l (i : Int)).f7 (rdT l (i : Int)).f8 (i : Int)).bind fun b => if b = true then taskmasterref5_All.l1 k (i : Int) 0 r l else some false) true := ev_step_inv (fun k => by rw [taskmasterref5_All.l0, if_pos (by omega), if_pos (by omega)]) h
    obtain ⟨b, hb, _⟩ := RefSetN.is_ends (rdT l (i : Int)) (i : Int) (hs _ hm)
    have h2 := ev_bind_inv hb h1
    cases b with
    | false =>
      have := ev_uniq (ev_neg_inv (by simp) h2) (Ev.now false)
      cases this
    | true =>
      have h3 := ev_pos_inv rfl h2
      have inner : ∀ d' j : Nat, j + d' = i → Ev (fun k => taskmasterref5_All.l1 k (i : Int) (j : Int) r l) true → (∀ p : Nat, j ≤ p → p < i → (rdT l (p : Int)).f0.toList ≠ (rdT l (i : Int)).f0.toList) ∧ Ev (fun k => taskmasterref5_All.l0 k ((i + 1 : Nat) : Int) r l) true := by
        intro d'
        induction d' with
        | zero =>
          intro j hj hv
          have h4 : Ev (fun k => taskmasterref5_All.l0 k ((i + 1 : Nat) : Int) r l) true := ev_step_inv (fun k => by rw [taskmasterref5_All.l1, if_neg (by omega), wi (by omega)]) hv
          exact ⟨fun p h1 h2 => absurd h2 (by omega), h4⟩
        | succ d' ih' =>
          intro j hj hv
          have h4 : Ev (fun k => if (rdT l (j : Int)).f0.toList = (rdT l (i : Int)).f0.toList then some false else taskmasterref5_All.l1 k (i : Int) ((j + 1 : Nat) : Int) r l) true := ev_step_inv (fun k => by rw [taskmasterref5_All.l1, if_pos (by omega), if_pos (by omega), if_pos (by omega), if_pos (by omega), if_pos (by omega), wi (by omega)]) hv
          by_cases q : (rdT l (j : Int)).f0.toList = (rdT l (i : Int)).f0.toList
          · have := ev_uniq (ev_pos_inv q h4) (Ev.now false)
            cases this
          · have h5 := ev_neg_inv q h4
            obtain ⟨h6, h7⟩ := ih' (j + 1) (by omega) h5
            refine ⟨fun p h1 h2 => ?_, h7⟩
            by_cases e : p = j
            · rw [e]; exact q
            · exact h6 p (by omega) h2
      obtain ⟨h4, h5⟩ := inner i 0 (by omega) h3
      intro q q1 q2
      by_cases e : q = i
      · subst e
        exact ⟨hb, fun j hj => h4 j (Nat.zero_le _) hj⟩
      · exact ih (i + 1) (by omega) h5 q (by omega) q2
theorem all_true {r : Int} {l : List Tk} (hs : ∀ y ∈ l, y.f0.size ≤ 9223372036854775807) (h : Ev (fun k => taskmasterref5_All.f k r l) true) (hok : RefSetN.SetOK r l) : AllT l := by
  obtain ⟨h0, h1, h2, h3, _⟩ := hok
  unfold taskmasterref5_All.f at h
  have k1 := ev_bind_inv (a := decide (0 ≤ r ∧ r ≤ 10000)) (by rw [RefSetN.in_eq]; exact Ev.now _) h
  have k2 := ev_neg_inv (by omega) (ev_pos_inv (decide_eq_true ⟨h0, h1⟩) k1)
  rw [decide_eq_false (by omega)] at k2
  have k3 : Ev (fun k => taskmasterref5_All.l0 k 0 r l) true := ev_step_inv (fun k => by rw [taskmasterref5_All.j0, if_neg (by simp)]) k2
  intro i hi
  exact all_from r l h3 hs l.length 0 (by omega) k3 i (Nat.zero_le _) hi
theorem odd_none (r : Int) {l : List Tk} (hl : l.length ≤ 8) (h : AllT l) : Ev (fun k => taskmasterref6_odd.f k r l) (-1) := by
  have out : ∀ d i : Nat, i + d = l.length → Ev (fun k => taskmasterref6_odd.l0 k (i : Int) r l) (-1) := by
    intro d
    induction d with
    | zero => intro i hi; (refine Ev.step (fun k => by rw [taskmasterref6_odd.l0]) ?_; exact (evn (by omega) (Ev.now _)))
    | succ d ih =>
      intro i hi
      obtain ⟨h1, h2⟩ := h i (by omega)
      have next := ih (i + 1) (by omega)
      have inner : ∀ d' j : Nat, j + d' = i → Ev (fun k => taskmasterref6_odd.l1 k (i : Int) (j : Int) r l) (-1) := by
        intro d'
        induction d' with
        | zero => intro j hj; refine Ev.step (fun k => by rw [taskmasterref6_odd.l1]) (evn (by omega) ?_); rw [wi (by omega)]; exact next
        | succ d' ih' =>
          intro j hj
          refine Ev.step (fun k => by rw [taskmasterref6_odd.l1]) ?_
          refine (evp (by omega) (evp (by omega) (evp (by omega) (evp (by omega) (evp (by omega) (evn (h2 j (by omega)) ?_))))))
          rw [wi (by omega)]; exact ih' (j + 1) (by omega)
      refine Ev.step (fun k => by rw [taskmasterref6_odd.l0]) ?_
      exact (evp (by omega) (evp (by omega) (Ev.bind h1 (evp rfl (inner i 0 (by omega))))))
  exact out l.length 0 (by omega)
theorem name_true {x : Tk} {p : Int} (hs : x.f0.size ≤ 9223372036854775807) (hB : RefSetN.NameB x.f0) (h : Ev (fun k => taskmasterref5_Is.f k x.f0 x.f1 x.f2 x.f3 x.f4 x.f5 x.f6 x.f7 x.f8 p) true) : NameOK x.f0 := by
  unfold taskmasterref5_Is.f at h
  obtain ⟨b, hb, _⟩ := RefSetN.name_ends x.f0 hs
  have h1 := ev_bind_inv hb h
  cases b with
  | false =>
    have h2 : Ev (fun _ => some false) true := ev_step_inv (fun k => by rw [taskmasterref5_Is.j0, if_pos rfl]) (ev_neg_inv (by simp) h1)
    have := ev_uniq h2 (Ev.now false)
    cases this
  | true =>
    clear h h1
    unfold taskmasterref4_Name.f at hb
    have hsz : ¬ ((x.f0.size : Int) = 0) := fun z => by
      have := ev_uniq (ev_pos_inv z hb) (Ev.now false)
      cases this
    have k1 := ev_bind_inv (a := decide (97 ≤ bt x.f0 0 ∧ bt x.f0 0 ≤ 122)) (by rw [RefSetN.small_eq]; exact Ev.now _) (ev_pos_inv (by omega) (ev_neg_inv hsz hb))
    by_cases hsm : 97 ≤ bt x.f0 0 ∧ bt x.f0 0 ≤ 122
    · have hc : ∃ c r, x.f0.data.toList = c :: r ∧ 97 ≤ c.toNat ∧ c.toNat ≤ 122 := by
        cases hq : x.f0.data.toList with
        | nil => have := size_of x.f0; rw [hq] at this; simp at this; omega
        | cons c r =>
          rw [B_of x.f0, hq, bt_0] at hsm
          exact ⟨c, r, rfl, by omega, by omega⟩
      refine ⟨hc, ?_⟩
      obtain ⟨b, hw⟩ := RefSetN.word_ends x.f0
      cases b with
      | false => exact hw
      | true =>
        exfalso
        have k2 := ev_pos_inv (decide_eq_true hsm) k1
        have he : Ev (fun k => taskmasterref4_one.f k x.f0) (3, x.f0, 0, 0, (x.f0.size : Int)) := by
          obtain ⟨c, r, e, hc⟩ := hc
          have hlen := size_of x.f0
          have hnm := nameB_ok hB
          have hj : Ev (fun k => taskmasterref4_one.j3 k x.f0 (x.f0.size : Int)) (3, x.f0, 0, 0, (x.f0.size : Int)) := by
            have hx : x.f0.extract 0 ((x.f0.size : Int)).toNat = x.f0 := by
              rw [Int.toNat_natCast]
              conv => lhs; rw [B_of x.f0, ext_take, B_size, List.take_of_length_le (Nat.le_refl _)]
              rfl
            refine Ev.step (fun k => by rw [taskmasterref4_one.j3]) ?_
            refine (evp (by omega) (evp (by omega) ?_))
            rw [hx]
            exact Ev.bind hw (evp rfl (Ev.now _))
          have hl : ∀ d i : Nat, i + d = x.f0.size → Ev (fun k => taskmasterref4_one.l1 k x.f0 (i : Int)) (3, x.f0, 0, 0, (x.f0.size : Int)) := by
            intro d
            induction d with
            | zero => intro i hi; refine Ev.step (fun k => by rw [taskmasterref4_one.l1]) (evn (by omega) ?_); rw [show (i : Int) = (x.f0.size : Int) by omega]; exact hj
            | succ d ih =>
              intro i hi
              have more := ih (i + 1) (by omega)
              have h12 := hB.1
              rw [← wi (by omega)] at more
              have hok := hB.2 i (by omega)
              refine Ev.step (fun k => by rw [taskmasterref4_one.l1]) ?_
              refine (evp (by omega) (evp (by omega) (evb (RefSetN.small_eq _) ?_)))
              by_cases c1 : 97 ≤ bt x.f0 (i : Int) ∧ bt x.f0 (i : Int) ≤ 122
              · exact evp (decide_eq_true c1) more
              · refine evn (by simpa using c1) (evb (RefSetN.digit_eq _) ?_)
                by_cases c2 : 48 ≤ bt x.f0 (i : Int) ∧ bt x.f0 (i : Int) ≤ 57
                · exact evp (decide_eq_true c2) more
                · refine evn (by simpa using c2) (evp ?_ more)
                  rcases hok with h1 | h1 | h1
                  · exact absurd h1 c1
                  · exact absurd h1 c2
                  · exact h1
          unfold taskmasterref4_one.f
          exact evp (by omega) (evn (by omega) (evb (RefSetN.digit_eq _) (evn (by simp; omega) (evb (RefSetN.small_eq _) (evp (decide_eq_true hsm) (hl x.f0.size 0 (by omega)))))))
        have q : Ev (fun _ => if (x.f0.size : Int) = (x.f0.size : Int) then some ((3 : Int) == 1) else some false) true := ev_bind_inv (f := fun _ b => if b.2.2.2.2 = (x.f0.size : Int) then some (b.1 == 1) else some false) he k2
        have k3 := ev_uniq (ev_pos_inv rfl q) (Ev.now ((3 : Int) == 1))
        exact absurd k3 (by decide)
    · have k2 := ev_neg_inv (by simpa using hsm) k1
      have := ev_uniq k2 (Ev.now false)
      cases this
theorem parse_run {r : Int} {l : List Tk} {s : ByteArray} {T : List Tn} {z : Tn} (hz : z.f0 = 4) (hx : ∀ x ∈ l, TR x ∧ 1 ≤ x.f6.length) (hodd : Ev (fun k => taskmasterref6_odd.f k r l) (-1)) (hall : Ev (fun k => taskmasterref5_All.f k r l) true) (at_ : Int) :
    ∀ (m acc : List Tk) (pl : List Int) (i : Nat), acc ++ m = l → l.length ≤ 8 → pl.length ≤ acc.length → Nx T i (toksL m ++ [z]) → Ev (fun k => taskmasterref6_Parse.l0 k pl s T (i : Int) 0 at_ r acc) (r, l, (s.size : Int), 0)
  | [], acc, pl, i, e, hl, hp, h => by
    rw [List.append_nil] at e
    subst e
    obtain ⟨p, hn⟩ := now_x (t := z) (ts := []) h at_
    refine Ev.step (fun k => by rw [taskmasterref6_Parse.l0]) ?_
    refine (evp rfl (evb hn ?_))
    show Ev (fun k => taskmasterref6_Parse.j1 k pl (z.f0 != 4) s T (i : Int) 0 at_ r acc) _
    rw [hz]
    refine Ev.step (fun k => by rw [taskmasterref6_Parse.j1]) ?_
    refine (evn (by decide) (evp rfl (Ev.bind hodd (evn (by decide) (Ev.bind hall (evp rfl (Ev.now _)))))))
  | x :: m, acc, pl, i, e, hl, hp, h => by
    have hlen := congrArg List.length e
    rw [List.length_append, List.length_cons] at hlen
    have hxm := hx x (by rw [← e]; simp)
    have h1 : Nx T i (tW wTask :: (toksT x ++ tW [59] :: (toksL m ++ [z]))) := by
      have : toksL (x :: m) ++ [z] = tW wTask :: (toksT x ++ tW [59] :: (toksL m ++ [z])) := by simp [toksL]
      rw [this] at h; exact h
    obtain ⟨p, hn⟩ := now_x h1 at_
    have n1 := need_yes h1 at_ (a := (⟨#[116, 97, 115, 107]⟩ : ByteArray)) rfl
    have h2 := h1.head.2.2
    have ht := task_x hxm.1 hxm.2 at_ h2
    have h3 : Nx T (i + 1 + (toksT x).length + 1) (toksL m ++ [z]) := (nx_skip h2).head.2.2
    refine Ev.step (fun k => by rw [taskmasterref6_Parse.l0]) ?_
    refine (evp rfl (evb hn ?_))
    show Ev (fun k => taskmasterref6_Parse.j1 k pl true s T (i : Int) 0 at_ r acc) _
    refine Ev.step (fun k => by rw [taskmasterref6_Parse.j1]) ?_
    refine (evp rfl (evb hn (evp (by omega) (evb n1 (Ev.bind ht (evp (by omega) ?_))))))
    exact parse_run hz hx hodd hall at_ m (acc ++ [x]) (pl ++ [p]) (i + 1 + (toksT x).length + 1) (by rw [List.append_assoc]; exact e) hl (by rw [List.length_append, List.length_append]; simpa using hp) h3
theorem parse_ev {r : Int} {l : List Tk} (h0 : 0 ≤ r) (h1 : r ≤ 10000) (hl : l.length ≤ 8) (hx : ∀ x ∈ l, TR x ∧ 1 ≤ x.f6.length) (hodd : Ev (fun k => taskmasterref6_odd.f k r l) (-1)) (hall : Ev (fun k => taskmasterref5_All.f k r l) true) :
    ∃ a b c d, Ev (fun k => taskmasterref6_Parse.f k (B (textL r l))) (a, b, c, d) ∧ (d = 3 ∨ (d = 0 ∧ a = r ∧ b = l)) := by
  unfold taskmasterref6_Parse.f
  by_cases hL : (textL r l).length ≤ 4000
  · obtain ⟨ys, z, ha, hz, ht⟩ := tk_text h0 h1 (fun x hm => (hx x hm).1) hL
    refine ⟨r, l, ((B (textL r l)).size : Int), 0, ?_, Or.inr ⟨rfl, rfl, rfl⟩⟩
    refine Ev.bind ht ?_
    refine evp rfl ?_
    show Ev (fun k => taskmasterref6_Parse2.f k (B (textL r l)) (ys ++ [z])) _
    have hlen : (ys ++ [z]).length ≤ 100000 := by
      have q1 := alike_len ha
      rw [List.length_append, List.length_singleton, ← q1]
      have : ∀ m : List Tk, m.length ≤ 8 → (∀ x ∈ m, TR x ∧ 1 ≤ x.f6.length) → (toksL m).length ≤ 1000 * m.length := by
        intro m
        induction m with
        | nil => intro _ _; simp [toksL]
        | cons x m ih =>
          intro h8 hm
          have i1 := ih (by rw [List.length_cons] at h8; omega) (fun y hy => hm y (List.mem_cons_of_mem _ hy))
          have i2 := (hm x List.mem_cons_self).1.1.1.2.2.2.2.1
          have s1 := listFrom_le x.f7.toNat 64 0
          have s2 := listFrom_le x.f8.toNat 64 0
          have m1 : (modeT x).length ≤ 2 := by
            unfold modeT
            split
            · simp
            · split <;> simp
          have e1 : (setT wEcb x.f7.toNat).length ≤ 65 := by
            unfold setT
            split
            · simp
            · rw [List.length_cons, List.length_map]; omega
          have e2 : (setT wUcb x.f8.toNat).length ≤ 65 := by
            unfold setT
            split
            · simp
            · rw [List.length_cons, List.length_map]; omega
          have : toksL (x :: m) = tW wTask :: (toksT x ++ [tW [59]]) ++ toksL m := by simp [toksL]
          rw [this]
          simp only [List.length_append, List.length_cons, List.length_nil]
          have ht : (toksT x).length ≤ 5 + 2 + 1 + 8 + 65 + 65 := by
            unfold toksT
            simp only [List.length_append, List.length_cons, List.length_map, List.length_nil]
            omega
          try simp only [List.length_singleton]
          omega
      have := this l hl hx
      simp only [List.length_cons]
      omega
    have n0 : Nx (ys ++ [z]) 0 (tW [114, 101, 108, 111, 97, 100] :: tN r :: tW [59] :: (toksL l ++ [z])) := ⟨hlen, by rw [List.drop_zero]; exact alike_app (c := [z]) (d := [z]) ha ⟨⟨rfl, rfl, rfl⟩, trivial⟩⟩
    have n1 := n0.head.2.2
    have n2 := n1.head.2.2
    have n3 := n2.head.2.2
    obtain ⟨p, hk⟩ := kind_yes n1 0 (kd := 2) rfl
    unfold taskmasterref6_Parse2.f
    refine evb (show newP.f (ys ++ [z]) = some (ys ++ [z], 0, 0, 0) from rfl) (evb (need_yes n0 0 (a := (⟨#[114, 101, 108, 111, 97, 100]⟩ : ByteArray)) rfl) (evb hk (evb (need_yes n2 0 (a := (⟨#[59]⟩ : ByteArray)) rfl) ?_)))
    exact parse_run hz hx hodd hall 0 l [] [] 3 rfl hl (Nat.le_refl _) n3
  · refine ⟨0, [], 0, 3, ?_, Or.inl rfl⟩
    refine Ev.bind (a := (([] : List Tn), (0 : Int), (3 : Int))) ?_ ?_
    rotate_left
    · exact evn (by decide) (Ev.now _)
    unfold taskmasterref4_Tokens.f
    exact evp (by rw [B_size]; omega) (Ev.now _)
theorem ShowBack (a0 : S24) (w0 : wf24 a0) : ∃ k : Nat, taskmasterlaw7_ShowBack.f k a0.f0 a0.f1 = some true := by
  refine Ev.rounds ?_
  unfold taskmasterlaw7_ShowBack.f
  have yes : Ev (fun k => taskmasterlaw7_ShowBack.j0 k true a0.f0 a0.f1) true := Ev.step (fun k => by rw [taskmasterlaw7_ShowBack.j0, if_pos rfl]) (Ev.now true)
  by_cases c0 : (a0.f1.length : Int) > 10
  · exact evp c0 yes
  refine evn c0 ?_
  have hu := u_of w0
  obtain ⟨b, hb, hok⟩ := RefSetN.all_ends a0.f0 a0.f1 hu.1
  refine Ev.bind hb ?_
  cases b with
  | false => exact yes
  | true =>
    have hs := hok rfl
    have t := tt_of hs hu.2
    have hA := all_true hu.1 hb hs
    have hx : ∀ x ∈ a0.f1, TR x ∧ 1 ≤ x.f6.length := by
      intro x hm
      obtain ⟨i, hi, e⟩ := List.getElem_of_mem hm
      have ex : rdT a0.f1 (i : Int) = x := by
        unfold rdT rd_T30
        rw [Int.toNat_natCast, List.getD_eq_getElem?_getD, List.getElem?_eq_getElem hi]
        exact e
      have ht := hs.2.2.2.2 (i : Int) (by omega) (by omega)
      rw [show rd_T30 a0.f1 (i : Int) = x from ex] at ht
      have hI := (hA i hi).1
      rw [ex] at hI
      obtain ⟨hN, h61, _, _, _, _, _, _, h9⟩ := ht
      have hl8 := hs.2.2.2.1
      refine ⟨⟨t x hm, name_true (hu.1 x hm) hN hI, ?_, ?_⟩, h61⟩
      · rcases h9 with h9 | h9 | h9 <;> omega
      · rcases h9 with h9 | h9 | h9 <;> omega
    obtain ⟨x0, x1, x2, x3, hp, hd⟩ := parse_ev hs.1 hs.2.1 hs.2.2.2.1 hx (odd_none a0.f0 hs.2.2.2.1 hA) hb
    refine Ev.step (fun k => by rw [taskmasterlaw7_ShowBack.j0]) ?_
    refine (evn (by simp) ?_)
    refine Ev.bind (text_ev a0.f0 hs.1 hs.2.1 a0.f1 hs.2.2.2.1 (tb_of hs hu.2)) (Ev.bind hp ?_)
    rcases hd with rfl | ⟨rfl, rfl, rfl⟩
    · exact evp rfl (Ev.bind known7 (Ev.now true))
    · obtain ⟨b, eb, hb2⟩ := same_ev a0.f0 a0.f0 a0.f1 a0.f1 hs.2.2.2.1 (fun x hm => by have := (t x hm).1.2.2.2.2.1; omega) (fun x hm => by have := (t x hm).1.2.2.2.2.1; omega)
      rw [hb2.mpr ⟨rfl, rfl⟩] at eb
      exact evn (show ¬ ((0 : Int) = 3) by decide) (evp rfl (Ev.bind eb (evp rfl (Ev.bind known7 (Ev.now true)))))
end Go.Proofs.YtkdndgclldlddaaDoor.Pure
namespace Go.Proofs.YtkdndgclldlddaaDoor.QSb
open Go.RowKit
set_option linter.unusedVariables false
abbrev laidL : List (String × DataW Unit) := [("math/bits.deBruijn32tab", Rows.laid_math_bits_deBruijn32tab), ("math/bits.deBruijn64tab", Rows.laid_math_bits_deBruijn64tab), ("internal/strconv.uint64pow10", Rows.laid_internal_strconv_uint64pow10)]
def tabZ : List Int := List.map Int.ofNat Lib.deBruijn64tab
theorem vars_tail {W : World} {x : String × DataW Unit} {r : List (String × DataW Unit)} {ps : List MemPlace} (h : DataW.LaidVars Tryd.prog W (x :: r) ps) : ∃ q, DataW.LaidVars Tryd.prog W r q := by
  obtain ⟨_, _, _, _, _, q, _, _, _, _, h2, _⟩ := h
  exact ⟨q, h2⟩
theorem tab_of_vars {W : World} {name : String} {k : IntKind} {zs : List Int} {rest : List (String × DataW Unit)} {ps : List MemPlace} {g : Nat} {t e : TypeId} {n : Nat}
    (hg : Tryd.prog.globalNamed name = some g) (hty : (Tryd.prog.globals[g]?).map (·.type) = some t) (ht : Tryd.prog.underlying t = some (.array n e)) (he : Tryd.prog.underlying e = some (.int k)) (hce : Tryd.prog.cellsOf e = 1) (hct : Tryd.prog.cellsOf t = n)
    (h : DataW.LaidVars Tryd.prog W ((name, Lib.tabData k zs) :: rest) ps) : Lib.TabIs Tryd.prog W name k zs := by
  obtain ⟨g', t', cs, fuel, p, q, hg', ht', hvar, hd, _, _⟩ := h
  obtain rfl := Option.some.inj (hg.symm.trans hg')
  obtain rfl := Option.some.inj (hty.symm.trans ht')
  unfold Lib.TabIs
  rw [hvar, ← Lib.cells_of_tab ht he hce hct hd]
theorem laid_eq : (laidL : List (String × DataW Unit)) = [("math/bits.deBruijn32tab", Rows.laid_math_bits_deBruijn32tab), ("math/bits.deBruijn64tab", Lib.tabData .u8 tabZ), ("internal/strconv.uint64pow10", Lib.tabData .u64 Lib.pow10Tab)] := by rfl
theorem gTab : Tryd.prog.globalNamed "math/bits.deBruijn64tab" = some 0 := by kernel_rfl
theorem tTab : (Tryd.prog.globals[0]?).map (·.type) = some 118 := by kernel_rfl
theorem tPow : (Tryd.prog.globals[2]?).map (·.type) = some 130 := by kernel_rfl
theorem tab_of_laid {W : World} (h : laidMetH Tryd.prog laidL W) : TabW W := by
  rw [MakeChecks.laidMetH_plain _ _ _ (by kernel_rfl), laid_eq] at h
  obtain ⟨ps, hv, _⟩ := h
  obtain ⟨q1, h1⟩ := vars_tail hv
  obtain ⟨q2, h2⟩ := vars_tail h1
  have ht : Lib.TabIs Tryd.prog W "math/bits.deBruijn64tab" .u8 tabZ := tab_of_vars (e := 5) (n := 64) gTab tTab (by kernel_rfl) (by kernel_rfl) (by kernel_rfl) (by kernel_rfl) h1
  have hp : Lib.TabIs Tryd.prog W "internal/strconv.uint64pow10" .u64 Lib.pow10Tab := tab_of_vars (e := 28) (n := 20) gPow tPow (by kernel_rfl) (by kernel_rfl) (by kernel_rfl) (by kernel_rfl) h2
  have all : TabAt 0 Lib.deBruijn64tab W := fun j hj => by
    have hl : tabZ.length = 64 := by decide
    have hj' : j < 64 := hj
    rw [ht.cell gTab j (by omega)]
    have e : tabZ.getD j 0 = ((Lib.deBruijn64tab.getD j 0 : Nat) : Int) := (show ∀ j, j < 64 → tabZ.getD j 0 = ((Lib.deBruijn64tab.getD j 0 : Nat) : Int) by decide) j hj'
    rw [e]
  exact ⟨⟨World.block_lt_of_cell? W _ (all 0 (by decide)), all⟩, hp⟩
theorem door_met (os : Os) (args : Array Value) : laidMetH Tryd.prog laidL ((World.doorLaid Tryd.prog 14 os).forCall (fun _ _ => 0) ⟨#[], args, []⟩).memory :=
  laidMetH_of_parts3 (fuel := 8) (laidMet_of_run' 8 (by kernel_rfl) (by kernel_rfl)) (by kernel_rfl) (by kernel_rfl)
end Go.Proofs.YtkdndgclldlddaaDoor.QSb
namespace Go.Proofs.YtkdndgclldlddaaDoor.showBack
open Go.ChangeShapes Go.WideShapes Go.ChangeAt Go.RowKit
open Go.ChangeMaps (open_string shut_string)
open Go.Proofs.YtkdndgclldlddaaDoorW.PrintWords Go.Proofs.YtkdndgclldlddaaDoorW.PrintLast Go.Proofs.YtkdndgclldlddaaDoor.QSb Go.Proofs.YtkdndgclldlddaaDoor.Open
set_option linter.unusedVariables false
theorem own : ownKnob Tryd.prog.godebug = none := by kernel_rfl
theorem laidOut : laidOutB Tryd.prog = true := by kernel_rfl
set_option maxRecDepth 100000 in
theorem lifted (os : Os) (started : os.Started) (H : Type) (enc : TypeId × Value → H) :
    ReturnsInHanded {} Tryd.checked os 4 .any (fun w args => (Rows.showBackSpec.pre enc Tryd.prog Tryd.f4 [] false w args ∧ laidMetH Tryd.prog laidL w) ∧ sizedMet enc Tryd.prog Tryd.f4 (OpenSpec.ofChange Rows.showBackSpec) false w args) (Rows.showBackSpec.post enc Tryd.prog Tryd.f4 false true false false) := by
  refine returnsInHanded_of_change_and (C := Tryd.checked) (X := fun w _ => laidMetH Tryd.prog laidL w) (fun _ _ _ hh h => h.of_heap hh) own started (by kernel_rfl) Tryd.func4
    (ChangeSpec.witness_shaped (enc := enc) (C := Tryd.checked) (os := os) (X := fun w _ => laidMetH Tryd.prog laidL w) false (World.doorLaid Tryd.prog 14 os) #[.agg #[.int .i64 0, .slice none 0 0]] 8 rfl (World.shaped_of_RefB (by kernel_rfl) (by kernel_rfl)) (by kernel_rfl) (by kernel_rfl) (by kernel_rfl) (door_met os _)) ?_
  intro W base args ds gs before hval0 hW hcnd hsz0 hL _
  have hTab := tab_of_laid hL
  clear hL
  have hsz : (DataW.weightsEach Tryd.prog (Tryd.f4.params.toList ++ Rows.showBackSpec.plain.varTypes Tryd.prog) (ds ++ gs)).all (· ≤ reachBytes) = true := hsz0
  have hval : ∀ (j : Nat) t v, Tryd.f4.params[j]? = some t → args[j]? = some v → Value.okWide Tryd.prog W .any base t v := hval0
  have hW' := hW
  obtain ⟨p, q, hA0, hV, rfl, hfz, hnd⟩ := hW
  have hA : DataW.TrodAll enc Tryd.prog W 0 (fun _ => true) true Tryd.f4.params.toList args.toList ds p := hA0
  rw [Tryd.params4] at hA hval hsz
  obtain ⟨v0, vs0, d0, ds0, p0, q0, hargs, rfl, rfl, h0, r0⟩ := trodAll_cons hA
  obtain ⟨rfl, rfl, rfl⟩ := trodAll_nil r0
  obtain rfl : args = #[v0] := by cases args; simp_all
  obtain ⟨rfl, rfl⟩ := trodVars_none hV
  have k0 := h0
  have lt0 : ∀ x ∈ p0, x.block < W.heap.size := by obtain ⟨m, hm⟩ := k0; exact DataW.trod_lt m _ _ _ hm
  obtain ⟨a0, cs0, rfl, hk0, hw0⟩ := arg_struct Tryd.underlying24 (hval 0 24 v0 rfl rfl) opens24 h0
  obtain ⟨A0_1, c0_1, rfl, hc0_1, hr0_1⟩ := k24_open hk0
  clear hA0 hval0 hsz0 hsz
  obtain ⟨k, hk⟩ := Pure.ShowBack a0 hw0
  refine (taskmasterlaw7_ShowBack.calls (w := W) (h := hk) (hT := hTab) (hc0_1 := hc0_1) (hr0_1 := hr0_1)).mono fun e W' ⟨he, bel0⟩ => ?_
  have bel : Below W.heap.size W W' := bel0
  subst he
  exact ⟨_, rfl, _, _, _, [], _, [], hW', trodAll_mk1 (shut_bool Tryd.underlying4 _), (trodAll_cons_mk (Below.trod laidOut (by kernel_rfl) (of_decide_eq_true (by kernel_rfl)) k0 bel lt0) trodAll_mk0), rfl, bel.frame _, fun h => by cases h⟩
theorem over : Rows.showBackRow.holds Tryd.pinned (OpenSpec.ofChange Rows.showBackSpec) :=
  OpenClaim.holds_of_wide 4 Tryd.f4 rfl rfl rfl rfl rfl rfl rfl ⟨rfl, rfl, rfl, rfl, rfl⟩ rfl rfl rfl rfl rfl (by kernel_rfl) Tryd.func4 (by kernel_rfl)
    (of_decide_eq_true (by kernel_rfl)) (by unfold Func.isWrapper; first | (rw [if_pos (by decide +kernel)]; kernel_rfl) | (rw [if_neg (by decide +kernel)]; exact ⟨rfl, rfl⟩))
    (fun os started H enc _ => lifted os started H enc)
theorem proved : Rows.ShowBackSaid := over
end Go.Proofs.YtkdndgclldlddaaDoor.showBack
namespace Go.Proofs.YtkdndgclldlddaaDoor
theorem showBack_holds : Rows.ShowBackCardSaid :=
  Claim7.holds_tied_plain_at .later [] [.data, .data, .data] true Rows.showBackCard.stood.harness Rows.showBackCard.stood.looks
    showBack.proved (fun _ h => by cases h) (by kernel_rfl) (fun _ h => by cases h) showBack_row_tie rfl ⟨rfl, rfl⟩ (by kernel_rfl) rfl
    (fun f fn hf hfn => by
      obtain rfl : f = 4 := Option.some.inj ((show Tryd.prog.funcNamed "taskmaster/taskmasterlaw7.ShowBack" = some 4 by kernel_rfl).symm.trans hf) |>.symm
      obtain rfl : fn = Tryd.f4 := (Option.some.inj (Tryd.func4.symm.trans hfn)).symm
      exact ⟨by kernel_rfl, fun j t ht => by
        rw [Tryd.params4] at ht
        have hm : t ∈ [24] := by simpa using Array.mem_of_getElem? ht
        have hall : ([24].all fun u => !Tryd.prog.wantsStandIn u) = true := by kernel_rfl
        exact (show Tryd.prog.wantsStandIn t = false by simpa using List.all_eq_true.1 hall t hm)⟩)
    (by kernel_rfl)
end Go.Proofs.YtkdndgclldlddaaDoor

/- What is proved: contracts and plain facts on the way to the row RowBlockModes, and, in the last text, the row itself; conditions as each theorem names them. -/
import Derived.Laws.BitsLemmas
import Derived.Laws.Entries
import Derived.ChangeArms
import Derived.Deep.Slices
import Derived.DataReads
import Derived.WideShapes
import Derived.KernelRfl
import Derived.Test.YtmhioeoioohmpaaRows
import Derived.WalkKit
import Derived.ProofKit
import Derived.OpenShut
import Derived.ShutString
import Derived.ChangeOld
import Derived.Below
import Derived.SizedLaws
import Derived.Test.YtmhioeoioohmpaaSkModes1
import Derived.Test.YtmhioeoioohmpaaSkModes2
import Derived.Test.YtmhioeoioohmpaaSkModes3
import Derived.Test.YtmhioeoioohmpaaSkModes4
import Derived.Test.YtmhioeoioohmpaaSkModes5
namespace Go.Proofs.Ytmhioeoioohmpaa.RefSet
open Go.RowKit Go.Proofs.Ytmhioeoioohmpaa.QBm Go.Proofs.YtmhioeoioohmpaaW.PrintWords Go.Proofs.YtmhioeoioohmpaaW.PrintLast Go.Proofs.YtmhioeoioohmpaaW.PrintMore
set_option linter.unusedVariables false
theorem evp {α : Type} {c : Prop} [Decidable c] {f g : Nat → Option α} {r : α} (h : c) (k : Ev f r) : Ev (fun n => if c then f n else g n) r := Ev.congr (fun _ => if_pos h) k
theorem evn {α : Type} {c : Prop} [Decidable c] {f g : Nat → Option α} {r : α} (h : ¬ c) (k : Ev g r) : Ev (fun n => if c then f n else g n) r := Ev.congr (fun _ => if_neg h) k
theorem evb {α β : Type} {o : Option α} {f : Nat → α → Option β} {a : α} {r : β} (h : o = some a) (k : Ev (fun n => f n a) r) : Ev (fun n => o.bind (f n)) r := Ev.congr (fun n => by rw [h]; rfl) k
def Ends {α : Type} (g : Nat → Option α) : Prop := ∃ r, Ev g r
theorem endsNow {α : Type} (r : α) : Ends (fun _ => some r) := ⟨r, Ev.now r⟩
theorem endsStep {α : Type} {g f : Nat → Option α} (h : ∀ k, g (k + 1) = f k) (k : Ends f) : Ends g := let ⟨r, e⟩ := k; ⟨r, Ev.step h e⟩
theorem endsIf {α : Type} {c : Prop} [Decidable c] {f g : Nat → Option α} (h : c → Ends f) (k : ¬ c → Ends g) : Ends (fun n => if c then f n else g n) := by
  by_cases hc : c
  · obtain ⟨r, e⟩ := h hc; exact ⟨r, evp hc e⟩
  · obtain ⟨r, e⟩ := k hc; exact ⟨r, evn hc e⟩
theorem endsBind {α β : Type} {g : Nat → Option α} {f : Nat → α → Option β} (h : Ends g) (k : ∀ a, Ends (fun n => f n a)) : Ends (fun n => (g n).bind (f n)) := by
  obtain ⟨a, e⟩ := h
  obtain ⟨r, e'⟩ := k a
  exact ⟨r, Ev.bind e e'⟩
theorem endsAt {α β : Type} {o : Option α} {f : Nat → α → Option β} {a : α} (h : o = some a) (k : Ends (fun n => f n a)) : Ends (fun n => o.bind (f n)) := let ⟨r, e⟩ := k; ⟨r, evb h e⟩
theorem w64 {n : Int} (h0 : -9223372036854775808 ≤ n) (h1 : n ≤ 9223372036854775807) : wrap64 n = n := by unfold wrap64; omega
theorem small_some (c : Int) : ∃ b, taskmasterref4_small.f c = some b := by unfold taskmasterref4_small.f; split <;> exact ⟨_, rfl⟩
theorem digit_some (c : Int) : ∃ b, taskmasterref4_digit.f c = some b := by unfold taskmasterref4_digit.f; split <;> exact ⟨_, rfl⟩
theorem word_loop (s : ByteArray) (l : List ByteArray) (hl : l.length ≤ 100) (d : Nat) : ∀ i : Nat, i + d = l.length → Ends (fun k => taskmasterref4_word.l0 k s l (i : Int)) := by
  induction d with
  | zero =>
    intro i hi
    refine endsStep (fun k => by rw [taskmasterref4_word.l0]) ?_
    exact endsIf (fun h => absurd h (by omega)) (fun _ => endsNow _)
  | succ d ih =>
    intro i hi
    refine endsStep (fun k => by rw [taskmasterref4_word.l0]) ?_
    refine endsIf (fun _ => endsIf (fun _ => endsIf (fun _ => endsNow _) (fun _ => ?_)) (fun h => absurd (Int.natCast_nonneg i) h)) (fun h => absurd (show (i : Int) < (l.length : Int) by omega) h)
    rw [w64 (by omega) (by omega)]
    exact ih (i + 1) (by omega)
theorem word_ends (s : ByteArray) : Ends (fun k => taskmasterref4_word.f k s) := by
  unfold taskmasterref4_word.f
  refine endsAt (show taskmasterref4_Words.f = some _ from rfl) ?_
  exact word_loop s _ (by decide) 10 0 (by decide)
theorem one_j3 (s : ByteArray) (i : Int) (h0 : 0 ≤ i) (h1 : i ≤ s.size) : Ends (fun k => taskmasterref4_one.j3 k s i) := by
  refine endsStep (fun k => by rw [taskmasterref4_one.j3]) ?_
  refine endsIf (fun _ => endsIf (fun _ => ?_) (fun h => absurd h1 h)) (fun h => absurd h0 h)
  refine endsBind (word_ends _) (fun b => ?_)
  exact endsIf (fun _ => endsNow _) (fun _ => endsIf (fun _ => endsNow _) (fun _ => endsNow _))
theorem one_l1 (s : ByteArray) (hs : s.size ≤ 9223372036854775807) (d : Nat) : ∀ i : Int, 0 ≤ i → i ≤ s.size → (s.size : Int) - i = d → Ends (fun k => taskmasterref4_one.l1 k s i) := by
  induction d with
  | zero =>
    intro i h0 h1 hd
    refine endsStep (fun k => by rw [taskmasterref4_one.l1]) ?_
    exact endsIf (fun h => absurd h (by omega)) (fun _ => one_j3 s i h0 h1)
  | succ d ih =>
    intro i h0 h1 hd
    refine endsStep (fun k => by rw [taskmasterref4_one.l1]) ?_
    have more : Ends (fun k => taskmasterref4_one.l1 k s (wrap64 (i + 1))) := by
      rw [w64 (by omega) (by omega)]; exact ih (i + 1) (by omega) (by omega) (by omega)
    refine endsIf (fun _ => endsIf (fun _ => ?_) (fun h => absurd h0 h)) (fun _ => one_j3 s i h0 h1)
    obtain ⟨b, hb⟩ := small_some (bt s i)
    refine endsAt hb (endsIf (fun _ => more) (fun _ => ?_))
    obtain ⟨c, hc⟩ := digit_some (bt s i)
    exact endsAt hc (endsIf (fun _ => more) (fun _ => endsIf (fun _ => more) (fun _ => one_j3 s i h0 h1)))
theorem one_no (s : ByteArray) (i v : Int) (h0 : 0 < (s.size : Int)) : Ends (fun k => taskmasterref4_one.j1 k s i v false) := by
  refine endsStep (fun k => by rw [taskmasterref4_one.j1]) ?_
  exact endsIf (fun h => by cases h) (fun _ => endsIf (fun _ => endsNow _) (fun _ => endsIf (fun _ => endsIf (fun _ => endsIf (fun _ => endsNow _) (fun _ => endsNow _)) (fun h => absurd h0 h)) (fun _ => endsNow _)))
theorem one_l0 (s : ByteArray) (hs : s.size ≤ 9223372036854775807) (h00 : 0 < (s.size : Int)) (d : Nat) : ∀ i v : Int, 0 ≤ i → i ≤ s.size → (s.size : Int) - i = d → Ends (fun k => taskmasterref4_one.l0 k s i v) := by
  induction d with
  | zero =>
    intro i v h0 h1 hd
    refine endsStep (fun k => by rw [taskmasterref4_one.l0]) ?_
    exact endsIf (fun h => absurd h (by omega)) (fun _ => one_no s i v h00)
  | succ d ih =>
    intro i v h0 h1 hd
    refine endsStep (fun k => by rw [taskmasterref4_one.l0]) ?_
    have more : ∀ v', Ends (fun k => taskmasterref4_one.l0 k s (wrap64 (i + 1)) v') := fun v' => by
      rw [w64 (by omega) (by omega)]; exact ih (i + 1) v' (by omega) (by omega) (by omega)
    refine endsIf (fun hlt => endsIf (fun _ => ?_) (fun h => absurd h0 h)) (fun _ => one_no s i v h00)
    obtain ⟨b, hb⟩ := digit_some (bt s i)
    refine endsAt hb ?_
    cases b with
    | false => exact one_no s i v h00
    | true =>
      refine endsStep (fun k => by rw [taskmasterref4_one.j1]) ?_
      exact endsIf (fun _ => endsIf (fun _ => endsIf (fun _ => endsIf (fun _ => more _) (fun h => absurd hlt h)) (fun h => absurd h0 h)) (fun _ => more _)) (fun h => absurd rfl h)
theorem one_ends (s : ByteArray) (hs : s.size ≤ 9223372036854775807) (h0 : 0 < (s.size : Int)) : Ends (fun k => taskmasterref4_one.f k s) := by
  unfold taskmasterref4_one.f
  refine endsIf (fun _ => endsIf (fun _ => endsNow _) (fun _ => ?_)) (fun h => absurd h0 h)
  obtain ⟨b, hb⟩ := digit_some (bt s 0)
  refine endsAt hb (endsIf (fun _ => one_l0 s hs h0 s.size 0 0 (by omega) (by omega) (by omega)) (fun _ => ?_))
  obtain ⟨c, hc⟩ := small_some (bt s 0)
  exact endsAt hc (endsIf (fun _ => one_l1 s hs s.size 0 (by omega) (by omega) (by omega)) (fun _ => endsNow _))
theorem name_ends (s : ByteArray) (hs : s.size ≤ 9223372036854775807) : Ends (fun k => taskmasterref4_Name.f k s) := by
  unfold taskmasterref4_Name.f
  refine endsIf (fun _ => endsNow _) (fun hz => endsIf (fun h0 => ?_) (fun h => absurd (show 0 < (s.size : Int) by omega) h))
  obtain ⟨b, hb⟩ := small_some (bt s 0)
  refine endsAt hb (endsIf (fun _ => ?_) (fun _ => endsNow _))
  exact endsBind (one_ends s hs h0) (fun _ => endsIf (fun _ => endsNow _) (fun _ => endsNow _))
def sum : List Int → Int
  | [] => 0
  | x :: l => x + sum l
theorem rd_drop {l : List Int} {i : Nat} (h : i < l.length) : l.drop i = rd l (i : Int) :: l.drop (i + 1) := by
  rw [List.drop_eq_getElem_cons h]; unfold rd
  rw [Int.toNat_natCast, List.getD_eq_getElem?_getD, List.getElem?_eq_getElem h]; rfl
theorem in_eq (n a b : Int) : taskmasterref5_in.f n a b = some (decide (a ≤ n ∧ n ≤ b)) := by
  unfold taskmasterref5_in.f
  by_cases h : a ≤ n
  · rw [if_pos (show n ≥ a from h)]; simp [h]
  · rw [if_neg (show ¬ n ≥ a from h)]; simp [h]
theorem sum_bound {l : List Int} (h : ∀ x ∈ l, 1 ≤ x ∧ x ≤ 10000) : (l.length : Int) ≤ sum l ∧ sum l ≤ 10000 * l.length := by
  induction l with
  | nil => simp [sum]
  | cons x l ih =>
    have h1 := ih (fun y hy => h y (List.mem_cons_of_mem _ hy))
    have h2 := h x List.mem_cons_self
    simp only [sum, List.length_cons, Int.natCast_add, Int.natCast_one]
    omega
theorem work_loop (s : ByteArray) (a1 a2 a3 a4 a5 : Int) (l : List Int) (a7 a8 : Int) (hl : l.length ≤ 8) (h : ∀ x ∈ l, 1 ≤ x ∧ x ≤ 10000) (d : Nat) : ∀ (k i : Nat) (acc : Int), i + d = l.length → d < k → 0 ≤ acc → acc ≤ 10000 * i →
    taskmasterref5_Work.l0 k acc (i : Int) s a1 a2 a3 a4 a5 l a7 a8 = some (acc + sum (l.drop i)) := by
  induction d with
  | zero =>
    intro k i acc hi hk h0 h1
    obtain ⟨k, rfl⟩ : ∃ m, k = m + 1 := ⟨k - 1, by omega⟩
    simp only [taskmasterref5_Work.l0]
    rw [if_neg (by omega), List.drop_eq_nil_of_le (by omega)]; simp [sum]
  | succ d ih =>
    intro k i acc hi hk h0 h1
    obtain ⟨k, rfl⟩ : ∃ m, k = m + 1 := ⟨k - 1, by omega⟩
    have hlt : i < l.length := by omega
    have hm : rd l (i : Int) ∈ l := by
      unfold rd; rw [Int.toNat_natCast, List.getD_eq_getElem?_getD, List.getElem?_eq_getElem hlt]; exact List.getElem_mem hlt
    have hx := h _ hm
    simp only [taskmasterref5_Work.l0]
    rw [if_pos (by omega), if_pos (by omega), w64 (n := acc + rd l (i : Int)) (by omega) (by omega), w64 (n := (i : Int) + 1) (by omega) (by omega), rd_drop hlt]
    have := ih k (i + 1) (acc + rd l (i : Int)) (by omega) (by omega) (by omega) (by omega)
    rw [show ((i + 1 : Nat) : Int) = (i : Int) + 1 by omega] at this
    rw [this]
    simp only [sum]
    rw [Int.add_assoc]
theorem work_eq (s : ByteArray) (a1 a2 a3 a4 a5 : Int) (l : List Int) (a7 a8 : Int) (hl : l.length ≤ 8) (h : ∀ x ∈ l, 1 ≤ x ∧ x ≤ 10000) (k : Nat) (hk : 8 < k) : taskmasterref5_Work.f k s a1 a2 a3 a4 a5 l a7 a8 = some (sum l) := by
  unfold taskmasterref5_Work.f
  have := work_loop s a1 a2 a3 a4 a5 l a7 a8 hl h l.length k 0 0 (by omega) (by omega) (by omega) (by omega)
  rw [List.drop_zero, Int.zero_add] at this
  exact this
def TaskOK (x : S31) (p : Int) : Prop :=
  1 ≤ x.f6.length ∧ x.f6.length ≤ 8 ∧ Go.bits .andNot .u64 x.f8 x.f7 = 0 ∧ (∀ r ∈ x.f6, 1 ≤ r ∧ r ≤ 10000) ∧ sum x.f6 ≤ x.f2 ∧ x.f2 ≤ x.f1 ∧ x.f1 ≤ 10000 ∧
  ((x.f3 = 0 ∧ x.f4 = 0 ∧ x.f5 = 0) ∨ (x.f3 = 1 ∧ 0 ≤ x.f4 ∧ x.f4 ≤ 10000 ∧ x.f5 = 0) ∨ (x.f3 = 2 ∧ x.f4 = 0 ∧ 0 ≤ x.f5 ∧ x.f5 ≤ p))
theorem is_loop (x : S31) (p : Int) (h1 : 1 ≤ x.f6.length) (h8 : x.f6.length ≤ 8) (hb : Go.bits .andNot .u64 x.f8 x.f7 = 0) (d : Nat) : ∀ i : Nat, i + d = x.f6.length → (∀ j : Nat, j < i → 1 ≤ rd x.f6 (j : Int) ∧ rd x.f6 (j : Int) ≤ 10000) →
    ∃ b, Ev (fun k => taskmasterref5_Is.l0 k p (i : Int) x.f0 x.f1 x.f2 x.f3 x.f4 x.f5 x.f6 x.f7 x.f8) b ∧ (b = true → TaskOK x p) := by
  induction d with
  | zero =>
    intro i hi hall
    have hr : ∀ r ∈ x.f6, 1 ≤ r ∧ r ≤ 10000 := fun r hm => by
      obtain ⟨j, hj, rfl⟩ := List.mem_iff_getElem.1 hm
      have := hall j (by omega)
      unfold rd at this
      rw [Int.toNat_natCast, List.getD_eq_getElem?_getD, List.getElem?_eq_getElem hj] at this
      exact this
    have hw : Ev (fun k => taskmasterref5_Work.f k x.f0 x.f1 x.f2 x.f3 x.f4 x.f5 x.f6 x.f7 x.f8) (sum x.f6) := ⟨9, fun k hk => work_eq _ _ _ _ _ _ _ _ _ h8 hr k (by omega)⟩
    have no : Ev (fun k => taskmasterref5_Is.j2 k p true x.f0 x.f1 x.f2 x.f3 x.f4 x.f5 x.f6 x.f7 x.f8) false := Ev.step (fun k => by rw [taskmasterref5_Is.j2, if_pos rfl]) (Ev.now false)
    by_cases c1 : sum x.f6 > x.f2
    · refine ⟨false, Ev.step (fun k => by rw [taskmasterref5_Is.l0]) (evn (by omega) (Ev.bind hw (evp c1 no))), fun h => by cases h⟩
    · by_cases c2 : x.f2 > x.f1
      · refine ⟨false, Ev.step (fun k => by rw [taskmasterref5_Is.l0]) (evn (by omega) (Ev.bind hw (evn c1 (evp c2 no)))), fun h => by cases h⟩
      · by_cases c3 : x.f1 > 10000
        · refine ⟨false, Ev.step (fun k => by rw [taskmasterref5_Is.l0]) (evn (by omega) (Ev.bind hw (evn c1 (evn c2 ?_)))), fun h => by cases h⟩
          rw [decide_eq_true c3]; exact no
        · have base : ∀ {b : Bool}, Ev (fun k => taskmasterref5_Is.j2 k p false x.f0 x.f1 x.f2 x.f3 x.f4 x.f5 x.f6 x.f7 x.f8) b → Ev (fun k => taskmasterref5_Is.l0 k p (i : Int) x.f0 x.f1 x.f2 x.f3 x.f4 x.f5 x.f6 x.f7 x.f8) b := fun hb => by
            refine Ev.step (fun k => by rw [taskmasterref5_Is.l0]) (evn (by omega) (Ev.bind hw (evn c1 (evn c2 ?_))))
            rw [decide_eq_false c3]; exact hb
          have ok : ∀ (_ : (x.f3 = 0 ∧ x.f4 = 0 ∧ x.f5 = 0) ∨ (x.f3 = 1 ∧ 0 ≤ x.f4 ∧ x.f4 ≤ 10000 ∧ x.f5 = 0) ∨ (x.f3 = 2 ∧ x.f4 = 0 ∧ 0 ≤ x.f5 ∧ x.f5 ≤ p)), TaskOK x p := fun hm => ⟨h1, h8, hb, hr, by omega, by omega, by omega, hm⟩
          by_cases m0 : x.f3 = 0
          · by_cases q0 : x.f4 = 0
            · refine ⟨x.f5 == 0, base (Ev.step (fun k => by rw [taskmasterref5_Is.j2, if_neg (by simp), if_pos m0, if_pos q0]) (Ev.now _)), fun h => ok (Or.inl ⟨m0, q0, by simpa using h⟩)⟩
            · exact ⟨false, base (Ev.step (fun k => by rw [taskmasterref5_Is.j2, if_neg (by simp), if_pos m0, if_neg q0]) (Ev.now _)), fun h => by cases h⟩
          · by_cases m1 : x.f3 = 1
            · by_cases q0 : 0 ≤ x.f4 ∧ x.f4 ≤ 10000
              · refine ⟨x.f5 == 0, base (Ev.step (fun k => by rw [taskmasterref5_Is.j2, if_neg (by simp), if_neg m0, if_pos m1, in_eq, decide_eq_true q0, Option.bind_some, if_pos rfl]) (Ev.now _)), fun h => ok (Or.inr (Or.inl ⟨m1, q0.1, q0.2, by simpa using h⟩))⟩
              · exact ⟨false, base (Ev.step (fun k => by rw [taskmasterref5_Is.j2, if_neg (by simp), if_neg m0, if_pos m1, in_eq, decide_eq_false q0, Option.bind_some, if_neg (by simp)]) (Ev.now _)), fun h => by cases h⟩
            · by_cases m2 : x.f3 = 2
              · by_cases q0 : x.f4 = 0
                · by_cases t0 : x.f5 ≥ 0
                  · refine ⟨decide (x.f5 ≤ p), base (Ev.step (fun k => by rw [taskmasterref5_Is.j2, if_neg (by simp), if_neg m0, if_neg m1, if_pos m2, if_pos q0, if_pos t0]) (Ev.now _)), fun h => ok (Or.inr (Or.inr ⟨m2, q0, t0, of_decide_eq_true h⟩))⟩
                  · exact ⟨false, base (Ev.step (fun k => by rw [taskmasterref5_Is.j2, if_neg (by simp), if_neg m0, if_neg m1, if_pos m2, if_pos q0, if_neg t0]) (Ev.now _)), fun h => by cases h⟩
                · exact ⟨false, base (Ev.step (fun k => by rw [taskmasterref5_Is.j2, if_neg (by simp), if_neg m0, if_neg m1, if_pos m2, if_neg q0]) (Ev.now _)), fun h => by cases h⟩
              · exact ⟨false, base (Ev.step (fun k => by rw [taskmasterref5_Is.j2, if_neg (by simp), if_neg m0, if_neg m1, if_neg m2]) (Ev.now _)), fun h => by cases h⟩
  | succ d ih =>
    intro i hi hall
    by_cases c : 1 ≤ rd x.f6 (i : Int) ∧ rd x.f6 (i : Int) ≤ 10000
    · obtain ⟨b, e, hb'⟩ := ih (i + 1) (by omega) (fun j hj => by
        by_cases hji : j = i
        · subst hji; exact c
        · exact hall j (by omega))
      refine ⟨b, Ev.step (fun k => by rw [taskmasterref5_Is.l0]) (evp (by omega) (evp (by omega) (evb (in_eq _ _ _) (evp (decide_eq_true c) ?_)))), hb'⟩
      rw [w64 (by omega) (by omega)]; exact e
    · have hc : ¬ (decide (1 ≤ rd x.f6 (i : Int) ∧ rd x.f6 (i : Int) ≤ 10000) = true) := fun h => c (of_decide_eq_true h)
      exact ⟨false, Ev.step (fun k => by rw [taskmasterref5_Is.l0]) (evp (by omega) (evp (by omega) (evb (in_eq _ _ _) (evn hc (Ev.now false))))), fun h => by cases h⟩
theorem is_ends (x : S31) (p : Int) (hs : x.f0.size ≤ 9223372036854775807) : ∃ b, Ev (fun k => taskmasterref5_Is.f k x.f0 x.f1 x.f2 x.f3 x.f4 x.f5 x.f6 x.f7 x.f8 p) b ∧ (b = true → TaskOK x p) := by
  unfold taskmasterref5_Is.f
  obtain ⟨n, hn⟩ := name_ends x.f0 hs
  have no : Ev (fun k => taskmasterref5_Is.j0 k p true x.f0 x.f1 x.f2 x.f3 x.f4 x.f5 x.f6 x.f7 x.f8) false := Ev.step (fun k => by rw [taskmasterref5_Is.j0, if_pos rfl]) (Ev.now false)
  by_cases c0 : n = true
  · by_cases c1 : (x.f6.length : Int) < 1
    · exact ⟨false, Ev.bind hn (evp c0 (evp c1 no)), fun h => by cases h⟩
    · by_cases c2 : (x.f6.length : Int) > 8
      · exact ⟨false, Ev.bind hn (evp c0 (evn c1 (evp c2 no))), fun h => by cases h⟩
      · by_cases c3 : Go.bits .andNot .u64 x.f8 x.f7 = 0
        · obtain ⟨b, e, hb⟩ := is_loop x p (by omega) (by omega) c3 x.f6.length 0 (by omega) (fun j hj => absurd hj (Nat.not_lt_zero _))
          refine ⟨b, Ev.bind hn (evp c0 (evn c1 (evn c2 (Ev.step (fun k => by rw [taskmasterref5_Is.j0, if_neg (by rw [c3]; simp)]; rfl) e)))), hb⟩
        · refine ⟨false, Ev.bind hn (evp c0 (evn c1 (evn c2 ?_))), fun h => by cases h⟩
          rw [show (Go.bits .andNot .u64 x.f8 x.f7 != 0) = true by simpa using c3]; exact no
  · exact ⟨false, Ev.bind hn (evn c0 no), fun h => by cases h⟩
def SetOK (r : Int) (l : List S31) : Prop := 0 ≤ r ∧ r ≤ 10000 ∧ 1 ≤ l.length ∧ l.length ≤ 8 ∧ ∀ i : Int, 0 ≤ i → i < l.length → TaskOK (rd_T31 l i) i
theorem all_loops (r : Int) (l : List S31) (h0 : 0 ≤ r) (h1 : r ≤ 10000) (h2 : 1 ≤ l.length) (h8 : l.length ≤ 8) (hs : ∀ y ∈ l, y.f0.size ≤ 9223372036854775807) (d : Nat) : ∀ i : Nat, i + d = l.length → (∀ j : Int, 0 ≤ j → j < i → TaskOK (rd_T31 l j) j) →
    ∃ b, Ev (fun k => taskmasterref5_All.l0 k (i : Int) r l) b ∧ (b = true → SetOK r l) := by
  induction d with
  | zero =>
    intro i hi hall
    exact ⟨true, Ev.step (fun k => by rw [taskmasterref5_All.l0]) (evn (by omega) (Ev.now true)), fun _ => ⟨h0, h1, h2, h8, fun j a b => hall j a (by omega)⟩⟩
  | succ d ih =>
    intro i hi hall
    have hlt : i < l.length := by omega
    have hm : rd_T31 l (i : Int) ∈ l := by
      unfold rd_T31; rw [Int.toNat_natCast, List.getD_eq_getElem?_getD, List.getElem?_eq_getElem hlt]; exact List.getElem_mem hlt
    obtain ⟨t, ht, hok⟩ := is_ends (rd_T31 l (i : Int)) (i : Int) (hs _ hm)
    by_cases c : t = true
    · obtain ⟨b, e, hb⟩ := ih (i + 1) (by omega) (fun j a q => by
        by_cases hji : j = i
        · subst hji; exact hok c
        · exact hall j a (by omega))
      have inner : ∀ d' j : Nat, j + d' = i → ∃ b', Ev (fun k => taskmasterref5_All.l1 k (i : Int) (j : Int) r l) b' ∧ (b' = true → SetOK r l) := by
        intro d'
        induction d' with
        | zero =>
          intro j hj
          refine ⟨b, Ev.step (fun k => by rw [taskmasterref5_All.l1]) (evn (by omega) ?_), hb⟩
          rw [w64 (by omega) (by omega)]; exact e
        | succ d' ih' =>
          intro j hj
          by_cases q : ((rd_T31 l (j : Int)).f0).toList = ((rd_T31 l (i : Int)).f0).toList
          · exact ⟨false, Ev.step (fun k => by rw [taskmasterref5_All.l1]) (evp (by omega) (evp (by omega) (evp (by omega) (evp (by omega) (evp (by omega) (evp q (Ev.now false))))))), fun h => by cases h⟩
          · obtain ⟨b', e', hb'⟩ := ih' (j + 1) (by omega)
            refine ⟨b', Ev.step (fun k => by rw [taskmasterref5_All.l1]) (evp (by omega) (evp (by omega) (evp (by omega) (evp (by omega) (evp (by omega) (evn q ?_)))))), hb'⟩
            rw [w64 (by omega) (by omega)]; exact e'
      obtain ⟨b', e', hb'⟩ := inner i 0 (by omega)
      exact ⟨b', Ev.step (fun k => by rw [taskmasterref5_All.l0]) (evp (by omega) (evp (by omega) (Ev.bind ht (evp c e')))), hb'⟩
    · exact ⟨false, Ev.step (fun k => by rw [taskmasterref5_All.l0]) (evp (by omega) (evp (by omega) (Ev.bind ht (evn c (Ev.now false))))), fun h => by cases h⟩
theorem all_ends (r : Int) (l : List S31) (hs : ∀ y ∈ l, y.f0.size ≤ 9223372036854775807) : ∃ b, Ev (fun k => taskmasterref5_All.f k r l) b ∧ (b = true → SetOK r l) := by
  unfold taskmasterref5_All.f
  have no : Ev (fun k => taskmasterref5_All.j0 k true r l) false := Ev.step (fun k => by rw [taskmasterref5_All.j0, if_pos rfl]) (Ev.now false)
  by_cases c0 : 0 ≤ r ∧ r ≤ 10000
  · by_cases c1 : (l.length : Int) < 1
    · exact ⟨false, evb (in_eq _ _ _) (evp (decide_eq_true c0) (evp c1 no)), fun h => by cases h⟩
    · by_cases c2 : (l.length : Int) > 8
      · refine ⟨false, evb (in_eq _ _ _) (evp (decide_eq_true c0) (evn c1 ?_)), fun h => by cases h⟩
        rw [decide_eq_true c2]; exact no
      · obtain ⟨b, e, hb⟩ := all_loops r l c0.1 c0.2 (by omega) (by omega) hs l.length 0 (by omega) (fun j a q => absurd q (by omega))
        refine ⟨b, evb (in_eq _ _ _) (evp (decide_eq_true c0) (evn c1 ?_)), hb⟩
        rw [decide_eq_false c2]
        exact Ev.step (fun k => by rw [taskmasterref5_All.j0, if_neg (by simp)]; rfl) e
  · have hc : ¬ (decide (0 ≤ r ∧ r ≤ 10000) = true) := fun h => c0 (of_decide_eq_true h)
    exact ⟨false, evb (in_eq _ _ _) (evn hc no), fun h => by cases h⟩
end Go.Proofs.Ytmhioeoioohmpaa.RefSet
namespace Go.Proofs.Ytmhioeoioohmpaa.BitsMath
set_option linter.unusedVariables false
def pop : Nat → Nat → Nat
  | 0, _ => 0
  | n + 1, x => x % 2 + pop n (x / 2)
theorem pop_le : ∀ (n x : Nat), pop n x ≤ n
  | 0, _ => Nat.le_refl _
  | n + 1, x => by have := pop_le n (x / 2); unfold pop; omega
theorem pop_add (a : Nat) : ∀ (b x : Nat), pop (b + a) x = pop b x + pop a (x / 2 ^ b)
  | 0, x => by simp [pop]
  | b + 1, x => by
    rw [show b + 1 + a = (b + a) + 1 by omega]
    show x % 2 + pop (b + a) (x / 2) = x % 2 + pop b (x / 2) + _
    rw [pop_add a b (x / 2), Nat.div_div_eq_div_mul, show 2 * 2 ^ b = 2 ^ (b + 1) by rw [Nat.pow_succ, Nat.mul_comm]]
    omega
theorem pop_mod (b : Nat) : ∀ (x : Nat), pop b (x % 2 ^ b) = pop b x := by
  induction b with
  | zero => intro x; rfl
  | succ b ih =>
    intro x
    unfold pop
    have h1 : x % 2 ^ (b + 1) % 2 = x % 2 := Nat.mod_mod_of_dvd _ ⟨2 ^ b, by rw [Nat.pow_succ, Nat.mul_comm]⟩
    have h2 : x % 2 ^ (b + 1) / 2 = x / 2 % 2 ^ b := by
      rw [Nat.pow_succ, Nat.mul_comm, Nat.mod_mul_right_div_self]
    rw [h1, h2, ih]
theorem pop_byte (n r q : Nat) (hr : r < 256) : pop (8 + n) (r + 256 * q) = pop 8 r + pop n q := by
  rw [pop_add n 8]
  have e : (r + 256 * q) / 2 ^ 8 = q := by omega
  rw [e]
  have e2 : pop 8 (r + 256 * q) = pop 8 r := by
    rw [← pop_mod 8 (r + 256 * q), show (r + 256 * q) % 2 ^ 8 = r by omega]
  rw [e2]
theorem and_byte (r q m M : Nat) (hr : r < 256) (hm : m < 256) : (r + 256 * q) &&& (m + 256 * M) = (r &&& m) + 256 * (q &&& M) := by
  have h1 : (r &&& m) < 256 := Nat.lt_of_le_of_lt Nat.and_le_left hr
  apply Nat.eq_of_testBit_eq
  intro i
  rw [Nat.testBit_and, Nat.add_comm r, Nat.add_comm m, Nat.add_comm (r &&& m), show (256 : Nat) = 2 ^ 8 from rfl, Nat.testBit_two_pow_mul_add _ hr, Nat.testBit_two_pow_mul_add _ hm, Nat.testBit_two_pow_mul_add _ h1]
  split
  · rw [Nat.testBit_and]
  · rw [Nat.testBit_and]
def st1 (M x : Nat) : Nat := (x / 2 &&& M) + (x &&& M)
def st2 (M x : Nat) : Nat := (x / 4 &&& M) + (x &&& M)
def st3 (M x : Nat) : Nat := (x / 16 + x) &&& M
theorem low1 : ∀ r, r < 256 → ∀ e, e < 2 → (r / 2 + 128 * e) &&& 85 = r / 2 &&& 85 := by decide +kernel
theorem low2 : ∀ r, r < 256 → ∀ e, e < 4 → (r / 4 + 64 * e) &&& 51 = r / 4 &&& 51 := by decide +kernel
theorem st1_byte (r q M : Nat) (hr : r < 256) : st1 (85 + 256 * M) (r + 256 * q) = st1 85 r + 256 * st1 M q := by
  unfold st1
  have e : (r + 256 * q) / 2 = (r / 2 + 128 * (q % 2)) + 256 * (q / 2) := by omega
  rw [e, and_byte _ _ 85 M (by omega) (by omega), and_byte r q 85 M hr (by omega), low1 r hr _ (by omega), Nat.mul_add]
  omega
theorem st2_byte (r q M : Nat) (hr : r < 256) : st2 (51 + 256 * M) (r + 256 * q) = st2 51 r + 256 * st2 M q := by
  unfold st2
  have e : (r + 256 * q) / 4 = (r / 4 + 64 * (q % 4)) + 256 * (q / 4) := by omega
  rw [e, and_byte _ _ 51 M (by omega) (by omega), and_byte r q 51 M hr (by omega), low2 r hr _ (by omega), Nat.mul_add]
  omega
theorem low3 : ∀ r, r < 103 → ∀ e, e < 5 → r / 16 ≤ 4 → r % 16 ≤ 4 → (r / 16 + 16 * e + r) &&& 15 = (r / 16 + r) &&& 15 := by decide +kernel
theorem st3_byte (r q M : Nat) (hr : r < 103) (h1 : r / 16 ≤ 4) (h2 : r % 16 ≤ 4) (hq : q % 16 ≤ 4) : st3 (15 + 256 * M) (r + 256 * q) = st3 15 r + 256 * st3 M q := by
  unfold st3
  have e : (r + 256 * q) / 16 + (r + 256 * q) = (r / 16 + 16 * (q % 16) + r) + 256 * (q / 16 + q) := by omega
  rw [e, and_byte _ _ 15 M (by omega) (by omega), low3 r hr _ (by omega) h1 h2]
theorem byte_tells : ∀ r, r < 256 → st1 85 r < 256 ∧ st2 51 (st1 85 r) < 103 ∧ st2 51 (st1 85 r) / 16 ≤ 4 ∧ st2 51 (st1 85 r) % 16 ≤ 4 ∧ st3 15 (st2 51 (st1 85 r)) = pop 8 r := by decide +kernel
def rep (m : Nat) : Nat → Nat
  | 0 => 0
  | k + 1 => m + 256 * rep m k
def bsum : Nat → Nat → Nat
  | 0, _ => 0
  | k + 1, x => pop 8 (x % 256) + 256 * bsum k (x / 256)
theorem st_zero (M : Nat) : st1 M 0 = 0 ∧ st2 M 0 = 0 ∧ st3 M 0 = 0 := by
  unfold st1 st2 st3
  simp
theorem steps : ∀ (k x : Nat), x < 256 ^ k → (st2 (rep 51 k) (st1 (rep 85 k) x)) % 16 ≤ 4 ∧ st3 (rep 15 k) (st2 (rep 51 k) (st1 (rep 85 k) x)) = bsum k x
  | 0, x, h => by
    obtain rfl : x = 0 := by simpa using h
    rw [(st_zero _).1, (st_zero _).2.1, (st_zero _).2.2]
    exact ⟨by omega, rfl⟩
  | k + 1, x, h => by
    have hx : x = x % 256 + 256 * (x / 256) := by omega
    have hq : x / 256 < 256 ^ k := by
      rw [Nat.div_lt_iff_lt_mul (by omega), ← Nat.pow_succ]; exact h
    obtain ⟨i1, i2⟩ := steps k (x / 256) hq
    obtain ⟨b1, b2, b3, b4, b5⟩ := byte_tells (x % 256) (by omega)
    have e1 : st1 (rep 85 (k + 1)) x = st1 85 (x % 256) + 256 * st1 (rep 85 k) (x / 256) := by
      conv => lhs; rw [hx]
      exact st1_byte _ _ _ (by omega)
    have e2 : st2 (rep 51 (k + 1)) (st1 (rep 85 (k + 1)) x) = st2 51 (st1 85 (x % 256)) + 256 * st2 (rep 51 k) (st1 (rep 85 k) (x / 256)) := by
      rw [e1]; exact st2_byte _ _ _ b1
    rw [e2]
    refine ⟨by omega, ?_⟩
    show st3 (15 + 256 * rep 15 k) _ = _
    rw [st3_byte _ _ _ b2 b3 b4 i1, i2, b5]; rfl
theorem pop8_le (x : Nat) : pop 8 x ≤ 8 := pop_le 8 x
theorem part_low {y a b : Nat} (ha : a < 256) (hy : y = a + 256 * b) : y / 256 = b := by omega
theorem part_low' {y a b : Nat} (ha : a < 65536) (hy : y = a + 65536 * b) : y / 65536 = b := by omega
theorem part_low'' {y a b : Nat} (ha : a < 4294967296) (hy : y = a + 4294967296 * b) : y / 4294967296 = b := by omega
theorem part_mod {s t : Nat} (hs : s < 128) : (s + 256 * t) % 128 = s := by omega
theorem id0 (c0 c1 c2 c3 c4 c5 c6 c7 : Nat) : c0 + 256 * c1 + 65536 * c2 + 16777216 * c3 + 4294967296 * c4 + 1099511627776 * c5 + 281474976710656 * c6 + 72057594037927936 * c7 = c0 + 256 * (c1 + 256 * (c2 + 256 * (c3 + 256 * (c4 + 256 * (c5 + 256 * (c6 + 256 * c7)))))) := by omega
theorem id1 (c0 c1 c2 c3 c4 c5 c6 c7 : Nat) : (c0 + 256 * c1 + 65536 * c2 + 16777216 * c3 + 4294967296 * c4 + 1099511627776 * c5 + 281474976710656 * c6 + 72057594037927936 * c7) + (c1 + 256 * (c2 + 256 * (c3 + 256 * (c4 + 256 * (c5 + 256 * (c6 + 256 * c7)))))) = ((c0 + c1) + 256 * (c1 + c2)) + 65536 * ((c2 + c3) + 256 * (c3 + c4) + 65536 * ((c4 + c5) + 256 * (c5 + c6) + 65536 * ((c6 + c7) + 256 * c7))) := by omega
theorem id2 (c0 c1 c2 c3 c4 c5 c6 c7 : Nat) : ((c0 + c1) + 256 * (c1 + c2)) + 65536 * ((c2 + c3) + 256 * (c3 + c4) + 65536 * ((c4 + c5) + 256 * (c5 + c6) + 65536 * ((c6 + c7) + 256 * c7))) + ((c2 + c3) + 256 * (c3 + c4) + 65536 * ((c4 + c5) + 256 * (c5 + c6) + 65536 * ((c6 + c7) + 256 * c7))) =
    ((c0 + c1 + c2 + c3) + 256 * (c1 + c2 + c3 + c4) + 65536 * ((c2 + c3 + c4 + c5) + 256 * (c3 + c4 + c5 + c6))) + 4294967296 * ((c4 + c5 + c6 + c7) + 256 * (c5 + c6 + c7) + 65536 * ((c6 + c7) + 256 * c7)) := by omega
theorem id3 (c0 c1 c2 c3 c4 c5 c6 c7 : Nat) : ((c0 + c1 + c2 + c3) + 256 * (c1 + c2 + c3 + c4) + 65536 * ((c2 + c3 + c4 + c5) + 256 * (c3 + c4 + c5 + c6))) + 4294967296 * ((c4 + c5 + c6 + c7) + 256 * (c5 + c6 + c7) + 65536 * ((c6 + c7) + 256 * c7)) + ((c4 + c5 + c6 + c7) + 256 * (c5 + c6 + c7) + 65536 * ((c6 + c7) + 256 * c7)) =
    (c0 + c1 + c2 + c3 + c4 + c5 + c6 + c7) + 256 * ((c1 + c2 + c3 + c4) + (c5 + c6 + c7) + 256 * ((c2 + c3 + c4 + c5) + (c6 + c7) + 256 * (c3 + c4 + c5 + c6 + c7)) + 16777216 * ((c4 + c5 + c6 + c7) + 256 * (c5 + c6 + c7) + 65536 * ((c6 + c7) + 256 * c7))) := by omega
theorem fold_eight (c0 c1 c2 c3 c4 c5 c6 c7 y : Nat) (h0 : c0 ≤ 8) (h1 : c1 ≤ 8) (h2 : c2 ≤ 8) (h3 : c3 ≤ 8) (h4 : c4 ≤ 8) (h5 : c5 ≤ 8) (h6 : c6 ≤ 8) (h7 : c7 ≤ 8)
    (hy : y = c0 + 256 * c1 + 65536 * c2 + 16777216 * c3 + 4294967296 * c4 + 1099511627776 * c5 + 281474976710656 * c6 + 72057594037927936 * c7) :
    y + y / 256 < 18446744073709551616 ∧ (y + y / 256) + (y + y / 256) / 65536 < 18446744073709551616 ∧ (y + y / 256) + (y + y / 256) / 65536 + ((y + y / 256) + (y + y / 256) / 65536) / 4294967296 < 18446744073709551616 ∧
    ((y + y / 256) + (y + y / 256) / 65536 + ((y + y / 256) + (y + y / 256) / 65536) / 4294967296) % 128 = c0 + c1 + c2 + c3 + c4 + c5 + c6 + c7 := by
  have e1 : y / 256 = c1 + 256 * (c2 + 256 * (c3 + 256 * (c4 + 256 * (c5 + 256 * (c6 + 256 * c7))))) := part_low (a := c0) (by clear hy; omega) (by rw [hy]; exact id0 c0 c1 c2 c3 c4 c5 c6 c7)
  have z : y + y / 256 = ((c0 + c1) + 256 * (c1 + c2)) + 65536 * ((c2 + c3) + 256 * (c3 + c4) + 65536 * ((c4 + c5) + 256 * (c5 + c6) + 65536 * ((c6 + c7) + 256 * c7))) := by rw [e1, hy]; exact id1 c0 c1 c2 c3 c4 c5 c6 c7
  clear e1
  generalize y + y / 256 = Z at z ⊢
  have e2 : Z / 65536 = (c2 + c3) + 256 * (c3 + c4) + 65536 * ((c4 + c5) + 256 * (c5 + c6) + 65536 * ((c6 + c7) + 256 * c7)) := part_low' (a := (c0 + c1) + 256 * (c1 + c2)) (by omega) z
  have z2 : Z + Z / 65536 = ((c0 + c1 + c2 + c3) + 256 * (c1 + c2 + c3 + c4) + 65536 * ((c2 + c3 + c4 + c5) + 256 * (c3 + c4 + c5 + c6))) + 4294967296 * ((c4 + c5 + c6 + c7) + 256 * (c5 + c6 + c7) + 65536 * ((c6 + c7) + 256 * c7)) := by rw [e2, z]; exact id2 c0 c1 c2 c3 c4 c5 c6 c7
  have zb : Z < 18446744073709551616 := by rw [z]; clear z2 z e2 hy; omega
  clear e2 z hy
  generalize Z + Z / 65536 = V at z2 ⊢
  have e3 : V / 4294967296 = (c4 + c5 + c6 + c7) + 256 * (c5 + c6 + c7) + 65536 * ((c6 + c7) + 256 * c7) := part_low'' (a := (c0 + c1 + c2 + c3) + 256 * (c1 + c2 + c3 + c4) + 65536 * ((c2 + c3 + c4 + c5) + 256 * (c3 + c4 + c5 + c6))) (by omega) z2
  have vb : V < 18446744073709551616 := by rw [z2]; clear z2 e3 zb; omega
  have z3 : V + V / 4294967296 = (c0 + c1 + c2 + c3 + c4 + c5 + c6 + c7) + 256 * ((c1 + c2 + c3 + c4) + (c5 + c6 + c7) + 256 * ((c2 + c3 + c4 + c5) + (c6 + c7) + 256 * (c3 + c4 + c5 + c6 + c7)) + 16777216 * ((c4 + c5 + c6 + c7) + 256 * (c5 + c6 + c7) + 65536 * ((c6 + c7) + 256 * c7))) := by rw [e3, z2]; exact id3 c0 c1 c2 c3 c4 c5 c6 c7
  clear z2 e3
  refine ⟨zb, vb, by rw [z3]; clear z3 zb vb; omega, ?_⟩
  rw [z3]
  exact part_mod (by clear z3 zb vb; omega)
theorem bsum_eight (x : Nat) : bsum 8 x = pop 8 (x % 256) + 256 * pop 8 (x / 256 % 256) + 65536 * pop 8 (x / 256 / 256 % 256) + 16777216 * pop 8 (x / 256 / 256 / 256 % 256) + 4294967296 * pop 8 (x / 256 / 256 / 256 / 256 % 256) +
    1099511627776 * pop 8 (x / 256 / 256 / 256 / 256 / 256 % 256) + 281474976710656 * pop 8 (x / 256 / 256 / 256 / 256 / 256 / 256 % 256) + 72057594037927936 * pop 8 (x / 256 / 256 / 256 / 256 / 256 / 256 / 256 % 256) := by
  simp only [bsum]; omega
theorem pop_step (n x : Nat) : pop (8 + n) x = pop 8 (x % 256) + pop n (x / 256) := by
  have h := pop_byte n (x % 256) (x / 256) (by omega)
  rw [show x % 256 + 256 * (x / 256) = x by omega] at h
  exact h
theorem pop_eight (x : Nat) : pop 64 x = pop 8 (x % 256) + pop 8 (x / 256 % 256) + pop 8 (x / 256 / 256 % 256) + pop 8 (x / 256 / 256 / 256 % 256) + pop 8 (x / 256 / 256 / 256 / 256 % 256) +
    pop 8 (x / 256 / 256 / 256 / 256 / 256 % 256) + pop 8 (x / 256 / 256 / 256 / 256 / 256 / 256 % 256) + pop 8 (x / 256 / 256 / 256 / 256 / 256 / 256 / 256 % 256) := by
  rw [show (64 : Nat) = 8 + (8 + (8 + (8 + (8 + (8 + (8 + (8 + 0))))))) from rfl, pop_step, pop_step, pop_step, pop_step, pop_step, pop_step, pop_step, pop_step]
  simp only [pop]
  omega
end Go.Proofs.Ytmhioeoioohmpaa.BitsMath
namespace Go.Proofs.Ytmhioeoioohmpaa.BitsPure
open Go.RowKit Go.Proofs.Ytmhioeoioohmpaa.QBm Go.Proofs.YtmhioeoioohmpaaW.PrintWords Go.Proofs.YtmhioeoioohmpaaW.PrintLast Go.Proofs.YtmhioeoioohmpaaW.PrintMore Go.Proofs.Ytmhioeoioohmpaa.BitsMath
set_option linter.unusedVariables false
theorem wrapN {a : Nat} (h : a < 18446744073709551616) : IntKind.u64.wrap (a : Int) = (a : Int) := by rw [IntKind.wrap_u64]; omega
theorem wr64 (n : Int) (h0 : 0 ≤ n) (h1 : n < 2 ^ 64) : IntKind.u64.wrap n = n := by rw [IntKind.wrap_u64]; omega
theorem andN (a b : Nat) (ha : a < 18446744073709551616) (hb : b < 18446744073709551616) : Go.bits .and .u64 (a : Int) (b : Int) = ((a &&& b : Nat) : Int) := (bits_nat .u64 64 (by decide) wr64 a b ha hb).1
def S1 (x : Int) : Int := IntKind.u64.wrap ((Go.bits .and .u64 (x / 2) 6148914691236517205) + (Go.bits .and .u64 x 6148914691236517205))
def S2 (x : Int) : Int := IntKind.u64.wrap ((Go.bits .and .u64 (x / 4) 3689348814741910323) + (Go.bits .and .u64 x 3689348814741910323))
def S3 (x : Int) : Int := Go.bits .and .u64 (IntKind.u64.wrap ((x / 16) + x)) 1085102592571150095
def S4 (x : Int) : Int := IntKind.u64.wrap (x + x / 256)
def S5 (x : Int) : Int := IntKind.u64.wrap (x + x / 65536)
def S6 (x : Int) : Int := IntKind.u64.wrap (x + x / 4294967296)
theorem ones_steps (x : Int) : bits_OnesCount64.f x = some (Go.bits .and .i64 (wrap64 (S6 (S5 (S4 (S3 (S2 (S1 x))))))) 127) := by
  unfold bits_OnesCount64.f S6 S5 S4 S3 S2 S1
  rfl
theorem S1_eq (n : Nat) (h : n < 18446744073709551616) (hs : st1 (rep 85 8) n < 18446744073709551616) : S1 (n : Int) = (st1 (rep 85 8) n : Nat) := by
  have e : (6148914691236517205 : Int) = ((rep 85 8 : Nat) : Int) := by decide
  unfold S1
  rw [e, show (n : Int) / 2 = ((n / 2 : Nat) : Int) by omega, andN _ _ (by omega) (by decide), andN _ _ h (by decide), ← Int.natCast_add]
  exact wrapN hs
theorem S2_eq (n : Nat) (h : n < 18446744073709551616) (hs : st2 (rep 51 8) n < 18446744073709551616) : S2 (n : Int) = (st2 (rep 51 8) n : Nat) := by
  have e : (3689348814741910323 : Int) = ((rep 51 8 : Nat) : Int) := by decide
  unfold S2
  rw [e, show (n : Int) / 4 = ((n / 4 : Nat) : Int) by omega, andN _ _ (by omega) (by decide), andN _ _ h (by decide), ← Int.natCast_add]
  exact wrapN hs
theorem S3_eq (n : Nat) (h : n / 16 + n < 18446744073709551616) : S3 (n : Int) = (st3 (rep 15 8) n : Nat) := by
  have e : (1085102592571150095 : Int) = ((rep 15 8 : Nat) : Int) := by decide
  unfold S3
  rw [e, show (n : Int) / 16 = ((n / 16 : Nat) : Int) by omega, ← Int.natCast_add, wrapN h, andN _ _ h (by decide)]
  rfl
theorem st1_lt {k : Nat} : ∀ x, x < 256 ^ k → st1 (rep 85 k) x < 256 ^ k := by
  induction k with
  | zero => intro x h; obtain rfl : x = 0 := by simpa using h
            rw [(st_zero _).1]; decide
  | succ k ih =>
    intro x h
    have hq : x / 256 < 256 ^ k := by rw [Nat.div_lt_iff_lt_mul (by omega), ← Nat.pow_succ]; exact h
    have hb := byte_tells (x % 256) (by omega)
    have e1 : st1 (rep 85 (k + 1)) x = st1 85 (x % 256) + 256 * st1 (rep 85 k) (x / 256) := by
      conv => lhs; rw [show x = x % 256 + 256 * (x / 256) by omega]
      exact st1_byte _ _ _ (by omega)
    have := ih _ hq
    rw [e1, Nat.pow_succ]; omega
theorem st2_lt {k : Nat} : ∀ x, x < 256 ^ k → 255 * st2 (rep 51 k) (st1 (rep 85 k) x) + 68 ≤ 68 * 256 ^ k := by
  induction k with
  | zero => intro x h; obtain rfl : x = 0 := by simpa using h
            rw [(st_zero _).1, (st_zero _).2.1]; decide
  | succ k ih =>
    intro x h
    have hq : x / 256 < 256 ^ k := by rw [Nat.div_lt_iff_lt_mul (by omega), ← Nat.pow_succ]; exact h
    have hb := byte_tells (x % 256) (by omega)
    have e1 : st1 (rep 85 (k + 1)) x = st1 85 (x % 256) + 256 * st1 (rep 85 k) (x / 256) := by
      conv => lhs; rw [show x = x % 256 + 256 * (x / 256) by omega]
      exact st1_byte _ _ _ (by omega)
    have e2 : st2 (rep 51 (k + 1)) (st1 (rep 85 (k + 1)) x) = st2 51 (st1 85 (x % 256)) + 256 * st2 (rep 51 k) (st1 (rep 85 k) (x / 256)) := by
      rw [e1]; exact st2_byte _ _ _ hb.1
    have := ih _ hq
    rw [e2, Nat.pow_succ]; omega
theorem mask7 (u : Nat) (h : u < 18446744073709551616) : Go.bits .and .i64 (wrap64 (u : Int)) 127 = ((u % 128 : Nat) : Int) := by
  have e : Go.bits .and .i64 (wrap64 (u : Int)) 127 = IntKind.i64.wrap ((BitVec.ofInt 64 (wrap64 (u : Int)) &&& BitVec.ofInt 64 127).toNat : Int) := rfl
  have e1 : (BitVec.ofInt 64 (wrap64 (u : Int))).toNat = u := by
    rw [BitVec.toNat_ofInt]
    unfold wrap64
    omega
  have e2 : (BitVec.ofInt 64 127).toNat = 2 ^ 7 - 1 := by decide
  rw [e, BitVec.toNat_and, e1, e2, Nat.and_two_pow_sub_one_eq_mod, IntKind.wrap_i64]
  omega
theorem ones_eq (n : Nat) (h : n < 18446744073709551616) : bits_OnesCount64.f (n : Int) = some ((pop 64 n : Nat) : Int) := by
  have hk : n < 256 ^ 8 := h
  have a1 := st1_lt n hk
  have a2 := st2_lt n hk
  obtain ⟨_, a3⟩ := steps 8 n hk
  rw [show (256 : Nat) ^ 8 = 18446744073709551616 by decide] at a1 a2
  rw [ones_steps, S1_eq n h a1, S2_eq _ a1 (by omega), S3_eq _ (by omega), a3]
  obtain ⟨f1, f2, f3, f4⟩ := fold_eight _ _ _ _ _ _ _ _ (bsum 8 n) (pop8_le _) (pop8_le _) (pop8_le _) (pop8_le _) (pop8_le _) (pop8_le _) (pop8_le _) (pop8_le _) (bsum_eight n)
  rw [← pop_eight] at f4
  have hp := pop_le 64 n
  generalize bsum 8 n = y at *
  have g1 : S4 (y : Int) = ((y + y / 256 : Nat) : Int) := by unfold S4; rw [show (y : Int) + (y : Int) / 256 = ((y + y / 256 : Nat) : Int) by omega]; exact wrapN f1
  rw [g1]
  generalize y + y / 256 = z at *
  have g2 : S5 (z : Int) = ((z + z / 65536 : Nat) : Int) := by unfold S5; rw [show (z : Int) + (z : Int) / 65536 = ((z + z / 65536 : Nat) : Int) by omega]; exact wrapN f2
  rw [g2]
  generalize z + z / 65536 = v at *
  have g3 : S6 (v : Int) = ((v + v / 4294967296 : Nat) : Int) := by unfold S6; rw [show (v : Int) + (v : Int) / 4294967296 = ((v + v / 4294967296 : Nat) : Int) by omega]; exact wrapN f3
  rw [g3]
  generalize v + v / 4294967296 = u at *
  rw [mask7 u f3, f4]
theorem ones_int (x : Int) (h0 : 0 ≤ x) (h1 : x < 18446744073709551616) : bits_OnesCount64.f x = some ((pop 64 x.toNat : Nat) : Int) := by
  obtain ⟨n, rfl⟩ := Int.eq_ofNat_of_zero_le h0
  rw [ones_eq n (by omega)]; rfl
theorem count_int (x : Int) (h0 : 0 ≤ x) (h1 : x < 18446744073709551616) : bits_Count.f x = some ((pop 64 x.toNat : Nat) : Int) := by
  unfold bits_Count.f; rw [ones_int x h0 h1]; rfl
theorem has_eq (n : Nat) (i : Int) (h : n < 18446744073709551616) : taskmasterref2_Has.f (n : Int) i = some (decide (0 ≤ i ∧ i < 64) && n.testBit i.toNat) := by
  unfold taskmasterref2_Has.f
  by_cases h0 : i ≥ 0
  · rw [if_pos h0]
    by_cases h1 : i < 64
    · have e1 : IntKind.u64.wrap i = i := by rw [IntKind.wrap_u64]; omega
      rw [if_pos h1, e1, if_pos h0, decide_eq_true (show 0 ≤ i ∧ i < 64 from ⟨h0, h1⟩), Bool.true_and]
      obtain ⟨j, rfl⟩ := Int.eq_ofNat_of_zero_le h0
      have e2 : shr .u64 (n : Int) (j : Int) = ((n / 2 ^ j : Nat) : Int) := by
        unfold shr
        rw [Int.toNat_natCast]
        have hj : j ≤ IntKind.u64.bits := by show j ≤ 64; omega
        rw [show min j IntKind.u64.bits = j from Nat.min_eq_left hj]
        norm_cast
      rw [e2]
      have hd : n / 2 ^ j < 18446744073709551616 := Nat.lt_of_le_of_lt (Nat.div_le_self _ _) h
      have e3 := andN (n / 2 ^ j) 1 hd (by decide)
      rw [show ((1 : Nat) : Int) = 1 from rfl] at e3
      rw [e3, Nat.and_one_is_mod, Int.toNat_natCast, Nat.testBit_eq_decide_div_mod_eq]
      congr 1
      by_cases hq : n / 2 ^ j % 2 = 1
      · rw [decide_eq_true hq, hq]; rfl
      · have hz : n / 2 ^ j % 2 = 0 := by omega
        rw [decide_eq_false hq, hz]; rfl
    · rw [if_neg h1, decide_eq_false (by omega)]; rfl
  · rw [if_neg h0, decide_eq_false (by omega)]; rfl
def listFrom (n : Nat) : Nat → Nat → List Int
  | 0, _ => []
  | d + 1, i => if n.testBit i then (i : Int) :: listFrom n d (i + 1) else listFrom n d (i + 1)
theorem listFrom_length (n : Nat) : ∀ (d i : Nat), (listFrom n d i).length = pop d (n / 2 ^ i)
  | 0, i => rfl
  | d + 1, i => by
    unfold listFrom pop
    rw [Nat.div_div_eq_div_mul, show 2 ^ i * 2 = 2 ^ (i + 1) from (Nat.pow_succ 2 i).symm]
    have := listFrom_length n d (i + 1)
    rw [Nat.testBit_eq_decide_div_mod_eq]
    by_cases hb : n / 2 ^ i % 2 = 1
    · rw [decide_eq_true hb, if_pos rfl, List.length_cons, this]; omega
    · rw [decide_eq_false hb, if_neg (by simp), this]; omega
theorem list_loop (n : Nat) (h : n < 18446744073709551616) : ∀ (d k i : Nat) (acc : List Int), i + d = 64 → d < k → acc.length ≤ i → taskmasterref2_List.l0 k (n : Int) acc (i : Int) = some (acc ++ listFrom n d i) := by
  intro d
  induction d with
  | zero =>
    intro k i acc hi hk ha
    obtain ⟨k, rfl⟩ : ∃ m, k = m + 1 := ⟨k - 1, by omega⟩
    unfold taskmasterref2_List.l0
    rw [if_neg (by omega)]; unfold listFrom; rw [List.append_nil]
  | succ d ih =>
    intro k i acc hi hk ha
    obtain ⟨k, rfl⟩ : ∃ m, k = m + 1 := ⟨k - 1, by omega⟩
    unfold taskmasterref2_List.l0
    have ew : wrap64 ((i : Int) + 1) = ((i + 1 : Nat) : Int) := by unfold wrap64; omega
    rw [if_pos (by omega), has_eq n i h, Option.bind_some, decide_eq_true (show 0 ≤ (i : Int) ∧ (i : Int) < 64 by omega), Bool.true_and, Int.toNat_natCast, ew]
    unfold listFrom
    by_cases hb : n.testBit i = true
    · rw [if_pos hb, if_pos (by omega), ih k (i + 1) _ (by omega) (by omega) (by simp; omega), if_pos hb, List.append_assoc]; rfl
    · rw [if_neg hb, ih k (i + 1) _ (by omega) (by omega) (by omega), if_neg hb]
theorem list_eq (x : Int) (h0 : 0 ≤ x) (h1 : x < 18446744073709551616) (k : Nat) (hk : 64 < k) : taskmasterref2_List.f k x = some (listFrom x.toNat 64 0) := by
  obtain ⟨n, rfl⟩ := Int.eq_ofNat_of_zero_le h0
  unfold taskmasterref2_List.f
  have := list_loop n (by omega) 64 k 0 [] (by omega) hk (Nat.zero_le _)
  rw [List.nil_append] at this
  exact this
theorem rcount_eq (x : Int) (h0 : 0 ≤ x) (h1 : x < 18446744073709551616) (k : Nat) (hk : 64 < k) : taskmasterref2_Count.f k x = some ((pop 64 x.toNat : Nat) : Int) := by
  unfold taskmasterref2_Count.f
  rw [list_eq x h0 h1 k hk, Option.bind_some, listFrom_length, Nat.pow_zero, Nat.div_one]
end Go.Proofs.Ytmhioeoioohmpaa.BitsPure
namespace Go.Proofs.Ytmhioeoioohmpaa.Open
open Go.RowKit Go.Proofs.YtmhioeoioohmpaaW.PrintWords Go.Proofs.YtmhioeoioohmpaaW.PrintLast Go.WideShapes
set_option linter.unusedVariables false
structure Opens (P : Program) {α : Type} (k : Kd α) (t : TypeId) (W : α → Prop) : Prop where
  out : ∀ {H : Type} {enc : TypeId × Value → H} {w : World} {base : Nat} {spare : Nat → Bool} {held : Bool} {fuel : Nat} {cs : List Value} {x : DataW H × List MemPlace},
    DataW.trod enc P w base spare held fuel t cs = some x → ∃ a : α, k.K w a cs ∧ W a
theorem opens_int {P : Program} {t : TypeId} {k : IntKind} (ht : P.underlying t = some (.int k)) : Opens P (Kd.int k) t (fun n => (Lit.int k n).wf = true) := by
  refine ⟨fun {H enc w base spare held fuel cs x} h => ?_⟩
  obtain ⟨n, rfl, _, hw⟩ := DataW.trod_int ht h
  exact ⟨n, rfl, hw⟩
theorem opens_string {P : Program} {t : TypeId} (ht : P.underlying t = some .string) : Opens P Kd.string t (fun s => s.size ≤ maxLen) := by
  refine ⟨fun {H enc w base spare held fuel cs x} h => ?_⟩
  obtain ⟨s, rfl, _, hs⟩ := DataW.trod_string ht h
  exact ⟨s, rfl, hs⟩
theorem addr_add (a : Addr) (i j : Nat) : (a.add i).add j = a.add (i + j) := Go.Deep.add_add a i j
theorem opens_slice {P : Program} {α : Type} [Inhabited α] {d : Kd α} {t e : TypeId} {W : α → Prop} (ht : P.underlying t = some (.slice e)) (hs : P.cellsOf e = d.sz) (hd : Opens P d e W) :
    Opens P (Kd.slice e d) t (fun xs => ∀ x ∈ xs, W x) := by
  refine ⟨fun {H enc w base spare held fuel cs x} h => ?_⟩
  rcases Go.Deep.open_slice ht h with ⟨rfl, _⟩ | ⟨a, len, cap, m, n, D, Pl, rfl, hb, hl, hc, hm, _, hel⟩
  · exact ⟨[], ⟨none, 0, rfl, Nat.le_refl _, rfl, Nat.zero_le _, fun h => absurd h (Nat.lt_irrefl _)⟩, fun x hx => absurd hx (List.not_mem_nil)⟩
  · have hlm : len ≤ m := by rw [hm]; split <;> omega
    have each : ∀ i, i < len → ∃ y : α, (∃ cs', w.cells? base (a.add (i * P.cellsOf e)) (P.cellsOf e) = some cs' ∧ d.K w y cs') ∧ W y := fun i hi => by
      obtain ⟨cs', h1, h2⟩ := hel i (by omega)
      obtain ⟨y, hy, hw⟩ := hd.out h2
      exact ⟨y, ⟨cs', h1, hy⟩, hw⟩
    obtain ⟨f, hf⟩ := Go.Deep.choose_lt each
    have hlen : ((List.range len).map f).length = len := by simp
    refine ⟨(List.range len).map f, ⟨some a, cap, by rw [hlen], by rw [hlen]; exact hl, rfl, ?_, ?_⟩, ?_⟩
    · rw [hlen]; unfold maxLen at hc; omega
    · intro _
      refine ⟨a, rfl, fun j p hp => ?_⟩
      obtain ⟨hj, rfl⟩ := List.getElem?_eq_some_iff.1 hp
      rw [hlen] at hj
      obtain ⟨⟨cs', h1, h2⟩, _⟩ := hf j hj
      obtain ⟨_, h4, h5⟩ := World.cells?_some h1
      refine ⟨cs', by rw [h4, hs], by simpa using h2, fun i u hu => ?_⟩
      have hi : i < cs'.length := by
        by_cases q : i < cs'.length
        · exact q
        · rw [List.getElem?_eq_none (by omega)] at hu; cases hu
      have := h5 i (by omega)
      rw [addr_add, hs] at this
      rw [this]; exact hu
    · intro x hx
      obtain ⟨i, hi, rfl⟩ := List.mem_map.1 hx
      exact (hf i (List.mem_range.1 hi)).2
structure OpensFrom (P : Program) (fs : Array Field) (i : Nat) (off : Nat) {α : Type} (k : Kd α) (W : α → Prop) : Prop where
  out : ∀ {H : Type} {enc : TypeId × Value → H} {w : World} {base : Nat} {spare : Nat → Bool} {held : Bool} {n : Nat} {cs : List Value} {xs : List (DataW H × List MemPlace)},
    xs.length = fs.size → cs.length = off + k.sz →
    (∀ (j : Nat) (f : Field), fs[j]? = some f → DataW.trod enc P w base spare held n f.type ((cs.drop f.offset).take (P.cellsOf f.type)) = xs[j]?) → ∃ a : α, k.K w a (cs.drop off) ∧ W a
theorem opensFrom_last {P : Program} {fs : Array Field} {i off : Nat} {α : Type} {k : Kd α} {W : α → Prop} (f : Field) (hf : fs[i]? = some f) (ho : f.offset = off) (hs : P.cellsOf f.type = k.sz) (hd : Opens P k f.type W) : OpensFrom P fs i off k W := by
  refine ⟨fun {H enc w base spare held n cs xs} hx hl h => ?_⟩
  have hi : i < xs.length := by
    rw [hx]
    by_cases q : i < fs.size
    · exact q
    · rw [Array.getElem?_eq_none (by omega)] at hf; cases hf
  have h1 := h i f hf
  rw [List.getElem?_eq_getElem hi, ho, hs, List.take_of_length_le (by simp; omega)] at h1
  exact hd.out h1
theorem opensFrom_cons {P : Program} {fs : Array Field} {i off : Nat} {α β : Type} {k : Kd α} {l : Kd β} {W : α → Prop} {V : β → Prop} (f : Field) (hf : fs[i]? = some f) (ho : f.offset = off) (hs : P.cellsOf f.type = k.sz)
    (hd : Opens P k f.type W) (hr : OpensFrom P fs (i + 1) (off + k.sz) l V) : OpensFrom P fs i off (Kd.pair k l) (fun x => W x.1 ∧ V x.2) := by
  refine ⟨fun {H enc w base spare held n cs xs} hx hl h => ?_⟩
  have hi : i < xs.length := by
    rw [hx]
    by_cases q : i < fs.size
    · exact q
    · rw [Array.getElem?_eq_none (by omega)] at hf; cases hf
  have hl' : cs.length = off + (k.sz + l.sz) := hl
  have h1 := h i f hf
  rw [List.getElem?_eq_getElem hi, ho, hs] at h1
  obtain ⟨a, ka, wa⟩ := hd.out h1
  obtain ⟨b, kb, wb⟩ := hr.out hx (by omega) h
  refine ⟨(a, b), ⟨_, _, ?_, ka, kb⟩, wa, wb⟩
  rw [← List.drop_drop, List.take_append_drop]
theorem opens_struct {P : Program} {t : TypeId} {fs : Array Field} {α β : Type} {k : Kd α} {g : β → α} {W : α → Prop} {V : β → Prop} (ht : P.underlying t = some (.struct fs)) (hs : P.cellsOf t = k.sz) (hd : OpensFrom P fs 0 0 k W)
    (inv : α → β) (hg : ∀ a, g (inv a) = a) (hW : ∀ a, W a → V (inv a)) : Opens P (Kd.iso k g) t V := by
  refine ⟨fun {H enc w base spare held fuel cs x} h => ?_⟩
  obtain ⟨xs, n, _, _, hl, hx, hall⟩ := DataW.trod_struct ht h
  obtain ⟨a, ka, wa⟩ := hd.out hx (by rw [hl, hs]; omega) hall
  exact ⟨inv a, by show k.K w (g (inv a)) cs; rw [hg]; simpa using ka, hW a wa⟩
theorem arg_struct {P : Program} {H : Type} {enc : TypeId × Value → H} {w : World} {base : Nat} {spare : Nat → Bool} {held : Bool} {α : Type} {d : Kd α} {t : TypeId} {fs : Array Field} {W : α → Prop} {v : Value} {x : DataW H} {ps : List MemPlace} {r : Reach} {b0 : Nat}
    (ht : P.underlying t = some (.struct fs)) (hv : Value.okWide P w r b0 t v) (ho : Opens P d t W) (h : DataW.Trod enc P w base spare held t v x ps) :
    ∃ (a : α) (cs : List Value), v = .agg cs.toArray ∧ d.K w a cs ∧ W a := by
  obtain ⟨fuel, hf⟩ := h
  obtain ⟨cs, rfl, _⟩ := okWide_struct ht hv
  obtain ⟨a, ha, hw⟩ := ho.out hf
  exact ⟨a, cs.toList, by simp, ha, hw⟩
end Go.Proofs.Ytmhioeoioohmpaa.Open
namespace Go.Proofs.Ytmhioeoioohmpaa.QBm
open Go.RowKit Go.Proofs.YtmhioeoioohmpaaW.PrintWords Go.Proofs.YtmhioeoioohmpaaW.PrintLast Go.Proofs.Ytmhioeoioohmpaa.Open
set_option linter.unusedVariables false
instance : Inhabited S31 := ⟨z31⟩
def wf31 (x : S31) : Prop := ((x.f0).size ≤ maxLen) ∧ ((Lit.int .i64 x.f1).wf = true) ∧ ((Lit.int .i64 x.f2).wf = true) ∧ ((Lit.int .i64 x.f3).wf = true) ∧ ((Lit.int .i64 x.f4).wf = true) ∧ ((Lit.int .i64 x.f5).wf = true) ∧ (∀ y ∈ x.f6, (Lit.int .i64 y).wf = true) ∧ ((Lit.int .u64 x.f7).wf = true) ∧ ((Lit.int .u64 x.f8).wf = true)
theorem opens31 : Opens Try.prog k31 31 wf31 :=
  opens_struct Try.underlying31 (by kernel_rfl) (opensFrom_cons _ rfl rfl (by kernel_rfl) (opens_string Try.underlying9) (opensFrom_cons _ rfl rfl (by kernel_rfl) (opens_int Try.underlying2) (opensFrom_cons _ rfl rfl (by kernel_rfl) (opens_int Try.underlying2) (opensFrom_cons _ rfl rfl (by kernel_rfl) (opens_int Try.underlying3) (opensFrom_cons _ rfl rfl (by kernel_rfl) (opens_int Try.underlying2) (opensFrom_cons _ rfl rfl (by kernel_rfl) (opens_int Try.underlying3) (opensFrom_cons _ rfl rfl (by kernel_rfl) (opens_slice Try.underlying28 (by kernel_rfl) (opens_int Try.underlying2)) (opensFrom_cons _ rfl rfl (by kernel_rfl) (opens_int Try.underlying29) (opensFrom_last _ rfl rfl (by kernel_rfl) (opens_int Try.underlying29)))))))))) (fun a => ⟨a.1, a.2.1, a.2.2.1, a.2.2.2.1, a.2.2.2.2.1, a.2.2.2.2.2.1, a.2.2.2.2.2.2.1, a.2.2.2.2.2.2.2.1, a.2.2.2.2.2.2.2.2⟩) (fun _ => rfl) (fun _ h => h)
structure S24 where
  f0 : Int
  f1 : (List S31)
def z24 : S24 := ⟨0, []⟩
def k24 : Kd S24 := Kd.iso (Kd.pair (Kd.int .i64) (Kd.slice 31 k31)) (fun x : S24 => (x.f0, x.f1))
theorem k24_open {w : World} {x : S24} {cs : List Value} (h : k24.K w x cs) : ∃ A1 c1, cs = [.int .i64 x.f0, .slice A1 x.f1.length c1] ∧ x.f1.length ≤ c1 ∧ Kd.C k31 w A1 x.f1.length x.f1 := by
  obtain ⟨_, _, rfl, rfl, ⟨A1, c1, rfl, l1, g1⟩⟩ := h
  exact ⟨A1, c1, rfl, l1, g1⟩
instance : Inhabited S24 := ⟨z24⟩
def wf24 (x : S24) : Prop := ((Lit.int .i64 x.f0).wf = true) ∧ (∀ y ∈ x.f1, wf31 y)
theorem opens24 : Opens Try.prog k24 24 wf24 :=
  opens_struct Try.underlying24 (by kernel_rfl) (opensFrom_cons _ rfl rfl (by kernel_rfl) (opens_int Try.underlying2) (opensFrom_last _ rfl rfl (by kernel_rfl) (opens_slice Try.underlying22 (by kernel_rfl) opens31))) (fun a => ⟨a.1, a.2⟩) (fun _ => rfl) (fun _ h => h)
end Go.Proofs.Ytmhioeoioohmpaa.QBm
namespace Go.Proofs.Ytmhioeoioohmpaa.QBm
open Go.RowKit Go.Proofs.YtmhioeoioohmpaaW.PrintWords Go.Proofs.YtmhioeoioohmpaaW.PrintLast Go.Proofs.YtmhioeoioohmpaaW.PrintMore
attribute [local go_sem] max2_int min2_int max_two min_two max_three min_three max_four min_four
set_option linter.unusedVariables false
set_option linter.unusedSimpArgs false

end Go.Proofs.Ytmhioeoioohmpaa.QBm
namespace Go.Proofs.Ytmhioeoioohmpaa.AgainPure
open Go.RowKit Go.Proofs.Ytmhioeoioohmpaa.QBm Go.Proofs.YtmhioeoioohmpaaW.PrintWords Go.Proofs.YtmhioeoioohmpaaW.PrintLast Go.Proofs.YtmhioeoioohmpaaW.PrintMore Go.Proofs.Ytmhioeoioohmpaa.RefSet Go.Proofs.Ytmhioeoioohmpaa.BitsPure Go.Proofs.Ytmhioeoioohmpaa.BitsMath
set_option linter.unusedVariables false
theorem u64_in {n : Int} (h : (Lit.int .u64 n).wf = true) : 0 ≤ n ∧ n < 18446744073709551616 := by
  simp only [Lit.wf, IntKind.min, IntKind.max, IntKind.signed, IntKind.bits, Bool.and_eq_true] at h
  simp at h
  omega
def SetsOK (l : List S31) : Prop := ∀ y ∈ l, (0 ≤ y.f7 ∧ y.f7 < 18446744073709551616) ∧ (0 ≤ y.f8 ∧ y.f8 < 18446744073709551616)
theorem sets_of {l : List S31} (h : ∀ y ∈ l, wf31 y) : SetsOK l := fun y hy => ⟨u64_in (h y hy).2.2.2.2.2.2.2.1, u64_in (h y hy).2.2.2.2.2.2.2.2⟩
theorem sizes_of {l : List S31} (h : ∀ y ∈ l, wf31 y) : ∀ y ∈ l, y.f0.size ≤ 9223372036854775807 := fun y hy => (h y hy).1
theorem rd_in {l : List S31} {i : Int} (h0 : 0 ≤ i) (h1 : i < (l.length : Int)) : rd_T31 l i ∈ l := by
  unfold rd_T31; rw [List.getD_eq_getElem?_getD, List.getElem?_eq_getElem (show i.toNat < l.length by omega)]; exact List.getElem_mem _
theorem is_at (r : Int) (l : List S31) (i : Int) : again_is.f r l i = some (decide (0 ≤ i ∧ i < (l.length : Int))) := by
  unfold again_is.f
  by_cases h : 0 ≤ i
  · rw [if_pos (show i ≥ 0 from h)]; simp [h]
  · rw [if_neg (show ¬ i ≥ 0 from h)]; simp [h]
def ticksV (r : Int) (x : Nat) : Int := wrap64 (r * (pop 64 x : Nat))
theorem ticks_eq (r : Int) (l : List S31) (n : Nat) (h : n < 18446744073709551616) : again_ticks.f r l (n : Int) = some (ticksV r n) := by
  unfold again_ticks.f
  rw [count_int (n : Int) (by omega) (by omega), Option.bind_some]; rfl
theorem ticksV_in {r : Int} (h0 : 0 ≤ r) (h1 : r ≤ 10000) (x : Nat) : ticksV r x = r * (pop 64 x : Nat) ∧ 0 ≤ ticksV r x ∧ ticksV r x ≤ 640000 := by
  have hp := pop_le 64 x
  have a : 0 ≤ r * ((pop 64 x : Nat) : Int) := Int.mul_nonneg h0 (by omega)
  have b : r * ((pop 64 x : Nat) : Int) ≤ 10000 * 64 := Int.mul_le_mul h1 (by omega) (by omega) (by omega)
  have e : ticksV r x = r * (pop 64 x : Nat) := w64 (by omega) (by omega)
  rw [e]; exact ⟨rfl, a, by omega⟩
def ownV (r : Int) (l : List S31) (i : Int) : Int := if 0 ≤ i ∧ i < (l.length : Int) then ticksV r (rd_T31 l i).f8.toNat else 0
theorem own_eq {r : Int} {l : List S31} (h : SetsOK l) (i : Int) : again_Own.f r l i = some (ownV r l i) := by
  unfold again_Own.f ownV
  rw [is_at, Option.bind_some]
  by_cases c : 0 ≤ i ∧ i < (l.length : Int)
  · have hx := (h _ (rd_in c.1 c.2)).2
    rw [decide_eq_true c, if_pos rfl, if_pos c.1, if_pos c.2, if_pos c]
    have := ticks_eq r l (rd_T31 l i).f8.toNat (by omega)
    rw [Int.toNat_of_nonneg hx.1] at this
    rw [this]; rfl
  · rw [decide_eq_false c, if_neg (by simp), if_neg c]
theorem ownV_in {r : Int} (h0 : 0 ≤ r) (h1 : r ≤ 10000) (l : List S31) (i : Int) : 0 ≤ ownV r l i ∧ ownV r l i ≤ 640000 := by
  unfold ownV
  split
  · exact (ticksV_in h0 h1 _).2
  · omega
end Go.Proofs.Ytmhioeoioohmpaa.AgainPure
namespace Go.Proofs.Ytmhioeoioohmpaa.BlockPure
open Go.RowKit Go.Proofs.Ytmhioeoioohmpaa.QBm Go.Proofs.YtmhioeoioohmpaaW.PrintWords Go.Proofs.YtmhioeoioohmpaaW.PrintLast Go.Proofs.YtmhioeoioohmpaaW.PrintMore Go.Proofs.Ytmhioeoioohmpaa.RefSet Go.Proofs.Ytmhioeoioohmpaa.BitsPure Go.Proofs.Ytmhioeoioohmpaa.BitsMath Go.Proofs.Ytmhioeoioohmpaa.AgainPure
set_option linter.unusedVariables false
theorem twork_loop {l : List Int} (hl : l.length ≤ 8) (h : ∀ x ∈ l, 1 ≤ x ∧ x ≤ 10000) (d : Nat) : ∀ (k i : Nat) (acc : Int), i + d = l.length → d < k → 0 ≤ acc → acc ≤ 10000 * i →
    task_Work.l0 k acc l (l.length : Int) (i : Int) = some (acc + sum (l.drop i)) := by
  induction d with
  | zero =>
    intro k i acc hi hk h0 h1
    obtain ⟨k, rfl⟩ : ∃ m, k = m + 1 := ⟨k - 1, by omega⟩
    simp only [task_Work.l0]
    rw [if_neg (by omega), List.drop_eq_nil_of_le (by omega)]; simp [sum]
  | succ d ih =>
    intro k i acc hi hk h0 h1
    obtain ⟨k, rfl⟩ : ∃ m, k = m + 1 := ⟨k - 1, by omega⟩
    have hlt : i < l.length := by omega
    have hm : rd l (i : Int) ∈ l := by
      unfold rd; rw [Int.toNat_natCast, List.getD_eq_getElem?_getD, List.getElem?_eq_getElem hlt]; exact List.getElem_mem hlt
    have hx := h _ hm
    simp only [task_Work.l0]
    rw [if_pos (by omega), if_pos (by omega), if_pos (by omega), w64 (n := acc + rd l (i : Int)) (by omega) (by omega), w64 (n := (i : Int) + 1) (by omega) (by omega), rd_drop hlt]
    have := ih k (i + 1) (acc + rd l (i : Int)) (by omega) (by omega) (by omega) (by omega)
    rw [show ((i + 1 : Nat) : Int) = (i : Int) + 1 by omega] at this
    rw [this]
    simp only [sum]
    rw [Int.add_assoc]
theorem twork_eq (s : ByteArray) (a1 a2 a3 a4 a5 : Int) {l : List Int} (a7 a8 : Int) (hl : l.length ≤ 8) (h : ∀ x ∈ l, 1 ≤ x ∧ x ≤ 10000) (k : Nat) (hk : 8 < k) : task_Work.f k s a1 a2 a3 a4 a5 l a7 a8 = some (sum l) := by
  unfold task_Work.f
  have := twork_loop hl h l.length k 0 0 (by omega) (by omega) (by omega) (by omega)
  rw [List.drop_zero, Int.zero_add] at this
  exact this
theorem twork_ev (s : ByteArray) (a1 a2 a3 a4 a5 : Int) {l : List Int} (a7 a8 : Int) (hl : l.length ≤ 8) (h : ∀ x ∈ l, 1 ≤ x ∧ x ≤ 10000) : Ev (fun k => task_Work.f k s a1 a2 a3 a4 a5 l a7 a8) (sum l) := ⟨9, fun k hk => twork_eq s a1 a2 a3 a4 a5 a7 a8 hl h k (by omega)⟩
theorem maxFrom_ge : ∀ (l : List Int) (m : Int), m ≤ maxFrom m l ∧ ∀ x ∈ l, x ≤ maxFrom m l
  | [], m => ⟨Int.le_refl _, fun x hx => absurd hx List.not_mem_nil⟩
  | y :: l, m => by
    have ih := maxFrom_ge l (if m < y then y else m)
    have e : maxFrom m (y :: l) = maxFrom (if m < y then y else m) l := rfl
    rw [e]
    have h1 : m ≤ (if m < y then y else m) ∧ y ≤ (if m < y then y else m) := by split <;> omega
    refine ⟨by omega, fun x hx => ?_⟩
    rcases List.mem_cons.1 hx with rfl | hx
    · omega
    · exact ih.2 x hx
theorem maxFrom_le {B : Int} : ∀ (l : List Int) (m : Int), m ≤ B → (∀ x ∈ l, x ≤ B) → maxFrom m l ≤ B
  | [], m, h, _ => h
  | y :: l, m, h, hl => by
    have e : maxFrom m (y :: l) = maxFrom (if m < y then y else m) l := rfl
    rw [e]
    refine maxFrom_le l _ ?_ (fun x hx => hl x (List.mem_cons_of_mem _ hx))
    have := hl y List.mem_cons_self
    split <;> omega
def maxR : List Int → Int
  | [] => 0
  | x :: l => maxFrom x l
theorem max_eq {l : List Int} (h : 1 ≤ l.length) : slices_Max_int64_int64.f l = some (maxR l) := by
  cases l with
  | nil => simp at h
  | cons x l => rfl
theorem le_sum {l : List Int} (h : ∀ x ∈ l, 1 ≤ x ∧ x ≤ 10000) : ∀ x ∈ l, x ≤ sum l := by
  induction l with
  | nil => intro x hx; exact absurd hx List.not_mem_nil
  | cons y l ih =>
    intro x hx
    have hb := sum_bound (l := l) (fun z hz => h z (List.mem_cons_of_mem _ hz))
    have hy := h y List.mem_cons_self
    simp only [sum]
    rcases List.mem_cons.1 hx with rfl | hx
    · omega
    · have := ih (fun z hz => h z (List.mem_cons_of_mem _ hz)) x hx; omega
theorem maxR_in {l : List Int} (h1 : 1 ≤ l.length) (h : ∀ x ∈ l, 1 ≤ x ∧ x ≤ 10000) : 1 ≤ maxR l ∧ maxR l ≤ 10000 ∧ maxR l ≤ sum l := by
  cases l with
  | nil => simp at h1
  | cons y l =>
    have hy := h y List.mem_cons_self
    have a := maxFrom_ge l y
    have b := maxFrom_le (B := 10000) l y hy.2 (fun x hx => (h x (List.mem_cons_of_mem _ hx)).2)
    have c := maxFrom_le (B := sum (y :: l)) l y (le_sum h y List.mem_cons_self) (fun x hx => le_sum h x (List.mem_cons_of_mem _ hx))
    exact ⟨by show 1 ≤ maxFrom y l; omega, b, c⟩
def wholeV (r : Int) (l : List S31) (low : Int) : Int := sum (rd_T31 l low).f6 + ownV r l low - 1
def ofV (r : Int) (l : List S31) (low high : Int) : Int :=
  if 0 ≤ high ∧ high < low ∧ low < (l.length : Int) then
    (if (rd_T31 l low).f3 = 0 then maxR (rd_T31 l low).f6 + ownV r l low - 1
     else if (rd_T31 l low).f3 = 1 then mn (rd_T31 l low).f4 (wholeV r l low)
     else if (rd_T31 l low).f5 ≤ high then wholeV r l low else 0)
  else 0
theorem of_ev {r : Int} {l : List S31} (hok : SetOK r l) (hS : SetsOK l) (low high : Int) : Ev (fun k => block_Of.f k r l low high) (ofV r l low high) := by
  obtain ⟨r0, r1, l1, l8, ht⟩ := hok
  unfold block_Of.f
  have no : Ev (fun k => block_Of.j0 k low high true r l) 0 := Ev.step (fun k => by rw [block_Of.j0, if_pos rfl]) (Ev.now 0)
  by_cases c0 : high < 0
  · have e : ofV r l low high = 0 := if_neg (by omega)
    rw [e]; exact evp c0 no
  by_cases c1 : low ≤ high
  · have e : ofV r l low high = 0 := if_neg (by omega)
    rw [e]; exact evn c0 (evp c1 no)
  by_cases c2 : low ≥ (l.length : Int)
  · have e : ofV r l low high = 0 := if_neg (by omega)
    rw [e, decide_eq_true c2]; exact evn c0 (evn c1 no)
  refine evn c0 (evn c1 ?_)
  rw [decide_eq_false c2]
  have hx := ht low (by omega) (by omega)
  have ho := ownV_in r0 r1 l low
  have hsum := sum_bound hx.2.2.2.1
  have hmax := maxR_in hx.1 hx.2.2.2.1
  have hwork := twork_ev (rd_T31 l low).f0 (rd_T31 l low).f1 (rd_T31 l low).f2 (rd_T31 l low).f3 (rd_T31 l low).f4 (rd_T31 l low).f5 (rd_T31 l low).f7 (rd_T31 l low).f8 hx.2.1 hx.2.2.2.1
  have h8 := hx.2.1
  have hin : 0 ≤ high ∧ high < low ∧ low < (l.length : Int) := ⟨by omega, by omega, by omega⟩
  refine Ev.step (fun k => by rw [block_Of.j0, if_neg (by simp), if_pos (by omega), if_pos (by omega)]) (evb (own_eq hS low) (Ev.bind hwork ?_))
  by_cases m0 : (rd_T31 l low).f3 = 0
  · have e : ofV r l low high = maxR (rd_T31 l low).f6 + ownV r l low - 1 := by unfold ofV; rw [if_pos hin, if_pos m0]
    rw [e]
    refine evp m0 (evb (max_eq hx.1) ?_)
    rw [w64 (n := maxR (rd_T31 l low).f6 + ownV r l low) (by omega) (by omega), w64 (by omega) (by omega)]
    exact Ev.now _
  · refine evn m0 ?_
    have ew : wrap64 (wrap64 (sum (rd_T31 l low).f6 + ownV r l low) - 1) = wholeV r l low := by
      unfold wholeV
      rw [w64 (n := sum (rd_T31 l low).f6 + ownV r l low) (by omega) (by omega), w64 (n := sum (rd_T31 l low).f6 + ownV r l low - 1) (by omega) (by omega)]
    rw [ew]
    by_cases m1 : (rd_T31 l low).f3 = 1
    · have e : ofV r l low high = mn (rd_T31 l low).f4 (wholeV r l low) := by unfold ofV; rw [if_pos hin, if_neg m0, if_pos m1]
      rw [e]; exact evp m1 (Ev.now _)
    · refine evn m1 ?_
      by_cases m2 : (rd_T31 l low).f5 ≤ high
      · have e : ofV r l low high = wholeV r l low := by unfold ofV; rw [if_pos hin, if_neg m0, if_neg m1, if_pos m2]
        rw [e]; exact evp m2 (Ev.now _)
      · have e : ofV r l low high = 0 := by unfold ofV; rw [if_pos hin, if_neg m0, if_neg m1, if_neg m2]
        rw [e]; exact evn m2 (Ev.now _)
end Go.Proofs.Ytmhioeoioohmpaa.BlockPure
namespace Go.Proofs.Ytmhioeoioohmpaa.Pure
open Go.RowKit Go.Proofs.Ytmhioeoioohmpaa.QBm Go.Proofs.YtmhioeoioohmpaaW.PrintWords Go.Proofs.YtmhioeoioohmpaaW.PrintLast Go.Proofs.YtmhioeoioohmpaaW.PrintMore Go.Proofs.Ytmhioeoioohmpaa.RefSet Go.Proofs.Ytmhioeoioohmpaa.BitsPure Go.Proofs.Ytmhioeoioohmpaa.BitsMath Go.Proofs.Ytmhioeoioohmpaa.AgainPure Go.Proofs.Ytmhioeoioohmpaa.BlockPure
set_option linter.unusedVariables false
theorem put_loop (r : Int) (l : List S31) (hl : l.length ≤ 8) (hr : ∀ y ∈ l, y.f6.length ≤ 8) (d : Nat) : ∀ (i : Nat), i + d = l.length → Ev (fun k => taskmasterref5_Put.l0 k (i : Int) r l r (l.take i)) (r, l) := by
  induction d with
  | zero =>
    intro i hi
    refine Ev.step (fun k => by rw [taskmasterref5_Put.l0]) (evn (by omega) ?_)
    rw [List.take_of_length_le (by omega)]; exact Ev.now _
  | succ d ih =>
    intro i hi
    have hlt : i < l.length := by omega
    have hx := hr _ (rd_in (i := (i : Int)) (by omega) (by omega))
    have hn : ([] : List Int).length = 0 := rfl
    have ht : (l.take i).length ≤ 8 := by rw [List.length_take]; omega
    have e : l.take i ++ [rd_T31 l (i : Int)] = l.take (i + 1) := by
      rw [List.take_succ_eq_append_getElem hlt]
      unfold rd_T31
      rw [Int.toNat_natCast, List.getD_eq_getElem?_getD, List.getElem?_eq_getElem hlt]; rfl
    have := ih (i + 1) (by omega)
    rw [← e] at this
    exact Ev.step (fun k => by rw [taskmasterref5_Put.l0, if_pos (by omega), if_pos (by omega), Option.bind_some, if_pos (by omega), if_pos (by omega), w64 (by omega) (by omega), List.nil_append]; rfl) this
theorem put_ev (r : Int) (l : List S31) (hl : l.length ≤ 8) (hr : ∀ y ∈ l, y.f6.length ≤ 8) : Ev (fun k => taskmasterref5_Put.f k r l) (r, l) := by
  unfold taskmasterref5_Put.f
  exact put_loop r l hl hr l.length 0 (by omega)
theorem regs_of {r : Int} {l : List S31} (h : SetOK r l) : ∀ y ∈ l, y.f6.length ≤ 8 := by
  intro y hy
  obtain ⟨j, hj, rfl⟩ := List.mem_iff_getElem.1 hy
  have := (h.2.2.2.2 (j : Int) (by omega) (by omega)).2.1
  unfold rd_T31 at this
  rw [Int.toNat_natCast, List.getD_eq_getElem?_getD, List.getElem?_eq_getElem hj] at this
  exact this
theorem known9 : Ev (fun k => taskmasterlaw9_known.f k) true := Ev.of (fun k => taskmasterlaw9_known.mono k) (k := 20) (by decide +kernel)
theorem rown_ev {r : Int} {l : List S31} (hok : SetOK r l) (hS : SetsOK l) (i : Int) : Ev (fun k => taskmasterref8_Own.f k r l i) (ownV r l i) := by
  obtain ⟨r0, r1, l1, l8, ht⟩ := hok
  unfold taskmasterref8_Own.f ownV
  by_cases c0 : i < 0
  · rw [if_neg (by omega)]; exact evp c0 (Ev.now _)
  by_cases c1 : i ≥ (l.length : Int)
  · rw [if_neg (by omega)]; exact evn c0 (evp c1 (Ev.now _))
  rw [if_pos ⟨by omega, by omega⟩]
  have hx := (hS _ (rd_in (i := i) (by omega) (by omega))).2
  have hc : Ev (fun k => taskmasterref2_Count.f k (rd_T31 l i).f8) ((pop 64 (rd_T31 l i).f8.toNat : Nat) : Int) := ⟨65, fun k hk => rcount_eq _ hx.1 hx.2 k (by omega)⟩
  exact evn c0 (evn c1 (evp (by omega) (evp (by omega) (Ev.bind hc (Ev.now _)))))
theorem rwork_ev {r : Int} {l : List S31} (hok : SetOK r l) {i : Int} (h0 : 0 ≤ i) (h1 : i < (l.length : Int)) : Ev (fun k => taskmasterref8_Work.f k r l i) (sum (rd_T31 l i).f6) := by
  have hx := hok.2.2.2.2 i h0 h1
  unfold taskmasterref8_Work.f
  exact evp h0 (evp h1 (Ev.bind ⟨9, fun k hk => work_eq _ _ _ _ _ _ _ _ _ hx.2.1 hx.2.2.2.1 k (by omega)⟩ (Ev.now _)))
theorem whole_ev {r : Int} {l : List S31} (hok : SetOK r l) (hS : SetsOK l) {i : Int} (h0 : 0 ≤ i) (h1 : i < (l.length : Int)) : Ev (fun k => taskmasterref9_Whole.f k r l i) (wholeV r l i) := by
  have hx := hok.2.2.2.2 i h0 h1
  have ho := ownV_in hok.1 hok.2.1 l i
  have hsum := sum_bound hx.2.2.2.1
  have h8 := hx.2.1
  unfold taskmasterref9_Whole.f wholeV
  refine Ev.bind (rwork_ev hok h0 h1) (Ev.bind (rown_ev hok hS i) ?_)
  rw [w64 (n := sum (rd_T31 l i).f6 + ownV r l i) (by omega) (by omega), w64 (by omega) (by omega)]
  exact Ev.now _
theorem rd_set {l : List S31} {i : Int} (h0 : 0 ≤ i) (h1 : i < (l.length : Int)) (u : S31) : rd_T31 (l.set i.toNat u) i = u := by
  unfold rd_T31
  rw [List.getD_eq_getElem?_getD, List.getElem?_set_self (by omega)]; rfl
theorem rd_set_ne {l : List S31} {i j : Int} (h0 : 0 ≤ i) (h1 : 0 ≤ j) (h : i ≠ j) (u : S31) : rd_T31 (l.set i.toNat u) j = rd_T31 l j := by
  unfold rd_T31
  rw [List.getD_eq_getElem?_getD, List.getElem?_set_ne (by omega), ← List.getD_eq_getElem?_getD]
theorem setok_set {r : Int} {l : List S31} (h : SetOK r l) {i : Int} (h0 : 0 ≤ i) (h1 : i < (l.length : Int)) {u : S31} (hu : TaskOK u i) : SetOK r (l.set i.toNat u) := by
  obtain ⟨r0, r1, l1, l8, ht⟩ := h
  refine ⟨r0, r1, by rw [List.length_set]; exact l1, by rw [List.length_set]; exact l8, fun j j0 j1 => ?_⟩
  rw [List.length_set] at j1
  by_cases c : i = j
  · subst c; rw [rd_set h0 h1]; exact hu
  · rw [rd_set_ne h0 j0 c]; exact ht j j0 j1
theorem setsok_set {l : List S31} (h : SetsOK l) (i : Nat) {u : S31} (hu : (0 ≤ u.f7 ∧ u.f7 < 18446744073709551616) ∧ (0 ≤ u.f8 ∧ u.f8 < 18446744073709551616)) : SetsOK (l.set i u) := by
  intro y hy
  rcases List.mem_or_eq_of_mem_set hy with hy | rfl
  · exact h y hy
  · exact hu
theorem own_set (r : Int) (l : List S31) {i : Int} (h0 : 0 ≤ i) (h1 : i < (l.length : Int)) {u : S31} (h8 : u.f8 = (rd_T31 l i).f8) : ownV r (l.set i.toNat u) i = ownV r l i := by
  unfold ownV
  rw [List.length_set, rd_set h0 h1, h8]
theorem whole_set (r : Int) (l : List S31) {i : Int} (h0 : 0 ≤ i) (h1 : i < (l.length : Int)) {u : S31} (h6 : u.f6 = (rd_T31 l i).f6) (h8 : u.f8 = (rd_T31 l i).f8) : wholeV r (l.set i.toNat u) i = wholeV r l i := by
  unfold wholeV
  rw [rd_set h0 h1, own_set r l h0 h1 h8, h6]
theorem BlockModes (a0 : S24) (a1 : Int) (a2 : Int) (a3 : Int) (a4 : Int) (w0 : wf24 a0) (w1 : (Lit.int .i64 a1).wf = true) (w2 : (Lit.int .i64 a2).wf = true) (w3 : (Lit.int .i64 a3).wf = true) (w4 : (Lit.int .i64 a4).wf = true) : ∃ k, taskmasterlaw9_BlockModes.f k a0.f0 a0.f1 a1 a2 a3 a4 = some true := by
  refine Ev.rounds ?_
  have hS := sets_of w0.2
  obtain ⟨b, hb, hok⟩ := all_ends a0.f0 a0.f1 (sizes_of w0.2)
  generalize a0.f0 = r at *
  generalize a0.f1 = l at *
  have no : Ev (fun k => taskmasterlaw9_BlockModes.j0 k a1 a2 a3 a4 true r l) true := Ev.step (fun k => by rw [taskmasterlaw9_BlockModes.j0, if_pos rfl]) (Ev.now true)
  unfold taskmasterlaw9_BlockModes.f
  by_cases c0 : (l.length : Int) > 10
  · exact evp c0 no
  refine evn c0 (Ev.bind hb ?_)
  by_cases c1 : b = true
  · refine evp c1 ?_
    have hset := hok c1
    by_cases c2 : a2 < 0
    · exact evp c2 no
    refine evn c2 ?_
    by_cases c3 : a1 ≤ a2
    · exact evp c3 no
    refine evn c3 ?_
    by_cases c4 : a1 ≥ (l.length : Int)
    · exact evp c4 no
    refine evn c4 ?_
    by_cases c5 : a3 < 0
    · exact evp c5 no
    refine evn c5 ?_
    by_cases c6 : a3 > 10000
    · exact evp c6 no
    refine evn c6 ?_
    by_cases c7 : a4 < 0
    · exact evp c7 no
    refine evn c7 ?_
    by_cases c8 : a4 > a1
    · rw [decide_eq_true c8]; exact no
    rw [decide_eq_false c8]
    have g0 : 0 ≤ a1 := by omega
    have g1 : a1 < (l.length : Int) := by omega
    have hx := hset.2.2.2.2 a1 g0 g1
    have hu := hS _ (rd_in g0 g1)
    have hput := put_ev r l hset.2.2.2.1 (regs_of hset)
    have hset1 := setok_set hset g0 g1 (u := (⟨(rd_T31 l a1).f0, (rd_T31 l a1).f1, (rd_T31 l a1).f2, 1, a3, 0, (rd_T31 l a1).f6, (rd_T31 l a1).f7, (rd_T31 l a1).f8⟩ : S31)) ⟨hx.1, hx.2.1, hx.2.2.1, hx.2.2.2.1, hx.2.2.2.2.1, hx.2.2.2.2.2.1, hx.2.2.2.2.2.2.1, .inr (.inl ⟨rfl, by show 0 ≤ a3; omega, by show a3 ≤ 10000; omega, rfl⟩)⟩
    have hset2 := setok_set hset g0 g1 (u := (⟨(rd_T31 l a1).f0, (rd_T31 l a1).f1, (rd_T31 l a1).f2, 2, 0, a4, (rd_T31 l a1).f6, (rd_T31 l a1).f7, (rd_T31 l a1).f8⟩ : S31)) ⟨hx.1, hx.2.1, hx.2.2.1, hx.2.2.2.1, hx.2.2.2.2.1, hx.2.2.2.2.2.1, hx.2.2.2.2.2.2.1, .inr (.inr ⟨rfl, rfl, by show 0 ≤ a4; omega, by show a4 ≤ a1; omega⟩)⟩
    have hS1 := setsok_set hS a1.toNat (u := (⟨(rd_T31 l a1).f0, (rd_T31 l a1).f1, (rd_T31 l a1).f2, 1, a3, 0, (rd_T31 l a1).f6, (rd_T31 l a1).f7, (rd_T31 l a1).f8⟩ : S31)) hu
    have hS2 := setsok_set hS a1.toNat (u := (⟨(rd_T31 l a1).f0, (rd_T31 l a1).f1, (rd_T31 l a1).f2, 2, 0, a4, (rd_T31 l a1).f6, (rd_T31 l a1).f7, (rd_T31 l a1).f8⟩ : S31)) hu
    have e1 : ofV r (l.set a1.toNat (⟨(rd_T31 l a1).f0, (rd_T31 l a1).f1, (rd_T31 l a1).f2, 1, a3, 0, (rd_T31 l a1).f6, (rd_T31 l a1).f7, (rd_T31 l a1).f8⟩ : S31)) a1 a2 = mn a3 (wholeV r l a1) := by
      unfold ofV
      rw [if_pos ⟨by omega, by omega, by rw [List.length_set]; omega⟩, whole_set r l g0 g1 (u := (⟨(rd_T31 l a1).f0, (rd_T31 l a1).f1, (rd_T31 l a1).f2, 1, a3, 0, (rd_T31 l a1).f6, (rd_T31 l a1).f7, (rd_T31 l a1).f8⟩ : S31)) rfl rfl, rd_set g0 g1, if_neg (show ¬ (1 : Int) = 0 by decide), if_pos rfl]
    have e2 : ofV r (l.set a1.toNat (⟨(rd_T31 l a1).f0, (rd_T31 l a1).f1, (rd_T31 l a1).f2, 2, 0, a4, (rd_T31 l a1).f6, (rd_T31 l a1).f7, (rd_T31 l a1).f8⟩ : S31)) a1 a2 = if a4 ≤ a2 then wholeV r l a1 else 0 := by
      unfold ofV
      rw [if_pos ⟨by omega, by omega, by rw [List.length_set]; omega⟩, whole_set r l g0 g1 (u := (⟨(rd_T31 l a1).f0, (rd_T31 l a1).f1, (rd_T31 l a1).f2, 2, 0, a4, (rd_T31 l a1).f6, (rd_T31 l a1).f7, (rd_T31 l a1).f8⟩ : S31)) rfl rfl, rd_set g0 g1, if_neg (show ¬ (2 : Int) = 0 by decide), if_neg (show ¬ (2 : Int) = 1 by decide)]
    have o1 := of_ev hset1 hS1 a1 a2
    have o2 := of_ev hset2 hS2 a1 a2
    rw [e1] at o1
    rw [e2] at o2
    have hn : ∀ u : S31, ((l.set a1.toNat u).length : Int) = (l.length : Int) := fun u => by rw [List.length_set]
    refine Ev.step (fun k => by rw [taskmasterlaw9_BlockModes.j0, if_neg (by simp)]) ?_
    refine Ev.bind hput (Ev.bind hput (evp g0 (evp g1 ?_)))
    simp only [Option.bind_some, List.set_set, rd_set g0 g1]
    refine evp g1 ?_
    refine Ev.bind (whole_ev hset hS g0 g1) ?_
    by_cases c9 : a4 > a2
    · rw [if_neg (by omega)] at o2
      exact evp c9 (Ev.bind o1 (evp rfl (Ev.bind o2 (evp rfl (Ev.bind known9 (Ev.now true))))))
    · rw [if_pos (by omega)] at o2
      exact evn c9 (Ev.bind o1 (evp rfl (Ev.bind o2 (evp rfl (Ev.bind known9 (Ev.now true))))))
  · exact evn c1 no
end Go.Proofs.Ytmhioeoioohmpaa.Pure
namespace Go.Proofs.Ytmhioeoioohmpaa.blockModes
open Go.ChangeShapes Go.WideShapes Go.ChangeAt Go.RowKit
open Go.ChangeMaps (open_string shut_string)
open Go.Proofs.YtmhioeoioohmpaaW.PrintWords Go.Proofs.YtmhioeoioohmpaaW.PrintLast Go.Proofs.Ytmhioeoioohmpaa.QBm Go.Proofs.Ytmhioeoioohmpaa.Open
set_option linter.unusedVariables false
theorem own : ownKnob Try.prog.godebug = none := by kernel_rfl
theorem laidOut : laidOutB Try.prog = true := by kernel_rfl
set_option maxRecDepth 100000 in
theorem lifted (os : Os) (started : os.Started) (H : Type) (enc : TypeId × Value → H) :
    ReturnsInHanded {} Try.checked os 8 .any (Rows.blockModesSpec.pre6 enc Try.prog Try.f8 Rows.blockModesRow.domain false) (Rows.blockModesSpec.post enc Try.prog Try.f8 false true false false) := by
  refine returnsInHanded_of_change_sized (C := Try.checked) own started (by kernel_rfl) Try.func8
    (ChangeSpec.witness6 (enc := enc) (C := Try.checked) false ⟨#[], #[.agg #[.int .i64 0, .slice none 0 0], .int .i64 0, .int .i64 0, .int .i64 0, .int .i64 0], []⟩ 8 (by kernel_rfl) (by kernel_rfl) (by kernel_rfl) (by kernel_rfl)) ?_
  intro W base args ds gs before hval0 hW hcnd hsz0 _
  have hsz : (DataW.weightsEach Try.prog (Try.f8.params.toList ++ Rows.blockModesSpec.plain.varTypes Try.prog) (ds ++ gs)).all (· ≤ reachBytes) = true := hsz0
  have hval : ∀ (j : Nat) t v, Try.f8.params[j]? = some t → args[j]? = some v → Value.okWide Try.prog W .any base t v := hval0
  have hW' := hW
  obtain ⟨p, q, hA0, hV, rfl, hfz, hnd⟩ := hW
  have hA : DataW.TrodAll enc Try.prog W 0 (fun _ => true) true Try.f8.params.toList args.toList ds p := hA0
  rw [Try.params8] at hA hval hsz
  obtain ⟨v0, vs0, d0, ds0, p0, q0, hargs, rfl, rfl, h0, r0⟩ := trodAll_cons hA
  obtain ⟨v1, vs1, d1, ds1, p1, q1, rfl, rfl, rfl, h1, r1⟩ := trodAll_cons r0
  obtain ⟨v2, vs2, d2, ds2, p2, q2, rfl, rfl, rfl, h2, r2⟩ := trodAll_cons r1
  obtain ⟨v3, vs3, d3, ds3, p3, q3, rfl, rfl, rfl, h3, r3⟩ := trodAll_cons r2
  obtain ⟨v4, vs4, d4, ds4, p4, q4, rfl, rfl, rfl, h4, r4⟩ := trodAll_cons r3
  obtain ⟨rfl, rfl, rfl⟩ := trodAll_nil r4
  obtain rfl : args = #[v0, v1, v2, v3, v4] := by cases args; simp_all
  obtain ⟨rfl, rfl⟩ := trodVars_none hV
  have k0 := h0
  have lt0 : ∀ x ∈ p0, x.block < W.heap.size := by obtain ⟨m, hm⟩ := k0; exact DataW.trod_lt m _ _ _ hm
  obtain ⟨a0, cs0, rfl, hk0, hw0⟩ := arg_struct Try.underlying24 (hval 0 24 v0 rfl rfl) opens24 h0
  obtain ⟨A0_1, c0_1, rfl, hc0_1, hr0_1⟩ := k24_open hk0
  obtain ⟨a1, rfl, rfl, rfl, w1⟩ := open_int Try.underlying3 (hval 1 3 v1 rfl rfl) h1
  obtain ⟨a2, rfl, rfl, rfl, w2⟩ := open_int Try.underlying3 (hval 2 3 v2 rfl rfl) h2
  obtain ⟨a3, rfl, rfl, rfl, w3⟩ := open_int Try.underlying2 (hval 3 2 v3 rfl rfl) h3
  obtain ⟨a4, rfl, rfl, rfl, w4⟩ := open_int Try.underlying3 (hval 4 3 v4 rfl rfl) h4
  clear hA0 hval0 hsz0 hsz
  obtain ⟨k, hk⟩ := Pure.BlockModes a0 a1 a2 a3 a4 hw0 w1 w2 w3 w4
  refine (taskmasterlaw9_BlockModes.calls (w := W) (h := hk) (hc0_1 := hc0_1) (hr0_1 := hr0_1)).mono fun e W' ⟨he, bel0⟩ => ?_
  have bel : Below W.heap.size W W' := bel0
  subst he
  exact ⟨_, rfl, _, _, _, [], _, [], hW', trodAll_mk1 (shut_bool Try.underlying4 _), (trodAll_cons_mk (Below.trod laidOut (by kernel_rfl) (of_decide_eq_true (by kernel_rfl)) k0 bel lt0) (trodAll_cons_mk (shut_int Try.underlying3 w1) (trodAll_cons_mk (shut_int Try.underlying3 w2) (trodAll_cons_mk (shut_int Try.underlying2 w3) (trodAll_cons_mk (shut_int Try.underlying3 w4) trodAll_mk0))))), rfl, bel.frame _, fun h => by cases h⟩
theorem over : Rows.blockModesRow.holds Try.pinned (OpenSpec.ofChange Rows.blockModesSpec) :=
  OpenClaim.holds_of_wide 8 Try.f8 rfl rfl rfl rfl rfl rfl rfl ⟨rfl, rfl, rfl, rfl, rfl⟩ rfl rfl rfl rfl rfl (by kernel_rfl) Try.func8 (by kernel_rfl)
    (of_decide_eq_true (by kernel_rfl)) (by unfold Func.isWrapper; first | (rw [if_pos (by decide +kernel)]; kernel_rfl) | (rw [if_neg (by decide +kernel)]; exact ⟨rfl, rfl⟩))
    (fun os started H enc _ => lifted os started H enc)
theorem proved : Rows.BlockModesSaid := over
end Go.Proofs.Ytmhioeoioohmpaa.blockModes
namespace Go.Proofs.Ytmhioeoioohmpaa
theorem blockModes_holds : Rows.BlockModesSaid := blockModes.proved
end Go.Proofs.Ytmhioeoioohmpaa

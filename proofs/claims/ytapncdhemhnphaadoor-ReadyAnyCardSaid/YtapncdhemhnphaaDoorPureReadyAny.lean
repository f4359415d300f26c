/- What is proved: chapter 23's law ReadyAny comes to 'true' at every argument, in plain Lean; conditions as each theorem names them. -/
import Derived.Test.YtapncdhemhnphaaDoorHandTz
import Derived.Laws.BitsLemmas
import Derived.Test.YtapncdhemhnphaaDoorQRcxf3
import Derived.Test.YtapncdhemhnphaaDoorQRcxf12
import Derived.Test.YtapncdhemhnphaaDoorQRcxf35
namespace Go.Proofs.YtapncdhemhnphaaDoor.Pure
open Go.RowKit Go.Proofs.YtapncdhemhnphaaDoor.QRc Go.Proofs.YtapncdhemhnphaaDoorW.PrintWords Go.Proofs.YtapncdhemhnphaaDoorW.PrintLast Go.Proofs.YtapncdhemhnphaaDoorW.PrintMore
set_option linter.unusedVariables false

theorem wrapN {a : Nat} (h : a < 18446744073709551616) : IntKind.u64.wrap (a : Int) = (a : Int) := by rw [IntKind.wrap_u64]; omega
theorem wr64 (n : Int) (h0 : 0 ≤ n) (h1 : n < 2 ^ 64) : IntKind.u64.wrap n = n := by rw [IntKind.wrap_u64]; omega
theorem andN (a b : Nat) (ha : a < 18446744073709551616) (hb : b < 18446744073709551616) : Go.bits .and .u64 (a : Int) (b : Int) = ((a &&& b : Nat) : Int) := (bits_nat .u64 64 (by decide) wr64 a b ha hb).1
theorem orN (a b : Nat) (ha : a < 18446744073709551616) (hb : b < 18446744073709551616) : Go.bits .or .u64 (a : Int) (b : Int) = ((a ||| b : Nat) : Int) := (bits_nat .u64 64 (by decide) wr64 a b ha hb).2
theorem and_lt {a b : Nat} (ha : a < 18446744073709551616) : a &&& b < 18446744073709551616 := Nat.lt_of_le_of_lt Nat.and_le_left ha
theorem or_lt {a b : Nat} (ha : a < 18446744073709551616) (hb : b < 18446744073709551616) : a ||| b < 18446744073709551616 := Nat.or_lt_two_pow (n := 64) ha hb
theorem has_eq (n : Nat) (i : Int) (h : n < 18446744073709551616) : taskmasterref2_Has.f (n : Int) i = some (decide (0 ≤ i ∧ i < 64) && n.testBit i.toNat) := by
  unfold taskmasterref2_Has.f
  by_cases h0 : i ≥ 0
  · rw [if_pos h0]
    by_cases h1 : i < 64
    · have e1 : IntKind.u64.wrap i = i := by rw [IntKind.wrap_u64]; omega
      rw [if_pos h1, e1, if_pos h0, decide_eq_true (show 0 ≤ i ∧ i < 64 from ⟨h0, h1⟩), Bool.true_and]
      obtain ⟨j, rfl⟩ := Int.eq_ofNat_of_zero_le h0
      have e2 : shr .u64 (n : Int) (j : Int) = ((n / 2 ^ j : Nat) : Int) := by
        unfold shr
        rw [Int.toNat_natCast]
        have hj : j ≤ IntKind.u64.bits := by show j ≤ 64; omega
        rw [show min j IntKind.u64.bits = j from Nat.min_eq_left hj]
        norm_cast
      rw [e2]
      have hd : n / 2 ^ j < 18446744073709551616 := Nat.lt_of_le_of_lt (Nat.div_le_self _ _) h
      have e3 := andN (n / 2 ^ j) 1 hd (by decide)
      rw [show ((1 : Nat) : Int) = 1 from rfl] at e3
      rw [e3, Nat.and_one_is_mod, Int.toNat_natCast, Nat.testBit_eq_decide_div_mod_eq]
      congr 1
      by_cases hq : n / 2 ^ j % 2 = 1
      · rw [decide_eq_true hq, hq]; rfl
      · have hz : n / 2 ^ j % 2 = 0 := by omega
        rw [decide_eq_false hq, hz]; rfl
    · rw [if_neg h1, decide_eq_false (by omega)]; rfl
  · rw [if_neg h0, decide_eq_false (by omega)]; rfl
theorem evp {α : Type} {c : Prop} [Decidable c] {f g : Nat → Option α} {r : α} (h : c) (k : Ev f r) : Ev (fun n => if c then f n else g n) r := Ev.congr (fun _ => if_pos h) k
theorem evn {α : Type} {c : Prop} [Decidable c] {f g : Nat → Option α} {r : α} (h : ¬ c) (k : Ev g r) : Ev (fun n => if c then f n else g n) r := Ev.congr (fun _ => if_neg h) k
theorem evb {α β : Type} {o : Option α} {f : Nat → α → Option β} {a : α} {r : β} (h : o = some a) (k : Ev (fun n => f n a) r) : Ev (fun n => o.bind (f n)) r := Ev.congr (fun n => by rw [h]; rfl) k
theorem w64 {n : Int} (h0 : -9223372036854775808 ≤ n) (h1 : n ≤ 9223372036854775807) : wrap64 n = n := by unfold wrap64; omega
theorem wi {i : Nat} (h : i ≤ 1000000) : wrap64 ((i : Int) + 1) = ((i + 1 : Nat) : Int) := w64 (by omega) (by omega)
theorem rd_drop {l : List Int} {i : Nat} (h : i < l.length) : l.drop i = rd l (i : Int) :: l.drop (i + 1) := by
  rw [List.drop_eq_getElem_cons h]; unfold rd
  rw [Int.toNat_natCast, List.getD_eq_getElem?_getD, List.getElem?_eq_getElem h]; rfl
theorem ctz_spec {n : Nat} (h0 : n ≠ 0) (h : n < 18446744073709551616) : ∃ k m, Lib.ctz 64 n = k ∧ n = 2 ^ k * (2 * m + 1) ∧ k < 64 := by
  obtain ⟨m, h1, h2⟩ := Lib.ctzFrom_spec 64 n (by omega) h
  refine ⟨Lib.ctzFrom 64 n, m, ?_, h1, h2⟩
  unfold Lib.ctz; rw [if_neg h0]
theorem bit_of {k m : Nat} (j : Nat) : (2 ^ k * (2 * m + 1)).testBit j = (if j < k then false else (2 * m + 1).testBit (j - k)) := by
  have := Nat.testBit_two_pow_mul_add (2 * m + 1) (b := 0) (i := k) (Nat.two_pow_pos k) j
  rw [Nat.add_zero, Nat.zero_testBit] at this
  exact this
theorem tz_eq {n : Nat} (h : n < 18446744073709551616) : bits_TrailingZeros64.f (n : Int) = some ((Lib.ctz 64 n : Nat) : Int) := by
  unfold bits_TrailingZeros64.f; rw [if_pos (by omega), Int.toNat_natCast]
theorem bis_eq (i : Int) : bits_is.f i = some (decide (0 ≤ i ∧ i < 64)) := by
  unfold bits_is.f
  by_cases h : i ≥ 0
  · rw [if_pos h]; simp [show 0 ≤ i from h]
  · rw [if_neg h]; simp [show ¬ 0 ≤ i from h]
theorem bhas_eq (n : Nat) (i : Int) (h : n < 18446744073709551616) : bits_Has.f (n : Int) i = some (decide (0 ≤ i ∧ i < 64) && n.testBit i.toNat) := by
  have r := has_eq n i h
  unfold taskmasterref2_Has.f at r
  unfold bits_Has.f
  rw [bis_eq, Option.bind_some]
  by_cases h0 : 0 ≤ i
  · by_cases h1 : i < 64
    · have e1 : IntKind.u64.wrap i = i := by rw [IntKind.wrap_u64]; omega
      rw [if_pos (show i ≥ 0 from h0), if_pos h1, e1, if_pos h0] at r
      rw [if_pos (decide_eq_true ⟨h0, h1⟩), if_pos h0]; exact r
    · rw [if_neg (by simp; omega), decide_eq_false (by omega)]; rfl
  · rw [if_neg (by simp; omega), decide_eq_false (by omega)]; rfl
def ofL : Nat → List Int → Nat
  | a, [] => a
  | a, x :: l => if 0 ≤ x ∧ x < 64 then ofL (a ||| 2 ^ x.toNat) l else ofL a l
theorem two_lt {i : Nat} (h : i < 64) : 2 ^ i < 18446744073709551616 := Nat.pow_lt_pow_right (a := 2) (by decide) h
theorem ofL_lt : ∀ (l : List Int) (a : Nat), a < 18446744073709551616 → ofL a l < 18446744073709551616
  | [], a, h => h
  | x :: l, a, h => by
    unfold ofL
    split
    · exact ofL_lt l _ (or_lt h (two_lt (by omega)))
    · exact ofL_lt l a h
theorem shl_eq {i : Nat} (h : i < 64) : shl .u64 1 (i : Int) = ((2 ^ i : Nat) : Int) := by
  unfold shl
  rw [Int.toNat_natCast, show min i IntKind.u64.bits = i from Nat.min_eq_left (show i ≤ 64 by omega), Int.one_mul]
  have e : (2 : Int) ^ i = ((2 ^ i : Nat) : Int) := by norm_cast
  rw [e]
  exact wrapN (two_lt h)
theorem of_loop (l : List Int) (hl : l.length ≤ 1000) (d : Nat) : ∀ (i a : Nat), i + d = l.length → a < 18446744073709551616 → Ev (fun k => bits_Of.l0 k (a : Int) l (l.length : Int) (i : Int)) ((ofL a (l.drop i) : Nat) : Int) := by
  induction d with
  | zero =>
    intro i a hi ha
    rw [List.drop_eq_nil_of_le (by omega)]
    show Ev _ (a : Int)
    exact Ev.step (fun k => by rw [bits_Of.l0]) (evn (by omega) (Ev.now _))
  | succ d ih =>
    intro i a hi ha
    rw [rd_drop (l := l) (i := i) (by omega)]
    generalize hx : rd l (i : Int) = x
    refine Ev.step (fun k => by rw [bits_Of.l0, hx]) (evp (by omega) (evp (by omega) (evp (by omega) (evb (bis_eq x) ?_))))
    unfold ofL
    by_cases h : 0 ≤ x ∧ x < 64
    · obtain ⟨j, rfl⟩ := Int.eq_ofNat_of_zero_le h.1
      refine evp (decide_eq_true h) (evp h.1 ?_)
      rw [if_pos h, shl_eq (by omega), orN a (2 ^ j) ha (two_lt (by omega)), wi (by omega), Int.toNat_natCast]
      exact ih (i + 1) _ (by omega) (or_lt ha (two_lt (by omega)))
    · rw [if_neg h, wi (by omega)]
      exact evn (by simp; omega) (ih (i + 1) a (by omega) ha)
theorem of_ev (l : List Int) (hl : l.length ≤ 1000) : Ev (fun k => bits_Of.f k l) ((ofL 0 l : Nat) : Int) := of_loop l hl l.length 0 0 (by omega) (by decide)
theorem least_eq {n : Nat} (h : n < 18446744073709551616) : bits_Least.f (n : Int) = some (if n = 0 then (0, false) else (((Lib.ctz 64 n : Nat) : Int), true)) := by
  unfold bits_Least.f
  by_cases h0 : n = 0
  · subst h0; rfl
  · rw [if_neg (by omega), tz_eq h, Option.bind_some, if_neg h0]
theorem known23 : Ev (fun k => taskmasterlaw23_known.f k) true := Ev.of (fun k => taskmasterlaw23_known.mono k) (k := 10) (by decide +kernel)
theorem or_self {a j : Nat} (h : a.testBit j = true) : a ||| 2 ^ j = a := by
  refine Nat.eq_of_testBit_eq (fun i => ?_)
  rw [Nat.testBit_or, Nat.testBit_two_pow]
  by_cases e : j = i
  · subst e; simp [h]
  · simp [e]
theorem put_ev {a j : Nat} (ha : a < 18446744073709551616) (hj : j < 64) : ∃ b, Ev (fun k => ready_Ready_Put.f k (a : Int) (j : Int)) (b, ((a ||| 2 ^ j : Nat) : Int)) := by
  have hh : ready_Ready_Has.f (a : Int) (j : Int) = some (a.testBit j, (a : Int)) := by
    unfold ready_Ready_Has.f
    rw [bhas_eq a (j : Int) ha, decide_eq_true (show 0 ≤ (j : Int) ∧ (j : Int) < 64 by omega), Bool.true_and, Int.toNat_natCast]; rfl
  unfold ready_Ready_Put.f
  by_cases hb : a.testBit j = true
  · refine ⟨false, evb hh (evp hb ?_)⟩
    rw [or_self hb]; exact Ev.now _
  · have ho := of_ev [(j : Int)] (by simp)
    have e : ofL 0 [(j : Int)] = 2 ^ j := by
      unfold ofL; rw [if_pos (show 0 ≤ (j : Int) ∧ (j : Int) < 64 by omega), Nat.zero_or, Int.toNat_natCast]; rfl
    rw [e] at ho
    refine ⟨(((2 ^ j : Nat) : Int) != 0), evb hh (evn hb (Ev.bind ho ?_))⟩
    show Ev (fun _ => some ((((2 ^ j : Nat) : Int) != 0), Go.bits .or .u64 (a : Int) ((2 ^ j : Nat) : Int))) _
    rw [orN a (2 ^ j) ha (two_lt hj)]; exact Ev.now _
/-- Is one there that is less? -/
def someL (a : Nat) (i : Int) : Prop := ∃ j : Nat, a.testBit j = true ∧ (j : Int) < i
theorem ahead_eq {a : Nat} (ha : a < 18446744073709551616) (i : Int) (s : Bool) (hs : s = true ↔ someL a i) : ready_Ready_Ahead.f (a : Int) i = some (s, (a : Int)) := by
  unfold ready_Ready_Ahead.f ready_Ready_First.f
  rw [least_eq ha]
  by_cases h0 : a = 0
  · subst h0
    have e : s = false := by
      cases s with
      | false => rfl
      | true => obtain ⟨j, hj, _⟩ := hs.mp rfl; rw [Nat.zero_testBit] at hj; cases hj
    subst e; rfl
  · rw [if_neg h0]
    obtain ⟨k, m, e1, e2, e3⟩ := ctz_spec h0 ha
    have hk : a.testBit k = true := by rw [e2, bit_of, if_neg (by omega), Nat.sub_self, Nat.testBit_zero]; simp
    have hmin : ∀ j, j < k → a.testBit j = false := fun j hj => by rw [e2, bit_of, if_pos hj]
    rw [e1]
    have e : decide ((k : Int) < i) = s := by
      by_cases c : (k : Int) < i
      · rw [decide_eq_true c]; exact (hs.mpr ⟨k, hk, c⟩).symm
      · rw [decide_eq_false c]
        cases s with
        | false => rfl
        | true =>
          obtain ⟨j, hj, hlt⟩ := hs.mp rfl
          by_cases q : j < k
          · rw [hmin j q] at hj; cases hj
          · omega
    show (if true = true then some (decide ((k : Int) < i), (a : Int)) else some (false, (a : Int))) = _
    rw [if_pos rfl, e]
theorem any_loop (l : List Int) (hl : l.length ≤ 100) (x : Int) (d : Nat) : ∀ (i a : Nat) (s : Bool), i + d = l.length → a < 18446744073709551616 → (s = true ↔ someL a x) → Ev (fun k => taskmasterlaw23_ReadyAny.l0 k l x s (i : Int) (a : Int)) true := by
  induction d with
  | zero =>
    intro i a s hi ha hs
    refine Ev.step (fun k => by rw [taskmasterlaw23_ReadyAny.l0]) ?_
    refine evn (by omega) ?_
    refine evb (ahead_eq ha x s hs) ?_
    exact evp (by simp) (Ev.bind known23 (Ev.now true))
  | succ d ih =>
    intro i a s hi ha hs
    generalize hy : rd l (i : Int) = y
    refine Ev.step (fun k => by rw [taskmasterlaw23_ReadyAny.l0, hy]) ?_
    refine evp (by omega) ?_
    refine evp (by omega) ?_
    rw [wi (by omega)]
    by_cases c0 : y ≥ 0
    · refine evp c0 ?_
      by_cases c1 : y < 64
      · refine evp c1 ?_
        obtain ⟨j, rfl⟩ := Int.eq_ofNat_of_zero_le c0
        have hj : j < 64 := by omega
        obtain ⟨b, hb⟩ := put_ev ha hj
        have hn : a ||| 2 ^ j < 18446744073709551616 := or_lt ha (two_lt hj)
        have hbit : ∀ n, (a ||| 2 ^ j).testBit n = (a.testBit n || decide (j = n)) := fun n => by rw [Nat.testBit_or, Nat.testBit_two_pow]
        cases s with
        | true =>
          refine evp rfl (Ev.bind hb ?_)
          refine ih (i + 1) _ true (by omega) hn ⟨fun _ => ?_, fun _ => rfl⟩
          obtain ⟨n, h1, h2⟩ := hs.mp rfl
          exact ⟨n, by rw [hbit, h1]; rfl, h2⟩
        | false =>
          refine evn (by simp) (Ev.bind hb ?_)
          refine ih (i + 1) _ _ (by omega) hn ⟨fun h => ⟨j, by rw [hbit]; simp, of_decide_eq_true h⟩, fun ⟨n, h1, h2⟩ => ?_⟩
          rw [hbit] at h1
          by_cases q : a.testBit n = true
          · have := hs.mpr ⟨n, q, h2⟩; cases this
          · have e : j = n := by simpa [q] using h1
            subst e; exact decide_eq_true h2
      · exact evn c1 (ih (i + 1) a s (by omega) ha hs)
    · exact evn c0 (ih (i + 1) a s (by omega) ha hs)
theorem ReadyAny (l0 : (List Int)) (a1 : Int) (w0 : ∀ y ∈ l0, (Lit.int .i64 y).wf = true) (w1 : (Lit.int .i64 a1).wf = true) : ∃ k : Nat, taskmasterlaw23_ReadyAny.f k l0 a1 = some true := by
  refine Ev.rounds ?_
  unfold taskmasterlaw23_ReadyAny.f
  by_cases c0 : (l0.length : Int) > 100
  · exact evp c0 (Ev.now true)
  refine evn c0 (evb rfl ?_)
  exact any_loop l0 (by omega) a1 l0.length 0 0 false (by omega) (by decide) ⟨fun h => (by cases h), fun ⟨n, h1, _⟩ => (by rw [Nat.zero_testBit] at h1; cases h1)⟩
end Go.Proofs.YtapncdhemhnphaaDoor.Pure

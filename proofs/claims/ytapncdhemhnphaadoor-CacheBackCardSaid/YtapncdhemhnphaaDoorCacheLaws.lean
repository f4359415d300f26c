/- What is proved: chapter 18's laws of caches (Plays, One, Back) come to 'true' at every argument, in plain Lean; conditions as each theorem names them. -/
import Derived.Test.YtapncdhemhnphaaDoorHandCache
import Derived.Test.YtapncdhemhnphaaDoorOpenCa
import Derived.Test.YtapncdhemhnphaaDoorQCaxf6
import Derived.Test.YtapncdhemhnphaaDoorQCaxf7
import Derived.Test.YtapncdhemhnphaaDoorQCaxf8
namespace Go.Proofs.YtapncdhemhnphaaDoor.Pure
open Go.RowKit Go.Proofs.YtapncdhemhnphaaDoor.QCa Go.Proofs.YtapncdhemhnphaaDoorW.PrintWords Go.Proofs.YtapncdhemhnphaaDoorW.PrintLast Go.Proofs.YtapncdhemhnphaaDoorW.PrintMore
set_option linter.unusedVariables false

theorem known18 : taskmasterlaw18_known.f = some true := by decide +kernel
/-! ### What a state is after a touch, and what is held -/
theorem touchA_own (v : Int) (hv : wrap64 v = v) (s : Nat) : ∀ (d i : Nat) (n : Int) (j : Nat), own (touchA v s d i n) j = if (i ≤ j ∧ j < i + d) ∧ s.testBit j = true then v else own n j
  | 0, i, n, j => by rw [if_neg (by omega)]; rfl
  | d + 1, i, n, j => by
    unfold touchA
    rw [touchA_own v hv s d (i + 1)]
    by_cases e : j = i
    · subst e
      rw [if_neg (by omega)]
      by_cases h : s.testBit j = true
      · rw [if_pos h, if_pos ⟨by omega, h⟩, own_upd n j hv, if_pos rfl]
      · rw [if_neg h, if_neg (fun q => h q.2)]
    · have e2 : own (if s.testBit i = true then upd n i v else n) j = own n j := by
        by_cases h : s.testBit i = true
        · rw [if_pos h, own_upd n i hv, if_neg e]
        · rw [if_neg h]
      rw [e2]
      by_cases h : s.testBit j = true
      · by_cases q : i + 1 ≤ j ∧ j < i + 1 + d
        · rw [if_pos ⟨q, h⟩, if_pos ⟨by omega, h⟩]
        · rw [if_neg (fun z => q z.1), if_neg (fun z => q (by omega))]
      · rw [if_neg (fun z => h z.2), if_neg (fun z => h z.2)]
theorem touch_own {t : Int} (h0 : 0 ≤ t) (h1 : t ≤ 1000) (n : Int) (s : Nat) (j : Nat) (hj : j < 64) : own (touchT n t (s : Int)) j = if s.testBit j = true then t + 1 else own n j := by
  unfold touchT
  have e : wrap64 (t + 1) = t + 1 := w64 (by omega) (by omega)
  rw [if_neg (by omega), e, Int.toNat_natCast, touchA_own (t + 1) e s 64 0 n j]
  by_cases h : s.testBit j = true
  · rw [if_pos h, if_pos ⟨by omega, h⟩]
  · rw [if_neg h, if_neg (fun z => h z.2)]
theorem heldA_bit (n v : Int) : ∀ (d i x j : Nat), (heldA n v d i x).testBit j = (x.testBit j || (decide (i ≤ j ∧ j < i + d) && (own n j == v)))
  | 0, i, x, j => by
    unfold heldA
    rw [decide_eq_false (by omega), Bool.false_and, Bool.or_false]
  | d + 1, i, x, j => by
    unfold heldA
    rw [heldA_bit n v d (i + 1)]
    have hb : (if own n i = v then x ||| 2 ^ i else x).testBit j = (x.testBit j || (decide (j = i) && (own n i == v))) := by
      by_cases h : own n i = v
      · rw [if_pos h, Nat.testBit_or, Nat.testBit_two_pow, h]
        by_cases e : j = i
        · subst e; simp
        · rw [decide_eq_false (show ¬ i = j from fun z => e z.symm), decide_eq_false e]; simp
      · rw [if_neg h, show (own n i == v) = false by simpa using h, Bool.and_false, Bool.or_false]
    rw [hb]
    by_cases e : j = i
    · subst e
      rw [decide_eq_true (show j = j from rfl), decide_eq_false (show ¬ (j + 1 ≤ j ∧ j < j + 1 + d) by omega), decide_eq_true (show j ≤ j ∧ j < j + (d + 1) by omega)]
      simp
    · rw [decide_eq_false e, Bool.false_and, Bool.or_false]
      congr 2
      exact decide_eq_decide.mpr (by omega)
theorem heldN {t : Int} (h0 : 0 ≤ t) (h1 : t ≤ 1000) (n : Int) : ∃ m : Nat, heldT n t = (m : Int) ∧ m < 18446744073709551616 ∧ ∀ j, j < 64 → m.testBit j = (own n j == t + 1) := by
  unfold heldT
  have e : wrap64 (t + 1) = t + 1 := w64 (by omega) (by omega)
  rw [if_neg (by omega), e]
  refine ⟨_, rfl, heldA_lt n (t + 1) 64 0 0 rfl (by decide), fun j hj => ?_⟩
  rw [heldA_bit, Nat.zero_testBit, Bool.false_or, decide_eq_true (by omega), Bool.true_and]
theorem bits_ext {a b : Nat} (ha : a < 18446744073709551616) (hb : b < 18446744073709551616) (h : ∀ j, j < 64 → a.testBit j = b.testBit j) : a = b := by
  refine Nat.eq_of_testBit_eq (fun j => ?_)
  by_cases hj : j < 64
  · exact h j hj
  · have hp : 18446744073709551616 ≤ 2 ^ j := Nat.pow_le_pow_right (n := 2) (i := 64) (by decide) (by omega)
    rw [Nat.testBit_lt_two_pow (Nat.lt_of_lt_of_le ha hp), Nat.testBit_lt_two_pow (Nat.lt_of_lt_of_le hb hp)]
theorem touch_f {t s : Int} (n : Int) (h0 : 0 ≤ s) (h1 : s < 18446744073709551616) : cache_Cache_Touch.f n t s = some (decide (0 ≤ t), touchT n t s) := by
  unfold cache_Cache_Touch.f; rw [if_pos ⟨h0, h1⟩]
theorem rtouch_f {t s : Int} (n : Int) (h0 : 0 ≤ s) (h1 : s < 18446744073709551616) : taskmasterref18_Cache_Touch.f n t s = some (decide (0 ≤ t), touchT n t s) := by
  unfold taskmasterref18_Cache_Touch.f; rw [if_pos ⟨h0, h1⟩]
/-! ### Plays -/
theorem plays_loop (l : List S48) (i h : Int) (hl : l.length ≤ 100) (hs : ∀ j : Nat, j < l.length → 0 ≤ (rd_T48 l (j : Int)).f1 ∧ (rd_T48 l (j : Int)).f1 < 18446744073709551616) (d : Nat) : ∀ (j : Nat) (n : Int), j + d = l.length → Ev (fun k => taskmasterlaw18_CachePlays.l0 k l i h (j : Int) n n) true := by
  induction d with
  | zero =>
    intro j n hj
    refine Ev.step (fun k => by rw [taskmasterlaw18_CachePlays.l0]) ?_
    refine evn (by omega) (evb known18 (Ev.now true))
  | succ d ih =>
    intro j n hj
    have hr := hs j (by omega)
    refine Ev.step (fun k => by rw [taskmasterlaw18_CachePlays.l0]) ?_
    refine evp (by omega) (evp (by omega) ?_)
    refine evb (touch_f n hr.1 hr.2) (evb (rtouch_f n hr.1 hr.2) ?_)
    refine evn (by simp) ?_
    refine evb rfl (evb rfl (evp rfl ?_))
    refine evb rfl (evb rfl (evp rfl ?_))
    refine evb rfl (evb rfl (evp rfl ?_))
    rw [wi (i := j) (by omega)]
    exact ih (j + 1) _ (by omega)
theorem CachePlays (l0 : (List S48)) (a1 : Int) (a2 : Int) (w0 : ∀ y ∈ l0, wf48 y) (w1 : (Lit.int .i64 a1).wf = true) (w2 : (Lit.int .u64 a2).wf = true) : ∃ k : Nat, taskmasterlaw18_CachePlays.f k l0 a1 a2 = some true := by
  refine Ev.rounds ?_
  unfold taskmasterlaw18_CachePlays.f
  by_cases c0 : (l0.length : Int) > 100
  · exact evp c0 (Ev.now true)
  refine evn c0 (evb rfl (evb rfl ?_))
  refine plays_loop l0 a1 a2 (by omega) (fun j hj => ?_) l0.length 0 0 (by omega)
  have hm : rd_T48 l0 (j : Int) ∈ l0 := by
    unfold rd_T48
    rw [Int.toNat_natCast, List.getD_eq_getElem?_getD, List.getElem?_eq_getElem hj]
    exact List.getElem_mem hj
  exact u64_in (w0 _ hm).2
/-! ### One -/
theorem one_last (l : List S48) (i : Nat) (hi : i < 64) (hl : l.length ≤ 100) (n : Int) (last : Int) (ho : own n i = last + 1) (hla : -1 ≤ last ∧ last ≤ 1000) (ht : ∀ j : Nat, j < l.length → 0 ≤ (rd_T48 l (j : Int)).f0 ∧ (rd_T48 l (j : Int)).f0 ≤ 1000) (d : Nat) : ∀ j : Nat, j + d = l.length → Ev (fun k => taskmasterlaw18_CacheOne.l1 k l (i : Int) last (j : Int) n) true := by
  induction d with
  | zero =>
    intro j hj
    refine Ev.step (fun k => by rw [taskmasterlaw18_CacheOne.l1]) ?_
    refine evn (by omega) ?_
    refine evb (show nil_Touch.f = some false from rfl) (evn (by simp) ?_)
    refine evb (show nil_Owner.f = some (-1) from rfl) (evp rfl ?_)
    refine evb (show nil_Held.f = some 0 from rfl) (evp rfl ?_)
    refine evb (show nil_Lost.f = some 5 from rfl) (evp rfl ?_)
    exact evb known18 (Ev.now true)
  | succ d ih =>
    intro j hj
    have hr := ht j (by omega)
    refine Ev.step (fun k => by rw [taskmasterlaw18_CacheOne.l1]) ?_
    generalize (rd_T48 l (j : Int)).f0 = t at hr ⊢
    obtain ⟨m, hm, hm64, hb⟩ := heldN hr.1 hr.2 n
    refine evp (by omega) (evp (by omega) ?_)
    refine evb (show cache_Cache_Held.f n t = some ((m : Int), n) by unfold cache_Cache_Held.f; rw [hm]) ?_
    have hu : IntKind.u64.wrap (i : Int) = (i : Int) := wrapN (by omega)
    rw [hu]
    refine evp (by omega) ?_
    rw [shr_one m i hm64 hi, hb i hi, ho]
    refine evn ?_ ?_
    · have e : (last + 1 == t + 1) = (t == last) := by
        by_cases q : t = last
        · subst q; simp
        · rw [show (t == last) = false by simpa using q]
          have : ¬ last + 1 = t + 1 := by omega
          simpa using this
      rw [e]; simp
    rw [wi (i := j) (by omega)]
    exact ih (j + 1) (by omega)
theorem one_loop (l : List S48) (i : Nat) (hi : i < 64) (hl : l.length ≤ 100) (hs : ∀ j : Nat, j < l.length → 0 ≤ (rd_T48 l (j : Int)).f1 ∧ (rd_T48 l (j : Int)).f1 < 18446744073709551616) (d : Nat) : ∀ (j : Nat) (n last : Int), j + d = l.length → own n i = last + 1 → -1 ≤ last → last ≤ 1000 → (∀ q : Nat, q < j → 0 ≤ (rd_T48 l (q : Int)).f0 ∧ (rd_T48 l (q : Int)).f0 ≤ 1000) → Ev (fun k => taskmasterlaw18_CacheOne.l0 k l (i : Int) last (j : Int) n) true := by
  induction d with
  | zero =>
    intro j n last hj ho h0 h1 ht
    refine Ev.step (fun k => by rw [taskmasterlaw18_CacheOne.l0]) ?_
    refine evn (by omega) ?_
    have e : ownerT n (i : Int) = last := by
      unfold ownerT
      rw [if_pos (by omega), Int.toNat_natCast, ho]
      exact (congrArg wrap64 (by omega)).trans (w64 (n := last) (by omega) (by omega))
    refine evb (show cache_Cache_Owner.f n (i : Int) = some (last, n) by unfold cache_Cache_Owner.f; rw [e]) (evp rfl ?_)
    exact one_last l i hi hl n last ho ⟨h0, h1⟩ (fun q hq => ht q (by omega)) l.length 0 (by omega)
  | succ d ih =>
    intro j n last hj ho h0 h1 ht
    have hr := hs j (by omega)
    refine Ev.step (fun k => by rw [taskmasterlaw18_CacheOne.l0]) ?_
    refine evp (by omega) (evp (by omega) ?_)
    generalize ht0 : (rd_T48 l (j : Int)).f0 = t
    by_cases c1 : t < 0
    · refine evp c1 ?_
      exact Ev.step (fun k => by rw [taskmasterlaw18_CacheOne.j2]) (evp rfl (Ev.now true))
    refine evn c1 ?_
    by_cases c2 : t > 1000
    · rw [decide_eq_true c2]
      exact Ev.step (fun k => by rw [taskmasterlaw18_CacheOne.j2]) (evp rfl (Ev.now true))
    rw [decide_eq_false c2]
    have ht' : ∀ q : Nat, q < j + 1 → 0 ≤ (rd_T48 l (q : Int)).f0 ∧ (rd_T48 l (q : Int)).f0 ≤ 1000 := by
      intro q hq
      by_cases z : q = j
      · subst z; rw [ht0]; omega
      · exact ht q (by omega)
    refine Ev.step (fun k => by rw [taskmasterlaw18_CacheOne.j2, ht0]) ?_
    generalize (rd_T48 l (j : Int)).f1 = s at hr ⊢
    obtain ⟨s, rfl⟩ := Int.eq_ofNat_of_zero_le hr.1
    refine evn (by simp) (evp (by omega) (evp (by omega) ?_))
    refine evb (touch_f n hr.1 hr.2) ?_
    have hu : IntKind.u64.wrap (i : Int) = (i : Int) := wrapN (by omega)
    rw [hu, wi (i := j) (by omega)]
    refine evp (by omega) ?_
    have hsh := shr_one s i (by omega) hi
    have e1 : j + 1 + d = l.length := by omega
    have e2 : -1 ≤ t := by omega
    have e3 : t ≤ 1000 := by omega
    have hown := touch_own (t := t) (by omega) e3 n s i hi
    by_cases hb : s.testBit i = true
    · rw [hb] at hsh
      rw [if_pos hb] at hown
      refine evp (by simpa using hsh) ?_
      exact ih (j + 1) _ t e1 hown e2 e3 ht'
    · replace hb := Bool.eq_false_iff.mpr hb
      rw [hb] at hsh
      rw [hb, if_neg (by simp), ho] at hown
      refine evn (by simpa using hsh) ?_
      exact ih (j + 1) _ last e1 hown h0 h1 ht'
theorem CacheOne (l0 : (List S48)) (a1 : Int) (w0 : ∀ y ∈ l0, wf48 y) (w1 : (Lit.int .i64 a1).wf = true) : ∃ k : Nat, taskmasterlaw18_CacheOne.f k l0 a1 = some true := by
  refine Ev.rounds ?_
  unfold taskmasterlaw18_CacheOne.f
  by_cases c0 : (l0.length : Int) > 100
  · exact evp c0 (Ev.step (fun k => by rw [taskmasterlaw18_CacheOne.j0]) (evp rfl (Ev.now true)))
  refine evn c0 ?_
  by_cases c1 : a1 < 0
  · exact evp c1 (Ev.step (fun k => by rw [taskmasterlaw18_CacheOne.j0]) (evp rfl (Ev.now true)))
  refine evn c1 ?_
  by_cases c2 : a1 > 63
  · rw [decide_eq_true c2]
    exact Ev.step (fun k => by rw [taskmasterlaw18_CacheOne.j0]) (evp rfl (Ev.now true))
  rw [decide_eq_false c2]
  refine Ev.step (fun k => by rw [taskmasterlaw18_CacheOne.j0]) ?_
  refine evn (by simp) (evb (show cache_New.f = some 0 from rfl) ?_)
  obtain ⟨i, rfl⟩ := Int.eq_ofNat_of_zero_le (show 0 ≤ a1 by omega)
  refine one_loop l0 i (by omega) (by omega) (fun j hj => ?_) l0.length 0 0 (-1) (by omega) (own_zero i) (by omega) (by omega) (fun q hq => absurd hq (by omega))
  have hm : rd_T48 l0 (j : Int) ∈ l0 := by
    unfold rd_T48
    rw [Int.toNat_natCast, List.getD_eq_getElem?_getD, List.getElem?_eq_getElem hj]
    exact List.getElem_mem hj
  exact u64_in (w0 _ hm).2
/-! ### Back -/
theorem andNot_bits {a m : Nat} (ha : a < 18446744073709551616) (hm : m < 18446744073709551616) : ∃ r : Nat, Go.bits .andNot .u64 (a : Int) (m : Int) = (r : Int) ∧ r < 18446744073709551616 ∧ ∀ j, j < 64 → r.testBit j = (a.testBit j && !m.testBit j) := by
  refine ⟨_, andNotN a m ha hm, and_lt ha, fun j hj => ?_⟩
  have e : 18446744073709551615 - m = 2 ^ 64 - (m + 1) := by
    have : (2 : Nat) ^ 64 = 18446744073709551616 := by decide
    omega
  rw [Nat.testBit_and, e, Nat.testBit_two_pow_sub_succ (show m < 2 ^ 64 from hm), decide_eq_true hj, Bool.true_and]
theorem CacheBack (a0 : Int) (a1 : Int) (w0 : (Lit.int .u64 a0).wf = true) (w1 : (Lit.int .u64 a1).wf = true) : ∃ k : Nat, taskmasterlaw18_CacheBack.f k a0 a1 = some true := by
  refine Ev.rounds ?_
  have h0 := u64_in w0
  have h1 := u64_in w1
  clear w0 w1
  obtain ⟨a, rfl⟩ := Int.eq_ofNat_of_zero_le h0.1
  obtain ⟨b, rfl⟩ := Int.eq_ofNat_of_zero_le h1.1
  have ha : a < 18446744073709551616 := by omega
  have hb : b < 18446744073709551616 := by omega
  unfold taskmasterlaw18_CacheBack.f
  refine evb (show cache_New.f = some 0 from rfl) ?_
  refine evb (touch_f 0 h0.1 h0.2) (evp rfl ?_)
  refine evb (touch_f _ h1.1 h1.2) ?_
  generalize hn : touchT (touchT 0 0 (a : Int)) 1 (b : Int) = n
  have hown : ∀ j, j < 64 → own n j = if b.testBit j = true then 2 else if a.testBit j = true then 1 else 0 := fun j hj => by
    rw [← hn, touch_own (by omega) (by omega) _ b j hj, touch_own (by omega) (by omega) _ a j hj, own_zero]
    rfl
  obtain ⟨m, hm, hm64, hmb⟩ := heldN (t := 0) (by omega) (by omega) n
  obtain ⟨m1, hm1, hm164, hm1b⟩ := heldN (t := 1) (by omega) (by omega) n
  obtain ⟨r, hr, hr64, hrb⟩ := andNot_bits ha hm64
  have eb : m1 = b := bits_ext hm164 hb (fun j hj => by
    rw [hm1b j hj, hown j hj]
    by_cases q : b.testBit j = true
    · rw [if_pos q, q]; rfl
    · rw [if_neg q, Bool.eq_false_iff.mpr q]
      by_cases z : a.testBit j = true
      · rw [if_pos z]; rfl
      · rw [if_neg z]; rfl)
  have er : r = a &&& b := bits_ext hr64 (and_lt ha) (fun j hj => by
    rw [hrb j hj, hmb j hj, hown j hj, Nat.testBit_and]
    by_cases q : b.testBit j = true
    · rw [if_pos q, q]; simp
    · rw [if_neg q, Bool.eq_false_iff.mpr q]
      by_cases z : a.testBit j = true
      · rw [if_pos z, z]; rfl
      · rw [if_neg z, Bool.eq_false_iff.mpr z]; rfl)
  refine Ev.step (fun k => by rw [taskmasterlaw18_CacheBack.j0]) (evn (by simp) ?_)
  refine evb (show cache_Cache_Lost.f n 0 (a : Int) = some ((r : Int), n) by unfold cache_Cache_Lost.f; rw [hm, hr]) ?_
  refine evp (by rw [andN a b ha hb, er]) ?_
  refine evb (show cache_Cache_Held.f n 1 = some ((m1 : Int), n) by unfold cache_Cache_Held.f; rw [hm1]) ?_
  refine evp (by rw [eb]) ?_
  refine evb (touch_f n (Int.natCast_nonneg r) (by omega)) ?_
  generalize hn2 : touchT n 0 (r : Int) = n2
  have hown2 : ∀ j, j < 64 → own n2 j = if a.testBit j = true then 1 else if b.testBit j = true then 2 else 0 := fun j hj => by
    rw [← hn2, touch_own (by omega) (by omega) _ r j hj, hown j hj, er, Nat.testBit_and]
    by_cases q : b.testBit j = true
    · by_cases z : a.testBit j = true
      · rw [q, z]; rfl
      · rw [q, Bool.eq_false_iff.mpr z]; rfl
    · by_cases z : a.testBit j = true
      · rw [Bool.eq_false_iff.mpr q, z]; rfl
      · rw [Bool.eq_false_iff.mpr q, Bool.eq_false_iff.mpr z]; rfl
  obtain ⟨p, hp, hp64, hpb⟩ := heldN (t := 0) (by omega) (by omega) n2
  obtain ⟨p1, hp1, hp164, hp1b⟩ := heldN (t := 1) (by omega) (by omega) n2
  obtain ⟨u, hu, hu64, hub⟩ := andNot_bits hb ha
  obtain ⟨v, hv, hv64, hvb⟩ := andNot_bits ha hp64
  have ep : p = a := bits_ext hp64 ha (fun j hj => by
    rw [hpb j hj, hown2 j hj]
    by_cases z : a.testBit j = true
    · rw [if_pos z, z]; rfl
    · rw [if_neg z, Bool.eq_false_iff.mpr z]
      by_cases q : b.testBit j = true
      · rw [if_pos q]; rfl
      · rw [if_neg q]; rfl)
  have ep1 : p1 = u := bits_ext hp164 hu64 (fun j hj => by
    rw [hp1b j hj, hown2 j hj, hub j hj]
    by_cases z : a.testBit j = true
    · rw [if_pos z, z]; simp
    · rw [if_neg z, Bool.eq_false_iff.mpr z]
      by_cases q : b.testBit j = true
      · rw [if_pos q, q]; rfl
      · rw [if_neg q, Bool.eq_false_iff.mpr q]; rfl)
  have ev0 : v = 0 := bits_ext hv64 (by decide) (fun j hj => by
    rw [hvb j hj, ep, Nat.zero_testBit]; simp)
  refine Ev.step (fun k => by rw [taskmasterlaw18_CacheBack.j1]) (evn (by simp) ?_)
  refine evb (show cache_Cache_Held.f n2 0 = some ((p : Int), n2) by unfold cache_Cache_Held.f; rw [hp]) ?_
  refine evp (by rw [ep]) ?_
  refine evb (show cache_Cache_Held.f n2 1 = some ((p1 : Int), n2) by unfold cache_Cache_Held.f; rw [hp1]) ?_
  refine evp (by rw [ep1, hu]) ?_
  refine evb (show cache_Cache_Lost.f n2 0 (a : Int) = some ((v : Int), n2) by unfold cache_Cache_Lost.f; rw [hp, hv]) ?_
  refine evp (by rw [ev0]; rfl) ?_
  exact evb known18 (Ev.now true)
end Go.Proofs.YtapncdhemhnphaaDoor.Pure

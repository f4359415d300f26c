/- What is proved: plain facts on 'all that comes in a time' (a base, and of each load C times the periods T begun) and on its least fixed point ups to 10^6; conditions as each theorem names them. No program in sight. -/
namespace Go.Proofs.Ytapncdhemhnphaa.FixMath

/-- How many periods of t begin in w ticks. -/
def ups (w t : Int) : Int := (w + t - 1) / t
/-- All that comes in w: loads are pairs (T, C). -/
def tot (base : Int) : List (Int × Int) → Int → Int
  | [], _ => base
  | x :: l, w => tot (base + x.2 * ups w x.1) l w
/-- May loads be? -/
def good (l : List (Int × Int)) : Prop := l.length ≤ 64 ∧ ∀ x ∈ l, 1 ≤ x.1 ∧ x.1 ≤ 1000000 ∧ 0 ≤ x.2 ∧ x.2 ≤ 1000000
instance (l : List (Int × Int)) : Decidable (good l) := by unfold good; exact inferInstance

theorem up_mono {w v t : Int} (ht : 1 ≤ t) (h : w ≤ v) : ups w t ≤ ups v t := Int.ediv_le_ediv (by omega) (by omega)
theorem up_nonneg {w t : Int} (ht : 1 ≤ t) (h : 0 ≤ w) : 0 ≤ ups w t := Int.ediv_nonneg (by omega) (by omega)
theorem up_pos {w t : Int} (ht : 1 ≤ t) (h : 1 ≤ w) : 1 ≤ ups w t := by
  unfold ups; rw [Int.le_ediv_iff_mul_le (by omega)]; omega
theorem up_le {w t : Int} (ht : 1 ≤ t) (h : 0 ≤ w) : ups w t ≤ w := by
  unfold ups
  have : (w + t - 1) / t < w + 1 := by
    rw [Int.ediv_lt_iff_lt_mul (by omega)]
    have : w * 1 ≤ w * t := Int.mul_le_mul_of_nonneg_left ht h
    rw [Int.add_mul]; omega
  omega
/-- Rounded ups, in the other spelling. -/
theorem up_ceil {w t : Int} (ht : 1 ≤ t) (h : 0 ≤ w) : ups w t = if w % t = 0 then w / t else w / t + 1 := by
  unfold ups
  have e := Int.emod_add_mul_ediv w t
  have h0 := Int.emod_nonneg w (show t ≠ 0 by omega)
  have h1 := Int.emod_lt_of_pos w (show 0 < t by omega)
  generalize w / t = q at *
  generalize w % t = r at *
  subst e
  split
  · rename_i hr; subst hr
    rw [show 0 + t * q + t - 1 = (t - 1) + t * q by omega, Int.add_mul_ediv_left _ _ (by omega), Int.ediv_eq_zero_of_lt (by omega) (by omega)]; omega
  · rw [show r + t * q + t - 1 = (r - 1) + t * (q + 1) by rw [Int.mul_add]; omega, Int.add_mul_ediv_left _ _ (by omega), Int.ediv_eq_zero_of_lt (by omega) (by omega)]; omega

theorem tot_mono_base (l : List (Int × Int)) : ∀ (a b w : Int), a ≤ b → tot a l w ≤ tot b l w := by
  induction l with
  | nil => intro a b w h; exact h
  | cons x l ih => intro a b w h; exact ih _ _ w (by omega)
theorem tot_shift (l : List (Int × Int)) : ∀ (a c w : Int), tot (a + c) l w = tot a l w + c := by
  induction l with
  | nil => intro a c w; rfl
  | cons x l ih => intro a c w; show tot (a + c + x.2 * ups w x.1) l w = _; rw [show a + c + x.2 * ups w x.1 = (a + x.2 * ups w x.1) + c by omega, ih]; rfl
theorem tot_cons (a : Int) (x : Int × Int) (l : List (Int × Int)) (w : Int) : tot a (x :: l) w = tot a l w + x.2 * ups w x.1 := tot_shift l a _ w
theorem tot_append (l m : List (Int × Int)) : ∀ (a w : Int), tot a (l ++ m) w = tot (tot a l w) m w := by
  induction l with
  | nil => intro a w; rfl
  | cons x l ih => intro a w; exact ih _ w
theorem tot_snoc (l : List (Int × Int)) (x : Int × Int) (a w : Int) : tot a (l ++ [x]) w = tot a l w + x.2 * ups w x.1 := by rw [tot_append]; rfl
theorem tot_mono {l : List (Int × Int)} (hl : ∀ x ∈ l, 1 ≤ x.1 ∧ 0 ≤ x.2) : ∀ (a : Int) {w v : Int}, w ≤ v → tot a l w ≤ tot a l v := by
  induction l with
  | nil => intro a w v h; exact Int.le_refl _
  | cons x l ih =>
    intro a w v h
    rw [tot_cons, tot_cons]
    have h1 := ih (fun y hy => hl y (List.mem_cons_of_mem _ hy)) a h
    have hx := hl x List.mem_cons_self
    have := Int.mul_le_mul_of_nonneg_left (up_mono hx.1 h) hx.2
    omega
theorem tot_ge {l : List (Int × Int)} (hl : ∀ x ∈ l, 1 ≤ x.1 ∧ 0 ≤ x.2) (a : Int) {w : Int} (h : 0 ≤ w) : a ≤ tot a l w := by
  induction l with
  | nil => exact Int.le_refl _
  | cons x l ih =>
    rw [tot_cons]
    have h1 := ih (fun y hy => hl y (List.mem_cons_of_mem _ hy))
    have hx := hl x List.mem_cons_self
    have := Int.mul_nonneg hx.2 (up_nonneg hx.1 h)
    omega
theorem tot_le {l : List (Int × Int)} (hl : ∀ x ∈ l, 1 ≤ x.1 ∧ x.1 ≤ 1000000 ∧ 0 ≤ x.2 ∧ x.2 ≤ 1000000) (a : Int) {w : Int} (h0 : 0 ≤ w) (h1 : w ≤ 1000000) : tot a l w ≤ a + 1000000000000 * l.length := by
  induction l with
  | nil => simp [tot]
  | cons x l ih =>
    rw [tot_cons]
    have h2 := ih (fun y hy => hl y (List.mem_cons_of_mem _ hy))
    have hx := hl x List.mem_cons_self
    have hu := up_le hx.1 h0
    have : x.2 * ups w x.1 ≤ 1000000 * 1000000 := Int.mul_le_mul hx.2.2.2 (by omega) (up_nonneg hx.1 h0) (by omega)
    simp only [List.length_cons, Int.natCast_add, Int.natCast_one]
    omega
theorem good_two {l : List (Int × Int)} (h : good l) : ∀ x ∈ l, 1 ≤ x.1 ∧ 0 ≤ x.2 := fun x hx => ⟨(h.2 x hx).1, (h.2 x hx).2.2.1⟩

/-- What 'the least time' answers: the least fixed point from 1 on, with more to come at every lesser time; or there is none. -/
def Least (S : Int → Int) (r : Int) (ok : Bool) : Prop :=
  (ok = true ∧ 1 ≤ r ∧ r ≤ 1000000 ∧ S r = r ∧ ∀ w, 1 ≤ w → w < r → w < S w) ∨
  (ok = false ∧ r = 0 ∧ (S 1 < 1 ∨ ∀ w, 1 ≤ w → w ≤ 1000000 → w < S w))
theorem Least.unique {S : Int → Int} {r s : Int} {p q : Bool} (h : Least S r p) (g : Least S s q) : r = s ∧ p = q := by
  rcases h with ⟨rfl, h1, h2, h3, h4⟩ | ⟨rfl, rfl, h⟩ <;> rcases g with ⟨rfl, g1, g2, g3, g4⟩ | ⟨rfl, rfl, g⟩
  · refine ⟨?_, rfl⟩
    by_cases a : r < s
    · have := g4 r h1 a; omega
    · by_cases b : s < r
      · have := h4 s g1 b; omega
      · omega
  · rcases g with g | g
    · exfalso
      by_cases a : r = 1
      · subst a; omega
      · have := h4 1 (by omega) (by omega); omega
    · have := g r h1 h2; omega
  · rcases h with h | h
    · exfalso
      by_cases a : s = 1
      · subst a; omega
      · have := g4 1 (by omega) (by omega); omega
    · have := h s g1 g2; omega
  · exact ⟨rfl, rfl⟩
/-- A time in which no more comes than it is long bounds the least one. -/
theorem Least.le {S : Int → Int} {r : Int} {ok : Bool} (h : Least S r ok) {w : Int} (h1 : 1 ≤ w) (h2 : w ≤ 1000000) (hS : S w ≤ w) (hne : 1 ≤ S 1) : ok = true ∧ r ≤ w := by
  rcases h with ⟨rfl, g1, g2, g3, g4⟩ | ⟨rfl, rfl, g⟩
  · refine ⟨rfl, ?_⟩
    by_cases a : w < r
    · have := g4 w h1 a; omega
    · omega
  · rcases g with g | g
    · omega
    · have := g w h1 h2; omega
/-- The search from below: from a time from which nothing less fits. -/
theorem step_up {S : Int → Int} (mono : ∀ w v, w ≤ v → S w ≤ S v) {w : Int} (hlow : ∀ v, 1 ≤ v → v < w → v < S v) :
    ∀ v, 1 ≤ v → v < S w → v < S v := by
  intro v h1 h2
  by_cases a : v < w
  · exact hlow v h1 a
  · have := mono w v (by omega); omega
/-- The search itself. -/
def leastGo (S : Int → Int) : Nat → Int → Int × Bool
  | 0, _ => (0, false)
  | n + 1, w => if S w = w then (w, true) else if S w < w ∨ 1000000 < S w then (0, false) else leastGo S n (S w)
theorem leastGo_least {S : Int → Int} (mono : ∀ w v, w ≤ v → S w ≤ S v) : ∀ (n : Nat) (w : Int), 1 ≤ w → w ≤ 1000000 → 1000000 - w < n → (∀ v, 1 ≤ v → v < w → v < S v) → (w = 1 ∨ w ≤ S w) →
    Least S (leastGo S n w).1 (leastGo S n w).2 := by
  intro n
  induction n with
  | zero => intro w h0 h1 h2; omega
  | succ n ih =>
    intro w h0 h1 h2 hlow hup
    unfold leastGo
    by_cases a : S w = w
    · rw [if_pos a]; exact Or.inl ⟨rfl, h0, h1, a, hlow⟩
    · rw [if_neg a]
      by_cases b : S w < w ∨ 1000000 < S w
      · rw [if_pos b]
        refine Or.inr ⟨rfl, rfl, ?_⟩
        rcases b with b | b
        · rcases hup with rfl | hup
          · exact Or.inl b
          · omega
        · refine Or.inr fun v g0 g1 => ?_
          by_cases c : v < w
          · exact hlow v g0 c
          · have := mono w v (by omega); omega
      · rw [if_neg b]
        refine ih (S w) (by omega) (by omega) (by omega) (step_up mono hlow) (Or.inr (mono _ _ (by omega)))
/-- Of a base and loads. -/
def leastR (a : Int) (l : List (Int × Int)) : Int × Bool := leastGo (tot a l) 1000001 1
theorem leastR_least {a : Int} {l : List (Int × Int)} (hl : good l) : Least (tot a l) (leastR a l).1 (leastR a l).2 :=
  leastGo_least (fun _ _ h => tot_mono (good_two hl) a h) 1000001 1 (by omega) (by omega) (by omega) (fun v h0 h1 => by omega) (Or.inl rfl)
end Go.Proofs.Ytapncdhemhnphaa.FixMath

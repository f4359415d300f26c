/- What is proved: contracts of the methods of chapter 23's reference, whose state is 64 Booleans in one block: the bits of a number. -/
import Derived.Test.YtapncdhemhnphaaDoorQRpxf9
namespace Go.Proofs.YtapncdhemhnphaaDoor.QRp
open Go.RowKit Go.Proofs.YtapncdhemhnphaaDoorW.PrintWords Go.Proofs.YtapncdhemhnphaaDoorW.PrintLast Go.Proofs.YtapncdhemhnphaaDoorW.PrintMore
set_option linter.unusedVariables false
set_option linter.unusedSimpArgs false
/-- The cells of a state: the 64 bits of a number. -/
def bcells (n : Int) : Array Value := ((List.range 64).map fun i => Value.bool (n.toNat.testBit i)).toArray
theorem bcells_get (n : Int) (j : Nat) (h : j < 64) : (bcells n)[j]? = some (.bool (n.toNat.testBit j)) := by
  simp [bcells, h]
theorem bcells_size (n : Int) : (bcells n).size = 64 := by simp [bcells]
theorem bcells_set (n m : Int) (j : Nat) (h : j < 64) (b : Bool) (hm : ∀ i, m.toNat.testBit i = if i = j then b else n.toNat.testBit i) : (bcells n).setIfInBounds j (.bool b) = bcells m := by
  refine Array.ext (by simp [bcells]) (fun i h1 h2 => ?_)
  rw [bcells_size] at h2
  rw [Array.getElem_setIfInBounds (by simpa [bcells] using h2)]
  simp only [bcells, List.getElem_toArray, List.getElem_map, List.getElem_range, hm]
  by_cases e : j = i
  · subst e; simp
  · rw [if_neg e, if_neg (fun q => e q.symm)]
def IsS32 (w0 W : World) (g : Nat) (f0 : Int) : Prop := W.heap[g]? = some (.cells (bcells f0) 32 (0, 0)) ∧ w0.heap.size ≤ g
theorem IsS32.grown {w0 W : World} {g : Nat} {f0 : Int} {W1 : World} {row : Option Nat} (h : IsS32 w0 W g f0) (hw : W.grownBy W1 row) (hne : some g ≠ row) : IsS32 w0 W1 g f0 := by
  obtain ⟨hb, hg⟩ := h
  exact ⟨blk_grown hb hw hne, hg⟩
theorem IsS32.own_neN {w0 W : World} {g : Nat} {f0 : Int} {α : Type} {d : Kd α} {e : Nat} {base : Nat} {ok : Nat → Prop} {v : Value} {xs : List α} (h : IsS32 w0 W g f0) (ho : Kd.N d e W base ok v xs) (ht : e ≠ 32) : some g ≠ v.ownBlock := by
  obtain ⟨hb, hg⟩ := h
  exact Kd.N_ne ho hb ht
theorem IsS32.fresh {w0 W : World} {g : Nat} {f0 : Int} (h : IsS32 w0 W g f0) : ∀ k, W.heap.size ≤ k → k ≠ g := by
  obtain ⟨hb, hg⟩ := h
  exact Kd.freshB hb
theorem IsS32.kept {w0 W : World} {g : Nat} {f0 : Int} {W1 : World} {S : Nat → Prop} (h : IsS32 w0 W g f0) (hk : Kept W W1 S) (hne : ¬ S g) : IsS32 w0 W1 g f0 := by
  obtain ⟨hb, hg⟩ := h
  exact ⟨blk_kept hb hk hne, hg⟩
theorem IsS32.below {w0 W : World} {g : Nat} {f0 : Int} {W1 : World} (h : IsS32 w0 W g f0) (hw : Below W.heap.size W W1) : IsS32 w0 W1 g f0 := h.grown (grown_of_below hw none) (by simp)
theorem IsS32.alloc {w0 W : World} {g : Nat} {f0 : Int} (h : IsS32 w0 W g f0) (o : Obj) : IsS32 w0 (W.alloc o) g f0 := h.below (below_alloc (Below.refl _ _) o)
theorem IsS32.drewN {w0 W : World} {g : Nat} {f0 : Int} (h : IsS32 w0 W g f0) (m : Nat) : IsS32 w0 (W.drewN m) g f0 := h
theorem IsS32.drew {w0 W : World} {g : Nat} {f0 : Int} (h : IsS32 w0 W g f0) : IsS32 w0 W.drew g f0 := h
theorem IsS32.at_ {w0 W : World} {g : Nat} {f0 : Int} {w' : World} {m : Nat} (hq : W.drewN m = w') (h : IsS32 w0 W g f0) : IsS32 w0 w' g f0 := by subst hq; exact IsS32.drewN h m
theorem IsS32.apart {w0 W : World} {g : Nat} {f0 : Int} {α : Type} {d : Kd α} {e : Nat} {base : Nat} {ok : Nat → Prop} {v : Value} {xs : List α} (h : IsS32 w0 W g f0) (ho : d.R e W base ok v xs) (ht : ∀ q, q ∈ e :: d.E → q ≠ 32) : d.R e W base (fun k => ok k ∧ k ≠ g) v xs := by
  obtain ⟨hb, hg⟩ := h
  exact Kd.R_types ho hb ht
theorem IsS32.own_ne {w0 W : World} {g : Nat} {f0 : Int} {α : Type} {d : Kd α} {e : Nat} {base : Nat} {ok : Nat → Prop} {v : Value} {xs : List α} (h : IsS32 w0 W g f0) (ho : d.R e W base ok v xs) (ht : e ≠ 32) : some g ≠ v.ownBlock := by
  obtain ⟨hb, hg⟩ := h
  exact Kd.R_ne ho hb ht
theorem IsS32.apartQ {w0 W : World} {g : Nat} {f0 : Int} {α : Type} {d : Kd α} {e : Nat} {base : Nat} {ok : Nat → Prop} {v : Value} {xs : List α} (h : IsS32 w0 W g f0) (ho : d.Q e W base ok v xs) (ht : ∀ q, q ∈ e :: d.E → q ≠ 32) : d.Q e W base (fun k => ok k ∧ k ≠ g) v xs := by
  obtain ⟨hb, hg⟩ := h
  exact Kd.Q_types ho hb ht
theorem IsS32.own_neQ {w0 W : World} {g : Nat} {f0 : Int} {α : Type} {d : Kd α} {e : Nat} {base : Nat} {ok : Nat → Prop} {v : Value} {xs : List α} (h : IsS32 w0 W g f0) (ho : d.Q e W base ok v xs) (ht : e ≠ 32) : some g ≠ v.ownBlock := by
  obtain ⟨hb, hg⟩ := h
  exact Kd.Q_ne ho hb ht
theorem IsS32.apartS {w0 W : World} {g : Nat} {f0 : Int} {α : Type} {d : Kd α} {e : Nat} {base : Nat} {ok : Nat → Prop} {v : Value} {xs : List α} (h : IsS32 w0 W g f0) (ho : d.S e W base ok v xs) (ht : ∀ q, q ∈ e :: d.E → q ≠ 32) : d.S e W base (fun k => ok k ∧ k ≠ g) v xs := by
  obtain ⟨hb, hg⟩ := h
  exact Kd.S_types ho hb ht
theorem IsS32.own_neS {w0 W : World} {g : Nat} {f0 : Int} {α : Type} {d : Kd α} {e : Nat} {base : Nat} {ok : Nat → Prop} {v : Value} {xs : List α} (h : IsS32 w0 W g f0) (ho : d.S e W base ok v xs) (ht : e ≠ 32) : some g ≠ v.ownBlock := by
  obtain ⟨hb, hg⟩ := h
  exact Kd.S_ne ho hb ht
theorem IsS32.lt {w0 W : World} {g : Nat} {f0 : Int} (h : IsS32 w0 W g f0) : g < W.heap.size := by
  obtain ⟨hb, hg⟩ := h
  exact blk_lt hb
theorem IsS32.ge {w0 W : World} {g : Nat} {f0 : Int} (h : IsS32 w0 W g f0) : w0.heap.size ≤ g := by
  obtain ⟨hb, hg⟩ := h
  exact hg
theorem IsS32.ne_blk {w0 W : World} {g : Nat} {f0 : Int} {a : Nat} {cs : Array Value} {t : TypeId} {fr : Nat × Nat} (h : IsS32 w0 W g f0) (hb2 : W.heap[a]? = some (.cells cs t fr)) (ht : t ≠ 32) : g ≠ a := by
  obtain ⟨hb, hg⟩ := h
  rintro rfl
  rw [hb] at hb2
  injection hb2 with hb2
  injection hb2 with _ ht2
  exact ht ht2.symm
theorem IsS32.far {w0 W : World} {g : Nat} {f0 : Int} {p : Addr} (h : IsS32 w0 W g f0) (hne : g ≠ p.block) (u : Value) : IsS32 w0 (W.setCell p u) g f0 := by
  obtain ⟨hb, hg⟩ := h
  exact ⟨blk_far hb hne u, hg⟩

theorem cellA32 {w0 W : World} {g : Nat} {n : Int} (h : IsS32 w0 W g n) (j : Nat) (hj : j < 64) : W.cell? ⟨g, j, none⟩ = some (.bool (n.toNat.testBit j)) := (blk_cell h.1 j).trans (bcells_get n j hj)
theorem IsS32.setA {w0 W : World} {g : Nat} {n m : Int} (h : IsS32 w0 W g n) (j : Nat) (hj : j < 64) (b : Bool) (hm : ∀ i, m.toNat.testBit i = if i = j then b else n.toNat.testBit i) : IsS32 w0 (W.setCell ⟨g, j, none⟩ (.bool b)) g m := by
  obtain ⟨hb, hg⟩ := h
  refine ⟨?_, hg⟩
  have := blk_set hb j (.bool b)
  rw [bcells_set n m j hj b hm] at this
  simpa using this
theorem IsS32.set_0 {w0 W : World} {g : Nat} {f0 : Int} (h : IsS32 w0 W g f0) : IsS32 w0 W g f0 := h
def inA (n : Int) (i : Int) : Bool := decide (0 ≤ i ∧ i < 64) && n.toNat.testBit i.toNat
def newA (n : Int) (i : Int) : Bool := decide (0 ≤ i ∧ i < 64) && !n.toNat.testBit i.toNat
def addA (n : Int) (i : Int) : Int := if newA n i = true then ((n.toNat ||| 2 ^ i.toNat : Nat) : Int) else n
def dropA (n : Int) (i : Int) : Int := if inA n i = true then ((n.toNat ^^^ 2 ^ i.toNat : Nat) : Int) else n
def fstA (n : Nat) : Nat → Nat → Int × Bool
  | 0, _ => (0, false)
  | d + 1, i => if n.testBit i = true then ((i : Int), true) else fstA n d (i + 1)
def taskmasterref23_Ready_Has.f (s0_0 : Int) (a1 : Int) : Option (Bool × Int) := some (inA s0_0 a1, s0_0)
def taskmasterref23_Ready_Put.f (s0_0 : Int) (a1 : Int) : Option (Bool × Int) := some (newA s0_0 a1, addA s0_0 a1)
def taskmasterref23_Ready_Drop.f (s0_0 : Int) (a1 : Int) : Option (Bool × Int) := some (inA s0_0 a1, dropA s0_0 a1)
def taskmasterref23_Ready_First.f (s0_0 : Int) : Option (Int × Bool × Int) := some ((fstA s0_0.toNat 64 0).1, (fstA s0_0.toNat 64 0).2, s0_0)
def taskmasterref23_Ready_Ahead.f (s0_0 : Int) (a1 : Int) : Option (Bool × Int) := some ((fstA s0_0.toNat 64 0).2 && decide ((fstA s0_0.toNat 64 0).1 < a1), s0_0)
theorem drawn_state {w0 w w' : World} {g : Nat} {n : Int} (hI : IsS32 w0 w g n) (hB : Below w0.heap.size w0 w) (h : Drawn0 w w') : IsS32 w0 w' g n ∧ Below w0.heap.size w0 w' ∧ KeepBut w w' g none := by
  obtain ⟨m, rfl⟩ := h
  exact ⟨hI.drewN m, pw_below_drewN hB m, keep_drewN (KeepBut.refl w g none) m⟩
set_option maxHeartbeats 8000000 in
theorem refHas (g : Nat) (n : Int) (i : Int) (w0 w : World) (hI : IsS32 w0 w g n) :
    Calls Tryd.prog 17 #[.pointer (some ⟨g, 0, none⟩), .int .i64 i] w fun e w' => e = .returned (.bool (inA n i)) ∧ Drawn0 w w' := by
  unfold inA
  by_cases h0 : 0 ≤ i
  · obtain ⟨j, rfl⟩ := Int.eq_ofNat_of_zero_le h0
    have h1 : decide (0 ≤ (j : Int)) = true := decide_eq_true (by omega)
    by_cases hj : j < 64
    · have hc := cellA32 hI j hj
      have h2 : decide ((j : Int) < 64) = true := decide_eq_true (by omega)
      rw [decide_eq_true (show 0 ≤ (j : Int) ∧ (j : Int) < 64 by omega), Bool.true_and, Int.toNat_natCast]
      go_enter Tryd.func17, Tryd.ntmps17
      go_wp2
      go_ret
      exact ⟨by first | rfl | (simp; done) | (simp [*]; done), by repeat (first | exact Drawn0.refl _ | apply Drawn0.step)⟩
    · have h2 : decide ((j : Int) < 64) = false := decide_eq_false (by omega)
      rw [decide_eq_false (show ¬ (0 ≤ (j : Int) ∧ (j : Int) < 64) by omega), Bool.false_and]
      go_enter Tryd.func17, Tryd.ntmps17
      go_wp2
      go_ret
      exact ⟨by first | rfl | (simp; done) | (simp [*]; done), by repeat (first | exact Drawn0.refl _ | apply Drawn0.step)⟩
  · have h1 : decide (0 ≤ i) = false := decide_eq_false h0
    rw [decide_eq_false (show ¬ (0 ≤ i ∧ i < 64) by omega), Bool.false_and]
    go_enter Tryd.func17, Tryd.ntmps17
    go_wp2
    go_ret
    exact ⟨by first | rfl | (simp; done) | (simp [*]; done), by repeat (first | exact Drawn0.refl _ | apply Drawn0.step)⟩
theorem taskmasterref23_Ready_Has.calls (g : Nat) (s0_0 : Int) (a1 : Int) (r1 : Bool) (r2 : Int) (w0 w : World) (hI : IsS32 w0 w g s0_0) (hB : Below w0.heap.size w0 w) (h : taskmasterref23_Ready_Has.f s0_0 a1 = some (r1, r2)) :
    Calls Tryd.prog 17 #[.pointer (some ⟨g, 0, none⟩), .int .i64 a1] w fun e w' => e = .returned (.bool r1) ∧ IsS32 w0 w' g r2 ∧ Below w0.heap.size w0 w' ∧ KeepBut w w' g none := by
  simp only [taskmasterref23_Ready_Has.f, Option.some.injEq, Prod.mk.injEq] at h
  obtain ⟨rfl, rfl⟩ := h
  exact (refHas g s0_0 a1 w0 w hI).mono (fun e w' ⟨he, hd⟩ => ⟨he, drawn_state hI hB hd⟩)
theorem or_bit (a j i : Nat) : (a ||| 2 ^ j).testBit i = if i = j then true else a.testBit i := by
  rw [Nat.testBit_or, Nat.testBit_two_pow]
  by_cases e : i = j
  · subst e; simp
  · rw [if_neg e, decide_eq_false (fun q => e q.symm), Bool.or_false]
theorem xor_bit {a j : Nat} (h : a.testBit j = true) (i : Nat) : (a ^^^ 2 ^ j).testBit i = if i = j then false else a.testBit i := by
  rw [Nat.testBit_xor, Nat.testBit_two_pow]
  by_cases e : i = j
  · subst e; simp [h]
  · rw [if_neg e, decide_eq_false (fun q => e q.symm), Bool.xor_false]
set_option maxHeartbeats 8000000 in
theorem taskmasterref23_Ready_Put.calls (g : Nat) (s0_0 : Int) (a1 : Int) (r1 : Bool) (r2 : Int) (w0 w : World) (hI : IsS32 w0 w g s0_0) (hB : Below w0.heap.size w0 w) (h : taskmasterref23_Ready_Put.f s0_0 a1 = some (r1, r2)) :
    Calls Tryd.prog 13 #[.pointer (some ⟨g, 0, none⟩), .int .i64 a1] w fun e w' => e = .returned (.bool r1) ∧ IsS32 w0 w' g r2 ∧ Below w0.heap.size w0 w' ∧ KeepBut w w' g none := by
  simp only [taskmasterref23_Ready_Put.f, Option.some.injEq, Prod.mk.injEq] at h
  obtain ⟨rfl, rfl⟩ := h
  unfold addA newA
  by_cases h0 : 0 ≤ a1
  · obtain ⟨j, rfl⟩ := Int.eq_ofNat_of_zero_le h0
    have h1 : decide ((j : Int) < 0) = false := decide_eq_false (by omega)
    by_cases hj : j < 64
    · have hc := cellA32 hI j hj
      have hf := blk_frozen hI.1 j
      have h2 : decide ((63 : Int) < (j : Int)) = false := decide_eq_false (by omega)
      rw [decide_eq_true (show 0 ≤ (j : Int) ∧ (j : Int) < 64 by omega), Bool.true_and, Int.toNat_natCast]
      by_cases hb : s0_0.toNat.testBit j = true
      · rw [hb] at hc ⊢
        refine Calls.mono (R := fun e w' => e = .returned (.bool false) ∧ Drawn0 w w') ?_ (fun e w' ⟨he, hd⟩ => ⟨he, drawn_state hI hB hd⟩)
        go_enter Tryd.func13, Tryd.ntmps13
        go_wp2
        go_ret
        exact ⟨by first | rfl | (simp; done) | (simp [*]; done), by repeat (first | exact Drawn0.refl _ | apply Drawn0.step)⟩
      · replace hb := Bool.eq_false_iff.mpr hb
        rw [hb] at hc ⊢
        have hn := IsS32.setA (m := ((s0_0.toNat ||| 2 ^ j : Nat) : Int)) hI j hj true (fun i => by rw [Int.toNat_natCast]; exact or_bit _ _ _)
        go_enter Tryd.func13, Tryd.ntmps13
        go_wp2
        go_ret
        exact ⟨by first | rfl | (simp; done) | (simp [*]; done), by repeat (first | exact hn | apply IsS32.drewN | apply IsS32.drew), by repeat (first | (with_reducible first | exact hB | apply pw_below_drewN | apply below_drew1 | refine below_set ?_ (IsS32.ge hI)) | exact hB), by repeat (first | (with_reducible first | exact KeepBut.refl _ _ _ | apply KeepBut.set_ | apply keep_drewN | apply keep_drew) | exact KeepBut.refl _ _ _)⟩
    · have h2 : decide ((63 : Int) < (j : Int)) = true := decide_eq_true (by omega)
      rw [decide_eq_false (show ¬ (0 ≤ (j : Int) ∧ (j : Int) < 64) by omega), Bool.false_and]
      refine Calls.mono (R := fun e w' => e = .returned (.bool false) ∧ Drawn0 w w') ?_ (fun e w' ⟨he, hd⟩ => ⟨he, drawn_state hI hB hd⟩)
      go_enter Tryd.func13, Tryd.ntmps13
      go_wp2
      go_ret
      exact ⟨by first | rfl | (simp; done) | (simp [*]; done), by repeat (first | exact Drawn0.refl _ | apply Drawn0.step)⟩
  · have h1 : decide (a1 < 0) = true := decide_eq_true (by omega)
    rw [decide_eq_false (show ¬ (0 ≤ a1 ∧ a1 < 64) by omega), Bool.false_and]
    refine Calls.mono (R := fun e w' => e = .returned (.bool false) ∧ Drawn0 w w') ?_ (fun e w' ⟨he, hd⟩ => ⟨he, drawn_state hI hB hd⟩)
    go_enter Tryd.func13, Tryd.ntmps13
    go_wp2
    go_ret
    exact ⟨by first | rfl | (simp; done) | (simp [*]; done), by repeat (first | exact Drawn0.refl _ | apply Drawn0.step)⟩
set_option maxHeartbeats 8000000 in
theorem taskmasterref23_Ready_Drop.calls (g : Nat) (s0_0 : Int) (a1 : Int) (r1 : Bool) (r2 : Int) (w0 w : World) (hI : IsS32 w0 w g s0_0) (hB : Below w0.heap.size w0 w) (h : taskmasterref23_Ready_Drop.f s0_0 a1 = some (r1, r2)) :
    Calls Tryd.prog 15 #[.pointer (some ⟨g, 0, none⟩), .int .i64 a1] w fun e w' => e = .returned (.bool r1) ∧ IsS32 w0 w' g r2 ∧ Below w0.heap.size w0 w' ∧ KeepBut w w' g none := by
  simp only [taskmasterref23_Ready_Drop.f, Option.some.injEq, Prod.mk.injEq] at h
  obtain ⟨rfl, rfl⟩ := h
  have hH := fun W hI' => refHas g s0_0 a1 w0 W hI'
  unfold dropA
  by_cases hin : inA s0_0 a1 = true
  · rw [hin, if_pos rfl]
    rw [hin] at hH
    unfold inA at hin
    rw [Bool.and_eq_true] at hin
    obtain ⟨hd, hb⟩ := hin
    replace hd := of_decide_eq_true hd
    obtain ⟨j, rfl⟩ := Int.eq_ofNat_of_zero_le hd.1
    rw [Int.toNat_natCast] at hb ⊢
    have hj : j < 64 := by omega
    have hf := blk_frozen hI.1 j
    have h0 : decide (0 ≤ (j : Int)) = true := decide_eq_true (by omega)
    have h1 : decide ((j : Int) < 64) = true := decide_eq_true (by omega)
    have hn := IsS32.setA (m := ((s0_0.toNat ^^^ 2 ^ j : Nat) : Int)) hI j hj false (fun i => by rw [Int.toNat_natCast]; exact xor_bit hb _)
    have hc := cellA32 hI j hj
    go_enter Tryd.func15, Tryd.ntmps15
    go_wp2_with (go_at_call 17; (refine (hH _ (by repeat (first | exact hI | apply IsS32.drewN | apply IsS32.drew))).mono ?_); rintro e w1 ⟨rfl, nd, rfl⟩)
    go_ret
    exact ⟨by first | rfl | (simp; done) | (simp [*]; done), by repeat (first | exact hn | apply IsS32.drewN | apply IsS32.drew), by repeat (first | (with_reducible first | exact hB | apply pw_below_drewN | apply below_drew1 | refine below_set ?_ (IsS32.ge hI)) | exact hB), by repeat (first | (with_reducible first | exact KeepBut.refl _ _ _ | apply KeepBut.set_ | apply keep_drewN | apply keep_drew) | exact KeepBut.refl _ _ _)⟩
  · replace hin := Bool.eq_false_iff.mpr hin
    rw [hin, if_neg (by simp)]
    rw [hin] at hH
    refine Calls.mono (R := fun e w' => e = .returned (.bool false) ∧ Drawn0 w w') ?_ (fun e w' ⟨he, hd⟩ => ⟨he, drawn_state hI hB hd⟩)
    go_enter Tryd.func15, Tryd.ntmps15
    go_wp2_with (go_at_call 17; (refine (hH _ (by repeat (first | exact hI | apply IsS32.drewN | apply IsS32.drew))).mono ?_); rintro e w1 ⟨rfl, nd, rfl⟩)
    go_ret
    exact ⟨by first | rfl | (simp; done) | (simp [*]; done), by repeat (first | exact Drawn0.refl _ | apply Drawn0.step)⟩
set_option maxHeartbeats 8000000 in
theorem refFirst (g : Nat) (n : Int) (w0 w : World) (hI : IsS32 w0 w g n) :
    Calls Tryd.prog 19 #[.pointer (some ⟨g, 0, none⟩)] w fun e w' => e = .returned (.tuple #[.int .i64 (fstA n.toNat 64 0).1, .bool (fstA n.toNat 64 0).2]) ∧ Drawn0 w w' := by
  generalize hr : fstA n.toNat 64 0 = r
  obtain ⟨r1, r2⟩ := r
  go_enter Tryd.func19, Tryd.ntmps19
  go_wp2
  go_loopg [4] 65 (fun kq v4 w' => ∃ d i : Nat, kq = d + 1 ∧ d + i = 64 ∧ v4 = .int .i64 (i : Int) ∧ fstA n.toNat d i = (r1, r2) ∧ Drawn0 w w')
  case atStart => exact ⟨64, 0, rfl, rfl, rfl, hr, by repeat (first | exact Drawn0.refl _ | apply Drawn0.step)⟩
  case round =>
    obtain ⟨d, i, rfl, hdi, rfl, hf, ⟨m1, rfl⟩⟩ := hrel
    cases d with
    | zero =>
      have h1 : decide ((i : Int) < 64) = false := decide_eq_false (by omega)
      unfold fstA at hf
      injection hf with e1 e2
      subst e1; subst e2
      go_wp2
      first | go_ret2 | go_ret
      exact ⟨by first | rfl | (simp; done) | (simp [*]; done), by repeat (first | exact Drawn0.refl _ | apply Drawn0.step)⟩
    | succ d =>
      have h1 : decide ((i : Int) < 64) = true := decide_eq_true (by omega)
      have h0 : decide (0 ≤ (i : Int)) = true := decide_eq_true (by omega)
      have hc := cellA32 hI i (by omega)
      unfold fstA at hf
      by_cases hb : n.toNat.testBit i = true
      · rw [if_pos hb] at hf
        rw [hb] at hc
        injection hf with e1 e2
        subst e1; subst e2
        go_wp2
        first | go_ret2 | go_ret
        exact ⟨by first | rfl | (simp; done) | (simp [*]; done), by repeat (first | exact Drawn0.refl _ | apply Drawn0.step)⟩
      · rw [if_neg hb] at hf
        replace hb := Bool.eq_false_iff.mpr hb
        rw [hb] at hc
        have hw : wrap64 ((i : Int) + 1) = ((i + 1 : Nat) : Int) := by unfold wrap64; omega
        go_wp2
        go_roundg (d + 1)
        case measure => omega
        case rel => exact ⟨d, i + 1, rfl, by omega, by first | rfl | (rw [hw]; done) | (simp [hw]; done) | (simp [*]; done), hf, by repeat (first | exact Drawn0.refl _ | apply Drawn0.step)⟩
theorem taskmasterref23_Ready_First.calls (g : Nat) (s0_0 : Int) (r1 : Int) (r2 : Bool) (r3 : Int) (w0 w : World) (hI : IsS32 w0 w g s0_0) (hB : Below w0.heap.size w0 w) (h : taskmasterref23_Ready_First.f s0_0 = some (r1, r2, r3)) :
    Calls Tryd.prog 19 #[.pointer (some ⟨g, 0, none⟩)] w fun e w' => e = .returned (.tuple #[.int .i64 r1, .bool r2]) ∧ IsS32 w0 w' g r3 ∧ Below w0.heap.size w0 w' ∧ KeepBut w w' g none := by
  simp only [taskmasterref23_Ready_First.f, Option.some.injEq, Prod.mk.injEq] at h
  obtain ⟨rfl, rfl, rfl⟩ := h
  exact (refFirst g s0_0 w0 w hI).mono (fun e w' ⟨he, hd⟩ => ⟨he, drawn_state hI hB hd⟩)
set_option maxHeartbeats 8000000 in
theorem taskmasterref23_Ready_Ahead.calls (g : Nat) (s0_0 : Int) (a1 : Int) (r1 : Bool) (r2 : Int) (w0 w : World) (hI : IsS32 w0 w g s0_0) (hB : Below w0.heap.size w0 w) (h : taskmasterref23_Ready_Ahead.f s0_0 a1 = some (r1, r2)) :
    Calls Tryd.prog 20 #[.pointer (some ⟨g, 0, none⟩), .int .i64 a1] w fun e w' => e = .returned (.bool r1) ∧ IsS32 w0 w' g r2 ∧ Below w0.heap.size w0 w' ∧ KeepBut w w' g none := by
  simp only [taskmasterref23_Ready_Ahead.f, Option.some.injEq, Prod.mk.injEq] at h
  obtain ⟨rfl, rfl⟩ := h
  have hH := fun W hI' => refFirst g s0_0 w0 W hI'
  generalize fstA s0_0.toNat 64 0 = r at hH ⊢
  obtain ⟨r1, r2⟩ := r
  refine Calls.mono (R := fun e w' => e = .returned (.bool (r2 && decide (r1 < a1))) ∧ Drawn0 w w') ?_ (fun e w' ⟨he, hd⟩ => ⟨he, drawn_state hI hB hd⟩)
  cases r2 with
  | true =>
    go_enter Tryd.func20, Tryd.ntmps20
    go_wp2_with (go_at_call 19; (refine (hH _ (by repeat (first | exact hI | apply IsS32.drewN | apply IsS32.drew))).mono ?_); rintro e w1 ⟨rfl, nd, rfl⟩)
    go_ret
    exact ⟨by first | rfl | (simp; done) | (simp [*]; done), by repeat (first | exact Drawn0.refl _ | apply Drawn0.step)⟩
  | false =>
    go_enter Tryd.func20, Tryd.ntmps20
    go_wp2_with (go_at_call 19; (refine (hH _ (by repeat (first | exact hI | apply IsS32.drewN | apply IsS32.drew))).mono ?_); rintro e w1 ⟨rfl, nd, rfl⟩)
    go_ret
    exact ⟨by first | rfl | (simp; done) | (simp [*]; done), by repeat (first | exact Drawn0.refl _ | apply Drawn0.step)⟩
def newA.f : Option Int := some 0
theorem bcells_zero : (#[.bool false, .bool false, .bool false, .bool false, .bool false, .bool false, .bool false, .bool false, .bool false, .bool false, .bool false, .bool false, .bool false, .bool false, .bool false, .bool false, .bool false, .bool false, .bool false, .bool false, .bool false, .bool false, .bool false, .bool false, .bool false, .bool false, .bool false, .bool false, .bool false, .bool false, .bool false, .bool false, .bool false, .bool false, .bool false, .bool false, .bool false, .bool false, .bool false, .bool false, .bool false, .bool false, .bool false, .bool false, .bool false, .bool false, .bool false, .bool false, .bool false, .bool false, .bool false, .bool false, .bool false, .bool false, .bool false, .bool false, .bool false, .bool false, .bool false, .bool false, .bool false, .bool false, .bool false, .bool false] : Array Value) = bcells 0 := by
  unfold bcells
  rw [show (0 : Int).toNat = 0 from rfl]
  simp only [Nat.zero_testBit]
  rfl
theorem IsS32.newA (w0 W : World) (n : Int) (hB : Below w0.heap.size w0 W) : IsS32 w0 (W.alloc (.cells (bcells n) 32)) W.heap.size n := ⟨by simpa using heap_alloc_new W _, hB.size⟩
end Go.Proofs.YtapncdhemhnphaaDoor.QRp

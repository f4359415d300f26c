/- What is proved: contracts of the methods of a Cache (the program's and the reference's), whose state is 64 ints in one block: the digits of a number. -/
import Derived.Test.YtapncdhemhnphaaDoorCachePure
namespace Go.Proofs.YtapncdhemhnphaaDoor.QCa
open Go.RowKit Go.Proofs.YtapncdhemhnphaaDoorW.PrintWords Go.Proofs.YtapncdhemhnphaaDoorW.PrintLast Go.Proofs.YtapncdhemhnphaaDoorW.PrintMore Go.Proofs.YtapncdhemhnphaaDoor.Pure
set_option linter.unusedVariables false
set_option linter.unusedSimpArgs false
/-- A digit of a number to the base 2 ^ 64, and the number with another digit there. -/
def dig : Nat → Nat → Nat
  | m, 0 => m % 18446744073709551616
  | m, i + 1 => dig (m / 18446744073709551616) i
def setd : Nat → Nat → Nat → Nat
  | m, 0, v => v + 18446744073709551616 * (m / 18446744073709551616)
  | m, j + 1, v => m % 18446744073709551616 + 18446744073709551616 * setd (m / 18446744073709551616) j v
theorem dig_set {v : Nat} (hv : v < 18446744073709551616) : ∀ (j i m : Nat), dig (setd m j v) i = if i = j then v else dig m i
  | 0, 0, m => by simp only [setd, dig, if_pos]; omega
  | 0, i + 1, m => by
    simp only [setd, dig]
    rw [if_neg (by omega), show (v + 18446744073709551616 * (m / 18446744073709551616)) / 18446744073709551616 = m / 18446744073709551616 by omega]
  | j + 1, 0, m => by
    simp only [setd, dig]
    rw [if_neg (by omega)]; omega
  | j + 1, i + 1, m => by
    simp only [setd, dig]
    generalize hs : setd (m / 18446744073709551616) j v = s
    rw [show (m % 18446744073709551616 + 18446744073709551616 * s) / 18446744073709551616 = s by omega, ← hs, dig_set hv j i]
    by_cases e : i = j
    · rw [if_pos e, if_pos (by omega)]
    · rw [if_neg e, if_neg (by omega)]
/-- Who has a set, and one. -/
def own (n : Int) (i : Nat) : Int := wrap64 (dig n.toNat i : Nat)
def upd (n : Int) (j : Nat) (v : Int) : Int := ((setd n.toNat j (v % 18446744073709551616).toNat : Nat) : Int)
theorem own_upd (n : Int) (j : Nat) {v : Int} (hv : wrap64 v = v) (i : Nat) : own (upd n j v) i = if i = j then v else own n i := by
  unfold own upd
  rw [Int.toNat_natCast, dig_set (by omega)]
  by_cases e : i = j
  · rw [if_pos e, if_pos e]
    unfold wrap64 at hv ⊢
    omega
  · rw [if_neg e, if_neg e]
theorem dig_zero : ∀ i, dig 0 i = 0
  | 0 => rfl
  | i + 1 => by unfold dig; exact dig_zero i
theorem own_zero (i : Nat) : own 0 i = 0 := by
  unfold own
  rw [show (0 : Int).toNat = 0 from rfl, dig_zero]; unfold wrap64; omega
theorem own_wrap (n : Int) (i : Nat) : wrap64 (own n i) = own n i := by
  unfold own
  generalize ((dig n.toNat i : Nat) : Int) = x
  unfold wrap64; omega
def icells (n : Int) : Array Value := ((List.range 64).map fun i => Value.int .i64 (own n i)).toArray
theorem icells_get (n : Int) (j : Nat) (h : j < 64) : (icells n)[j]? = some (.int .i64 (own n j)) := by
  simp [icells, h]
theorem icells_size (n : Int) : (icells n).size = 64 := by simp [icells]
theorem icells_set (n : Int) (j : Nat) (h : j < 64) (v : Int) (hv : wrap64 v = v) : (icells n).setIfInBounds j (.int .i64 v) = icells (upd n j v) := by
  refine Array.ext (by simp [icells]) (fun i h1 h2 => ?_)
  rw [icells_size] at h2
  rw [Array.getElem_setIfInBounds (by simpa [icells] using h2)]
  simp only [icells, List.getElem_toArray, List.getElem_map, List.getElem_range, own_upd n j hv]
  by_cases e : j = i
  · subst e; simp
  · rw [if_neg e, if_neg (fun q => e q.symm)]
theorem icells_zero : (#[.int .i64 0, .int .i64 0, .int .i64 0, .int .i64 0, .int .i64 0, .int .i64 0, .int .i64 0, .int .i64 0, .int .i64 0, .int .i64 0, .int .i64 0, .int .i64 0, .int .i64 0, .int .i64 0, .int .i64 0, .int .i64 0, .int .i64 0, .int .i64 0, .int .i64 0, .int .i64 0, .int .i64 0, .int .i64 0, .int .i64 0, .int .i64 0, .int .i64 0, .int .i64 0, .int .i64 0, .int .i64 0, .int .i64 0, .int .i64 0, .int .i64 0, .int .i64 0, .int .i64 0, .int .i64 0, .int .i64 0, .int .i64 0, .int .i64 0, .int .i64 0, .int .i64 0, .int .i64 0, .int .i64 0, .int .i64 0, .int .i64 0, .int .i64 0, .int .i64 0, .int .i64 0, .int .i64 0, .int .i64 0, .int .i64 0, .int .i64 0, .int .i64 0, .int .i64 0, .int .i64 0, .int .i64 0, .int .i64 0, .int .i64 0, .int .i64 0, .int .i64 0, .int .i64 0, .int .i64 0, .int .i64 0, .int .i64 0, .int .i64 0, .int .i64 0] : Array Value) = icells 0 := by
  unfold icells
  simp only [own_zero]
  rfl
def IsS63 (w0 W : World) (g : Nat) (f0 : Int) : Prop := W.heap[g]? = some (.cells (icells f0) 63 (0, 0)) ∧ w0.heap.size ≤ g
theorem IsS63.grown {w0 W : World} {g : Nat} {f0 : Int} {W1 : World} {row : Option Nat} (h : IsS63 w0 W g f0) (hw : W.grownBy W1 row) (hne : some g ≠ row) : IsS63 w0 W1 g f0 := by
  obtain ⟨hb, hg⟩ := h
  exact ⟨blk_grown hb hw hne, hg⟩
theorem IsS63.own_neN {w0 W : World} {g : Nat} {f0 : Int} {α : Type} {d : Kd α} {e : Nat} {base : Nat} {ok : Nat → Prop} {v : Value} {xs : List α} (h : IsS63 w0 W g f0) (ho : Kd.N d e W base ok v xs) (ht : e ≠ 63) : some g ≠ v.ownBlock := by
  obtain ⟨hb, hg⟩ := h
  exact Kd.N_ne ho hb ht
theorem IsS63.fresh {w0 W : World} {g : Nat} {f0 : Int} (h : IsS63 w0 W g f0) : ∀ k, W.heap.size ≤ k → k ≠ g := by
  obtain ⟨hb, hg⟩ := h
  exact Kd.freshB hb
theorem IsS63.kept {w0 W : World} {g : Nat} {f0 : Int} {W1 : World} {S : Nat → Prop} (h : IsS63 w0 W g f0) (hk : Kept W W1 S) (hne : ¬ S g) : IsS63 w0 W1 g f0 := by
  obtain ⟨hb, hg⟩ := h
  exact ⟨blk_kept hb hk hne, hg⟩
theorem IsS63.below {w0 W : World} {g : Nat} {f0 : Int} {W1 : World} (h : IsS63 w0 W g f0) (hw : Below W.heap.size W W1) : IsS63 w0 W1 g f0 := h.grown (grown_of_below hw none) (by simp)
theorem IsS63.alloc {w0 W : World} {g : Nat} {f0 : Int} (h : IsS63 w0 W g f0) (o : Obj) : IsS63 w0 (W.alloc o) g f0 := h.below (below_alloc (Below.refl _ _) o)
theorem IsS63.drewN {w0 W : World} {g : Nat} {f0 : Int} (h : IsS63 w0 W g f0) (m : Nat) : IsS63 w0 (W.drewN m) g f0 := h
theorem IsS63.drew {w0 W : World} {g : Nat} {f0 : Int} (h : IsS63 w0 W g f0) : IsS63 w0 W.drew g f0 := h
theorem IsS63.at_ {w0 W : World} {g : Nat} {f0 : Int} {w' : World} {m : Nat} (hq : W.drewN m = w') (h : IsS63 w0 W g f0) : IsS63 w0 w' g f0 := by subst hq; exact IsS63.drewN h m
theorem IsS63.apart {w0 W : World} {g : Nat} {f0 : Int} {α : Type} {d : Kd α} {e : Nat} {base : Nat} {ok : Nat → Prop} {v : Value} {xs : List α} (h : IsS63 w0 W g f0) (ho : d.R e W base ok v xs) (ht : ∀ q, q ∈ e :: d.E → q ≠ 63) : d.R e W base (fun k => ok k ∧ k ≠ g) v xs := by
  obtain ⟨hb, hg⟩ := h
  exact Kd.R_types ho hb ht
theorem IsS63.own_ne {w0 W : World} {g : Nat} {f0 : Int} {α : Type} {d : Kd α} {e : Nat} {base : Nat} {ok : Nat → Prop} {v : Value} {xs : List α} (h : IsS63 w0 W g f0) (ho : d.R e W base ok v xs) (ht : e ≠ 63) : some g ≠ v.ownBlock := by
  obtain ⟨hb, hg⟩ := h
  exact Kd.R_ne ho hb ht
theorem IsS63.apartQ {w0 W : World} {g : Nat} {f0 : Int} {α : Type} {d : Kd α} {e : Nat} {base : Nat} {ok : Nat → Prop} {v : Value} {xs : List α} (h : IsS63 w0 W g f0) (ho : d.Q e W base ok v xs) (ht : ∀ q, q ∈ e :: d.E → q ≠ 63) : d.Q e W base (fun k => ok k ∧ k ≠ g) v xs := by
  obtain ⟨hb, hg⟩ := h
  exact Kd.Q_types ho hb ht
theorem IsS63.own_neQ {w0 W : World} {g : Nat} {f0 : Int} {α : Type} {d : Kd α} {e : Nat} {base : Nat} {ok : Nat → Prop} {v : Value} {xs : List α} (h : IsS63 w0 W g f0) (ho : d.Q e W base ok v xs) (ht : e ≠ 63) : some g ≠ v.ownBlock := by
  obtain ⟨hb, hg⟩ := h
  exact Kd.Q_ne ho hb ht
theorem IsS63.apartS {w0 W : World} {g : Nat} {f0 : Int} {α : Type} {d : Kd α} {e : Nat} {base : Nat} {ok : Nat → Prop} {v : Value} {xs : List α} (h : IsS63 w0 W g f0) (ho : d.S e W base ok v xs) (ht : ∀ q, q ∈ e :: d.E → q ≠ 63) : d.S e W base (fun k => ok k ∧ k ≠ g) v xs := by
  obtain ⟨hb, hg⟩ := h
  exact Kd.S_types ho hb ht
theorem IsS63.own_neS {w0 W : World} {g : Nat} {f0 : Int} {α : Type} {d : Kd α} {e : Nat} {base : Nat} {ok : Nat → Prop} {v : Value} {xs : List α} (h : IsS63 w0 W g f0) (ho : d.S e W base ok v xs) (ht : e ≠ 63) : some g ≠ v.ownBlock := by
  obtain ⟨hb, hg⟩ := h
  exact Kd.S_ne ho hb ht
theorem IsS63.lt {w0 W : World} {g : Nat} {f0 : Int} (h : IsS63 w0 W g f0) : g < W.heap.size := by
  obtain ⟨hb, hg⟩ := h
  exact blk_lt hb
theorem IsS63.ge {w0 W : World} {g : Nat} {f0 : Int} (h : IsS63 w0 W g f0) : w0.heap.size ≤ g := by
  obtain ⟨hb, hg⟩ := h
  exact hg
theorem IsS63.ne_blk {w0 W : World} {g : Nat} {f0 : Int} {a : Nat} {cs : Array Value} {t : TypeId} {fr : Nat × Nat} (h : IsS63 w0 W g f0) (hb2 : W.heap[a]? = some (.cells cs t fr)) (ht : t ≠ 63) : g ≠ a := by
  obtain ⟨hb, hg⟩ := h
  rintro rfl
  rw [hb] at hb2
  injection hb2 with hb2
  injection hb2 with _ ht2
  exact ht ht2.symm
theorem IsS63.far {w0 W : World} {g : Nat} {f0 : Int} {p : Addr} (h : IsS63 w0 W g f0) (hne : g ≠ p.block) (u : Value) : IsS63 w0 (W.setCell p u) g f0 := by
  obtain ⟨hb, hg⟩ := h
  exact ⟨blk_far hb hne u, hg⟩

theorem cell63 {w0 W : World} {g : Nat} {n : Int} (h : IsS63 w0 W g n) (j : Nat) (hj : j < 64) : W.cell? ⟨g, j, none⟩ = some (.int .i64 (own n j)) := (blk_cell h.1 j).trans (icells_get n j hj)
theorem IsS63.setA {w0 W : World} {g : Nat} {n : Int} (h : IsS63 w0 W g n) (j : Nat) (hj : j < 64) (v : Int) (hv : wrap64 v = v) : IsS63 w0 (W.setCell ⟨g, j, none⟩ (.int .i64 v)) g (upd n j v) := by
  obtain ⟨hb, hg⟩ := h
  refine ⟨?_, hg⟩
  have := blk_set hb j (.int .i64 v)
  rw [icells_set n j hj v hv] at this
  simpa using this
theorem IsS63.set_0 {w0 W : World} {g : Nat} {f0 : Int} (h : IsS63 w0 W g f0) : IsS63 w0 W g f0 := h
theorem IsS63.newA (w0 W : World) (n : Int) (hB : Below w0.heap.size w0 W) : IsS63 w0 (W.alloc (.cells (icells n) 63)) W.heap.size n := ⟨by simpa using heap_alloc_new W _, hB.size⟩
theorem drawn63 {w0 w w' : World} {g : Nat} {n : Int} (hI : IsS63 w0 w g n) (hB : Below w0.heap.size w0 w) (h : Drawn0 w w') : IsS63 w0 w' g n ∧ Below w0.heap.size w0 w' ∧ KeepBut w w' g none := by
  obtain ⟨m, rfl⟩ := h
  exact ⟨hI.drewN m, pw_below_drewN hB m, keep_drewN (KeepBut.refl w g none) m⟩
def IsS46 (w0 W : World) (g : Nat) (f0 : Int) : Prop := W.heap[g]? = some (.cells (icells f0) 46 (0, 0)) ∧ w0.heap.size ≤ g
theorem IsS46.grown {w0 W : World} {g : Nat} {f0 : Int} {W1 : World} {row : Option Nat} (h : IsS46 w0 W g f0) (hw : W.grownBy W1 row) (hne : some g ≠ row) : IsS46 w0 W1 g f0 := by
  obtain ⟨hb, hg⟩ := h
  exact ⟨blk_grown hb hw hne, hg⟩
theorem IsS46.own_neN {w0 W : World} {g : Nat} {f0 : Int} {α : Type} {d : Kd α} {e : Nat} {base : Nat} {ok : Nat → Prop} {v : Value} {xs : List α} (h : IsS46 w0 W g f0) (ho : Kd.N d e W base ok v xs) (ht : e ≠ 46) : some g ≠ v.ownBlock := by
  obtain ⟨hb, hg⟩ := h
  exact Kd.N_ne ho hb ht
theorem IsS46.fresh {w0 W : World} {g : Nat} {f0 : Int} (h : IsS46 w0 W g f0) : ∀ k, W.heap.size ≤ k → k ≠ g := by
  obtain ⟨hb, hg⟩ := h
  exact Kd.freshB hb
theorem IsS46.kept {w0 W : World} {g : Nat} {f0 : Int} {W1 : World} {S : Nat → Prop} (h : IsS46 w0 W g f0) (hk : Kept W W1 S) (hne : ¬ S g) : IsS46 w0 W1 g f0 := by
  obtain ⟨hb, hg⟩ := h
  exact ⟨blk_kept hb hk hne, hg⟩
theorem IsS46.below {w0 W : World} {g : Nat} {f0 : Int} {W1 : World} (h : IsS46 w0 W g f0) (hw : Below W.heap.size W W1) : IsS46 w0 W1 g f0 := h.grown (grown_of_below hw none) (by simp)
theorem IsS46.alloc {w0 W : World} {g : Nat} {f0 : Int} (h : IsS46 w0 W g f0) (o : Obj) : IsS46 w0 (W.alloc o) g f0 := h.below (below_alloc (Below.refl _ _) o)
theorem IsS46.drewN {w0 W : World} {g : Nat} {f0 : Int} (h : IsS46 w0 W g f0) (m : Nat) : IsS46 w0 (W.drewN m) g f0 := h
theorem IsS46.drew {w0 W : World} {g : Nat} {f0 : Int} (h : IsS46 w0 W g f0) : IsS46 w0 W.drew g f0 := h
theorem IsS46.at_ {w0 W : World} {g : Nat} {f0 : Int} {w' : World} {m : Nat} (hq : W.drewN m = w') (h : IsS46 w0 W g f0) : IsS46 w0 w' g f0 := by subst hq; exact IsS46.drewN h m
theorem IsS46.apart {w0 W : World} {g : Nat} {f0 : Int} {α : Type} {d : Kd α} {e : Nat} {base : Nat} {ok : Nat → Prop} {v : Value} {xs : List α} (h : IsS46 w0 W g f0) (ho : d.R e W base ok v xs) (ht : ∀ q, q ∈ e :: d.E → q ≠ 46) : d.R e W base (fun k => ok k ∧ k ≠ g) v xs := by
  obtain ⟨hb, hg⟩ := h
  exact Kd.R_types ho hb ht
theorem IsS46.own_ne {w0 W : World} {g : Nat} {f0 : Int} {α : Type} {d : Kd α} {e : Nat} {base : Nat} {ok : Nat → Prop} {v : Value} {xs : List α} (h : IsS46 w0 W g f0) (ho : d.R e W base ok v xs) (ht : e ≠ 46) : some g ≠ v.ownBlock := by
  obtain ⟨hb, hg⟩ := h
  exact Kd.R_ne ho hb ht
theorem IsS46.apartQ {w0 W : World} {g : Nat} {f0 : Int} {α : Type} {d : Kd α} {e : Nat} {base : Nat} {ok : Nat → Prop} {v : Value} {xs : List α} (h : IsS46 w0 W g f0) (ho : d.Q e W base ok v xs) (ht : ∀ q, q ∈ e :: d.E → q ≠ 46) : d.Q e W base (fun k => ok k ∧ k ≠ g) v xs := by
  obtain ⟨hb, hg⟩ := h
  exact Kd.Q_types ho hb ht
theorem IsS46.own_neQ {w0 W : World} {g : Nat} {f0 : Int} {α : Type} {d : Kd α} {e : Nat} {base : Nat} {ok : Nat → Prop} {v : Value} {xs : List α} (h : IsS46 w0 W g f0) (ho : d.Q e W base ok v xs) (ht : e ≠ 46) : some g ≠ v.ownBlock := by
  obtain ⟨hb, hg⟩ := h
  exact Kd.Q_ne ho hb ht
theorem IsS46.apartS {w0 W : World} {g : Nat} {f0 : Int} {α : Type} {d : Kd α} {e : Nat} {base : Nat} {ok : Nat → Prop} {v : Value} {xs : List α} (h : IsS46 w0 W g f0) (ho : d.S e W base ok v xs) (ht : ∀ q, q ∈ e :: d.E → q ≠ 46) : d.S e W base (fun k => ok k ∧ k ≠ g) v xs := by
  obtain ⟨hb, hg⟩ := h
  exact Kd.S_types ho hb ht
theorem IsS46.own_neS {w0 W : World} {g : Nat} {f0 : Int} {α : Type} {d : Kd α} {e : Nat} {base : Nat} {ok : Nat → Prop} {v : Value} {xs : List α} (h : IsS46 w0 W g f0) (ho : d.S e W base ok v xs) (ht : e ≠ 46) : some g ≠ v.ownBlock := by
  obtain ⟨hb, hg⟩ := h
  exact Kd.S_ne ho hb ht
theorem IsS46.lt {w0 W : World} {g : Nat} {f0 : Int} (h : IsS46 w0 W g f0) : g < W.heap.size := by
  obtain ⟨hb, hg⟩ := h
  exact blk_lt hb
theorem IsS46.ge {w0 W : World} {g : Nat} {f0 : Int} (h : IsS46 w0 W g f0) : w0.heap.size ≤ g := by
  obtain ⟨hb, hg⟩ := h
  exact hg
theorem IsS46.ne_blk {w0 W : World} {g : Nat} {f0 : Int} {a : Nat} {cs : Array Value} {t : TypeId} {fr : Nat × Nat} (h : IsS46 w0 W g f0) (hb2 : W.heap[a]? = some (.cells cs t fr)) (ht : t ≠ 46) : g ≠ a := by
  obtain ⟨hb, hg⟩ := h
  rintro rfl
  rw [hb] at hb2
  injection hb2 with hb2
  injection hb2 with _ ht2
  exact ht ht2.symm
theorem IsS46.far {w0 W : World} {g : Nat} {f0 : Int} {p : Addr} (h : IsS46 w0 W g f0) (hne : g ≠ p.block) (u : Value) : IsS46 w0 (W.setCell p u) g f0 := by
  obtain ⟨hb, hg⟩ := h
  exact ⟨blk_far hb hne u, hg⟩

theorem cell46 {w0 W : World} {g : Nat} {n : Int} (h : IsS46 w0 W g n) (j : Nat) (hj : j < 64) : W.cell? ⟨g, j, none⟩ = some (.int .i64 (own n j)) := (blk_cell h.1 j).trans (icells_get n j hj)
theorem IsS46.setA {w0 W : World} {g : Nat} {n : Int} (h : IsS46 w0 W g n) (j : Nat) (hj : j < 64) (v : Int) (hv : wrap64 v = v) : IsS46 w0 (W.setCell ⟨g, j, none⟩ (.int .i64 v)) g (upd n j v) := by
  obtain ⟨hb, hg⟩ := h
  refine ⟨?_, hg⟩
  have := blk_set hb j (.int .i64 v)
  rw [icells_set n j hj v hv] at this
  simpa using this
theorem IsS46.set_0 {w0 W : World} {g : Nat} {f0 : Int} (h : IsS46 w0 W g f0) : IsS46 w0 W g f0 := h
theorem IsS46.newA (w0 W : World) (n : Int) (hB : Below w0.heap.size w0 W) : IsS46 w0 (W.alloc (.cells (icells n) 46)) W.heap.size n := ⟨by simpa using heap_alloc_new W _, hB.size⟩
theorem drawn46 {w0 w w' : World} {g : Nat} {n : Int} (hI : IsS46 w0 w g n) (hB : Below w0.heap.size w0 w) (h : Drawn0 w w') : IsS46 w0 w' g n ∧ Below w0.heap.size w0 w' ∧ KeepBut w w' g none := by
  obtain ⟨m, rfl⟩ := h
  exact ⟨hI.drewN m, pw_below_drewN hB m, keep_drewN (KeepBut.refl w g none) m⟩

/-! ### What they compute -/
def heldA (n v : Int) : Nat → Nat → Nat → Nat
  | 0, _, x => x
  | d + 1, i, x => heldA n v d (i + 1) (if own n i = v then x ||| 2 ^ i else x)
def heldT (n t : Int) : Int := if t < 0 then 0 else ((heldA n (wrap64 (t + 1)) 64 0 0 : Nat) : Int)
def touchA (v : Int) (s : Nat) : Nat → Nat → Int → Int
  | 0, _, n => n
  | d + 1, i, n => touchA v s d (i + 1) (if s.testBit i = true then upd n i v else n)
def touchT (n t s : Int) : Int := if t < 0 then n else touchA (wrap64 (t + 1)) s.toNat 64 0 n
def ownerT (n i : Int) : Int := if 0 ≤ i ∧ i < 64 then wrap64 (own n i.toNat - 1) else -1
def cache_Cache_Touch.f (s0_0 a1 a2 : Int) : Option (Bool × Int) := if 0 ≤ a2 ∧ a2 < 18446744073709551616 then some (decide (0 ≤ a1), touchT s0_0 a1 a2) else none
def cache_Cache_Owner.f (s0_0 a1 : Int) : Option (Int × Int) := some (ownerT s0_0 a1, s0_0)
def cache_Cache_Held.f (s0_0 a1 : Int) : Option (Int × Int) := some (heldT s0_0 a1, s0_0)
def cache_Cache_Lost.f (s0_0 a1 a2 : Int) : Option (Int × Int) := some (Go.bits .andNot .u64 a2 (heldT s0_0 a1), s0_0)
def taskmasterref18_Cache_Touch.f (s0_0 a1 a2 : Int) : Option (Bool × Int) := if 0 ≤ a2 ∧ a2 < 18446744073709551616 then some (decide (0 ≤ a1), touchT s0_0 a1 a2) else none
def taskmasterref18_Cache_Owner.f (s0_0 a1 : Int) : Option (Int × Int) := some (ownerT s0_0 a1, s0_0)
def taskmasterref18_Cache_Held.f (s0_0 a1 : Int) : Option (Int × Int) := some (heldT s0_0 a1, s0_0)
def taskmasterref18_Cache_Lost.f (s0_0 a1 a2 : Int) : Option (Int × Int) := some (Go.bits .andNot .u64 a2 (heldT s0_0 a1), s0_0)
def cache_New.f : Option Int := some 0
def newA.f : Option Int := some 0
set_option maxHeartbeats 8000000 in
theorem cache_Cache_Owner.calls (g : Nat) (s0_0 : Int) (a1 : Int) (r1 : Int) (r2 : Int) (w0 w : World) (hI : IsS63 w0 w g s0_0) (hB : Below w0.heap.size w0 w) (h : cache_Cache_Owner.f s0_0 a1 = some (r1, r2)) :
    Calls Tryd.prog 24 #[.pointer (some ⟨g, 0, none⟩), .int .i64 a1] w fun e w' => e = .returned (.int .i64 r1) ∧ IsS63 w0 w' g r2 ∧ Below w0.heap.size w0 w' ∧ KeepBut w w' g none := by
  simp only [cache_Cache_Owner.f, Option.some.injEq, Prod.mk.injEq] at h
  obtain ⟨rfl, rfl⟩ := h
  refine Calls.mono (R := fun e w' => e = .returned (.int .i64 (ownerT s0_0 a1)) ∧ Drawn0 w w') ?_ (fun e w' ⟨he, hd⟩ => ⟨he, drawn63 hI hB hd⟩)
  unfold ownerT
  by_cases h0 : 0 ≤ a1
  · obtain ⟨j, rfl⟩ := Int.eq_ofNat_of_zero_le h0
    have h1 : decide ((j : Int) < 0) = false := decide_eq_false (by omega)
    have h3 : decide (0 ≤ (j : Int)) = true := decide_eq_true (by omega)
    by_cases hj : j < 64
    · have hc := cell63 hI j hj
      have h2 : decide ((64 : Int) ≤ (j : Int)) = false := decide_eq_false (by omega)
      have h4 : decide ((j : Int) < 64) = true := decide_eq_true (by omega)
      rw [if_pos (show 0 ≤ (j : Int) ∧ (j : Int) < 64 by omega), Int.toNat_natCast]
      go_enter Tryd.func24, Tryd.ntmps24
      go_wp2
      go_ret
      exact ⟨by first | rfl | (simp; done) | (simp [*]; done), by repeat (first | exact Drawn0.refl _ | apply Drawn0.step)⟩
    · have h2 : decide ((64 : Int) ≤ (j : Int)) = true := decide_eq_true (by omega)
      rw [if_neg (show ¬ (0 ≤ (j : Int) ∧ (j : Int) < 64) by omega)]
      go_enter Tryd.func24, Tryd.ntmps24
      go_wp2
      go_ret
      exact ⟨by first | rfl | (simp; done) | (simp [*]; done), by repeat (first | exact Drawn0.refl _ | apply Drawn0.step)⟩
  · have h1 : decide (a1 < 0) = true := decide_eq_true (by omega)
    rw [if_neg (show ¬ (0 ≤ a1 ∧ a1 < 64) by omega)]
    go_enter Tryd.func24, Tryd.ntmps24
    go_wp2
    go_ret
    exact ⟨by first | rfl | (simp; done) | (simp [*]; done), by repeat (first | exact Drawn0.refl _ | apply Drawn0.step)⟩
set_option maxHeartbeats 8000000 in
theorem taskmasterref18_Cache_Owner.calls (g : Nat) (s0_0 : Int) (a1 : Int) (r1 : Int) (r2 : Int) (w0 w : World) (hI : IsS46 w0 w g s0_0) (hB : Below w0.heap.size w0 w) (h : taskmasterref18_Cache_Owner.f s0_0 a1 = some (r1, r2)) :
    Calls Tryd.prog 25 #[.pointer (some ⟨g, 0, none⟩), .int .i64 a1] w fun e w' => e = .returned (.int .i64 r1) ∧ IsS46 w0 w' g r2 ∧ Below w0.heap.size w0 w' ∧ KeepBut w w' g none := by
  simp only [taskmasterref18_Cache_Owner.f, Option.some.injEq, Prod.mk.injEq] at h
  obtain ⟨rfl, rfl⟩ := h
  refine Calls.mono (R := fun e w' => e = .returned (.int .i64 (ownerT s0_0 a1)) ∧ Drawn0 w w') ?_ (fun e w' ⟨he, hd⟩ => ⟨he, drawn46 hI hB hd⟩)
  unfold ownerT
  by_cases h0 : 0 ≤ a1
  · obtain ⟨j, rfl⟩ := Int.eq_ofNat_of_zero_le h0
    have h1 : decide ((j : Int) < 0) = false := decide_eq_false (by omega)
    have h3 : decide (0 ≤ (j : Int)) = true := decide_eq_true (by omega)
    by_cases hj : j < 64
    · have hc := cell46 hI j hj
      have h2 : decide ((64 : Int) ≤ (j : Int)) = false := decide_eq_false (by omega)
      have h4 : decide ((j : Int) < 64) = true := decide_eq_true (by omega)
      rw [if_pos (show 0 ≤ (j : Int) ∧ (j : Int) < 64 by omega), Int.toNat_natCast]
      go_enter Tryd.func25, Tryd.ntmps25
      go_wp2
      go_ret
      exact ⟨by first | rfl | (simp; done) | (simp [*]; done), by repeat (first | exact Drawn0.refl _ | apply Drawn0.step)⟩
    · have h2 : decide ((64 : Int) ≤ (j : Int)) = true := decide_eq_true (by omega)
      rw [if_neg (show ¬ (0 ≤ (j : Int) ∧ (j : Int) < 64) by omega)]
      go_enter Tryd.func25, Tryd.ntmps25
      go_wp2
      go_ret
      exact ⟨by first | rfl | (simp; done) | (simp [*]; done), by repeat (first | exact Drawn0.refl _ | apply Drawn0.step)⟩
  · have h1 : decide (a1 < 0) = true := decide_eq_true (by omega)
    rw [if_neg (show ¬ (0 ≤ a1 ∧ a1 < 64) by omega)]
    go_enter Tryd.func25, Tryd.ntmps25
    go_wp2
    go_ret
    exact ⟨by first | rfl | (simp; done) | (simp [*]; done), by repeat (first | exact Drawn0.refl _ | apply Drawn0.step)⟩
set_option maxHeartbeats 8000000 in
theorem taskmasterref18_Cache_Touch.calls (g : Nat) (s0_0 : Int) (a1 a2 : Int) (r1 : Bool) (r2 : Int) (w0 w : World) (hI : IsS46 w0 w g s0_0) (hB : Below w0.heap.size w0 w) (h : taskmasterref18_Cache_Touch.f s0_0 a1 a2 = some (r1, r2)) :
    Calls Tryd.prog 23 #[.pointer (some ⟨g, 0, none⟩), .int .i64 a1, .int .u64 a2] w fun e w' => e = .returned (.bool r1) ∧ IsS46 w0 w' g r2 ∧ Below w0.heap.size w0 w' ∧ KeepBut w w' g none := by
  unfold taskmasterref18_Cache_Touch.f at h
  by_cases hs : 0 ≤ a2 ∧ a2 < 18446744073709551616
  · rw [if_pos hs] at h
    simp only [Option.some.injEq, Prod.mk.injEq] at h
    obtain ⟨rfl, rfl⟩ := h
    obtain ⟨s, rfl⟩ := Int.eq_ofNat_of_zero_le hs.1
    have hs' : s < 18446744073709551616 := by omega
    clear hs
    unfold touchT
    by_cases ht : a1 < 0
    · have h1 : decide (a1 < 0) = true := decide_eq_true ht
      rw [if_pos ht, decide_eq_false (show ¬ 0 ≤ a1 by omega)]
      refine Calls.mono (R := fun e w' => e = .returned (.bool false) ∧ Drawn0 w w') ?_ (fun e w' ⟨he, hd⟩ => ⟨he, drawn46 hI hB hd⟩)
      go_enter Tryd.func23, Tryd.ntmps23
      go_wp2
      go_ret
      exact ⟨by first | rfl | (simp; done) | (simp [*]; done), by repeat (first | exact Drawn0.refl _ | apply Drawn0.step)⟩
    · have h1 : decide (a1 < 0) = false := decide_eq_false ht
      rw [if_neg ht, decide_eq_true (show 0 ≤ a1 by omega), Int.toNat_natCast]
      generalize hv : wrap64 (a1 + 1) = v
      have hvw : wrap64 v = v := by rw [← hv]; unfold wrap64; omega
      generalize hr : touchA v s 64 0 s0_0 = r
      replace hv := Aside0.mk hv
      replace hvw := Aside0.mk hvw
      go_enter Tryd.func23, Tryd.ntmps23
      go_wp2
      go_loopg [7] 65 (fun kq v7 w' => ∃ (d i : Nat) (m : Int), kq = d + 1 ∧ d + i = 64 ∧ v7 = .int .i64 (i : Int) ∧ touchA v s d i m = r ∧ IsS46 w0 w' g m ∧ Below w0.heap.size w0 w' ∧ KeepBut w w' g none)
      case atStart => exact ⟨64, 0, s0_0, rfl, rfl, rfl, hr, by repeat (first | exact hI | apply IsS46.drewN | apply IsS46.drew), by repeat (first | exact hB | apply pw_below_drewN | apply below_drew1), by repeat (first | exact KeepBut.refl _ _ _ | apply keep_drewN | apply keep_drew)⟩
      case round =>
        clear hI hB
        obtain ⟨d, i, m, rfl, hdi, rfl, hf, hI, hB, hK⟩ := hrel
        cases d with
        | zero =>
          have h2 : decide ((i : Int) < 64) = false := decide_eq_false (by omega)
          unfold touchA at hf
          subst hf
          go_wp2
          go_ret
          exact ⟨by first | rfl | (simp; done) | (simp [*]; done), by repeat (first | exact hI | apply IsS46.drewN | apply IsS46.drew), by repeat (first | exact hB | apply pw_below_drewN | apply below_drew1), by repeat (first | exact hK | apply keep_drewN | apply keep_drew)⟩
        | succ d =>
          have h2 : decide ((i : Int) < 64) = true := decide_eq_true (by omega)
          have h3 : decide (0 ≤ (i : Int)) = true := decide_eq_true (by omega)
          have hw : wrap64 ((i : Int) + 1) = ((i + 1 : Nat) : Int) := by unfold wrap64; omega
          have hh := has_eq s (i : Int) hs'
          rw [decide_eq_true (show 0 ≤ (i : Int) ∧ (i : Int) < 64 by omega), Bool.true_and, Int.toNat_natCast] at hh
          unfold touchA at hf
          by_cases hb : s.testBit i = true
          · rw [if_pos hb] at hf
            rw [hb] at hh
            have hz := blk_frozen hI.1 i
            have hc := cell46 hI i (by omega)
            have hn := IsS46.setA hI i (by omega) v hvw.out
            have e5 : d + (i + 1) = 64 := by omega
            have hv_ := hv.out
            go_wp2_with (go_at_call 35; (refine (taskmasterref2_Has.calls _ _ _ _ hh).mono ?_); rintro e w1 ⟨rfl, nd, rfl⟩)
            go_roundg (d + 1)
            case measure => exact Nat.lt_succ_self _
            case rel => exact ⟨d, i + 1, upd m i v, rfl, e5, by first | rfl | (rw [hw]; done) | (simp [hw]; done) | (simp [*]; done), hf, by repeat (first | exact hn | apply IsS46.drewN | apply IsS46.drew | (rw [hv])), by repeat (first | (with_reducible first | exact hB | apply pw_below_drewN | apply below_drew1 | refine below_set ?_ (IsS46.ge hI)) | exact hB), by repeat (first | (with_reducible first | exact hK | apply KeepBut.set_ | apply keep_drewN | apply keep_drew) | exact hK)⟩
          · rw [if_neg hb] at hf
            replace hb := Bool.eq_false_iff.mpr hb
            rw [hb] at hh
            go_wp2_with (go_at_call 35; (refine (taskmasterref2_Has.calls _ _ _ _ hh).mono ?_); rintro e w1 ⟨rfl, nd, rfl⟩)
            go_roundg (d + 1)
            case measure => omega
            case rel => exact ⟨d, i + 1, m, rfl, by omega, by first | rfl | (rw [hw]; done) | (simp [hw]; done) | (simp [*]; done), hf, by repeat (first | exact hI | apply IsS46.drewN | apply IsS46.drew), by repeat (first | exact hB | apply pw_below_drewN | apply below_drew1), by repeat (first | exact hK | apply keep_drewN | apply keep_drew)⟩
  · rw [if_neg hs] at h; cases h
theorem lit_C (w : World) (a1 : Int) : Kd.C (Kd.int .i64) (w.alloc (.cells #[.int .i64 a1] 3)) (some ⟨w.heap.size, 0, none⟩) ([a1] : List Int).length [a1] := by
  have h : Kd.R (Kd.int .i64) 3 (w.alloc (.cells #[.int .i64 a1] 3)) 0 (fun _ => True) (.slice (some ⟨w.heap.size, 0, none⟩) 1 1) [a1] :=
    ⟨fun _ _ => trivial, [.int .i64 a1], World.ownsRow_lit (base := 0) (e := 3) (size := 1) w #[.int .i64 a1] 1 (Nat.zero_le _) (by simp [maxLen]) (by simp), Reps.one (show Kd.M (Kd.int .i64) _ _ _ a1 [.int .i64 a1] from rfl) (Reps.none _ _)⟩
  exact (Kd.R_reads' h).2.2
theorem of_one (k : Nat) (w : World) (a1 r : Int) (h : bits_Of.f k [a1] = some r) : Calls Tryd.prog 31 #[.slice (some ⟨w.heap.size, 0, none⟩) 1 1] (w.alloc (.cells #[.int .i64 a1] 3)) fun e w' => e = .returned (.int .u64 r) ∧ Drawn0 (w.alloc (.cells #[.int .i64 a1] 3)) w' :=
  bits_Of.calls k _ _ [a1] r _ (lit_C w a1) (Nat.le_refl _) h
set_option maxHeartbeats 8000000 in
theorem cache_New.calls (r : Int) (w0 w : World) (hB : Below w0.heap.size w0 w) (h : cache_New.f = some r) :
    Calls Tryd.prog 21 #[] w fun e w' => ∃ g_ : Nat, e = .returned (.pointer (some ⟨g_, 0, none⟩)) ∧ IsS63 w0 w' g_ r ∧ Below w0.heap.size w0 w' ∧ Below w.heap.size w w' := by
  obtain rfl := Option.some.inj h
  go_enter Tryd.func21, Tryd.ntmps21
  go_wp2
  simp only [icells_zero]
  go_ret
  exact ⟨w.heap.size, rfl, IsS63.newA w0 w 0 hB, below_alloc hB _, below_alloc (Below.refl _ _) _⟩
def nil_Touch.f : Option Bool := some false
def nil_Owner.f : Option Int := some (-1)
def nil_Held.f : Option Int := some 0
def nil_Lost.f : Option Int := some 5
set_option maxHeartbeats 8000000 in
theorem nil_Touch.calls (r : Bool) (w : World) (h : nil_Touch.f = some r) :
    Calls Tryd.prog 22 #[.pointer none, .int .i64 0, .int .u64 1] w fun e w' => e = .returned (.bool r) ∧ Drawn0 w w' := by
  obtain rfl := Option.some.inj h
  go_enter Tryd.func22, Tryd.ntmps22
  go_wp2
  go_ret
  exact ⟨by first | rfl | (simp; done) | (simp [*]; done), by repeat (first | exact Drawn0.refl _ | apply Drawn0.step)⟩
set_option maxHeartbeats 8000000 in
theorem nil_Owner.calls (r : Int) (w : World) (h : nil_Owner.f = some r) :
    Calls Tryd.prog 24 #[.pointer none, .int .i64 0] w fun e w' => e = .returned (.int .i64 r) ∧ Drawn0 w w' := by
  obtain rfl := Option.some.inj h
  go_enter Tryd.func24, Tryd.ntmps24
  go_wp2
  go_ret
  exact ⟨by first | rfl | (simp; done) | (simp [*]; done), by repeat (first | exact Drawn0.refl _ | apply Drawn0.step)⟩
set_option maxHeartbeats 8000000 in
theorem nil_Held0 (t : Int) (w : World) :
    Calls Tryd.prog 26 #[.pointer none, .int .i64 t] w fun e w' => e = .returned (.int .u64 0) ∧ Drawn0 w w' := by
  go_enter Tryd.func26, Tryd.ntmps26
  go_wp2
  go_ret
  exact ⟨by first | rfl | (simp; done) | (simp [*]; done), by repeat (first | exact Drawn0.refl _ | apply Drawn0.step)⟩
theorem nil_Held.calls (r : Int) (w : World) (h : nil_Held.f = some r) :
    Calls Tryd.prog 26 #[.pointer none, .int .i64 0] w fun e w' => e = .returned (.int .u64 r) ∧ Drawn0 w w' := by
  obtain rfl := Option.some.inj h
  exact nil_Held0 0 w
set_option maxHeartbeats 8000000 in
theorem nil_Lost.calls (r : Int) (w : World) (h : nil_Lost.f = some r) :
    Calls Tryd.prog 28 #[.pointer none, .int .i64 0, .int .u64 5] w fun e w' => e = .returned (.int .u64 r) ∧ Drawn0 w w' := by
  obtain rfl := Option.some.inj h
  have hz : Go.bits .andNot .u64 5 0 = 5 := by decide +kernel
  go_enter Tryd.func28, Tryd.ntmps28
  go_wp2_with (go_at_call 26; (refine (nil_Held0 0 _).mono ?_); rintro e w1 ⟨rfl, nd, rfl⟩)
  go_ret
  exact ⟨by first | rfl | (simp; done) | (simp [*]; done), by repeat (first | exact Drawn0.refl _ | apply Drawn0.step)⟩
theorem heldA_lt (n v : Int) : ∀ (d i x : Nat), d + i = 64 → x < 18446744073709551616 → heldA n v d i x < 18446744073709551616
  | 0, i, x, _, h => h
  | d + 1, i, x, hd, h => by
    unfold heldA
    refine heldA_lt n v d (i + 1) _ (by omega) ?_
    split
    · exact or_lt h (two_lt (by omega))
    · exact h
set_option maxHeartbeats 8000000 in
theorem refHeld (g : Nat) (n t : Int) (w0 w : World) (hI : IsS46 w0 w g n) :
    Calls Tryd.prog 27 #[.pointer (some ⟨g, 0, none⟩), .int .i64 t] w fun e w' => e = .returned (.int .u64 (heldT n t)) ∧ Drawn0 w w' := by
  unfold heldT
  by_cases ht : t < 0
  · rw [if_pos ht]
    have h1 : decide (0 ≤ t) = false := decide_eq_false (by omega)
    go_enter Tryd.func27, Tryd.ntmps27
    go_wp2
    go_loopg [5, 6] 65 (fun kq v5 v6 w' => ∃ d i : Nat, kq = d + 1 ∧ d + i = 64 ∧ v5 = .int .u64 0 ∧ v6 = .int .i64 (i : Int) ∧ Drawn0 w w')
    case atStart => exact ⟨64, 0, rfl, rfl, rfl, rfl, by repeat (first | exact Drawn0.refl _ | apply Drawn0.step)⟩
    case round =>
      obtain ⟨d, i, rfl, hdi, rfl, rfl, ⟨m1, rfl⟩⟩ := hrel
      cases d with
      | zero =>
        have h2 : decide ((i : Int) < 64) = false := decide_eq_false (by omega)
        go_wp2
        go_ret
        exact ⟨by first | rfl | (simp; done) | (simp [*]; done), by repeat (first | exact Drawn0.refl _ | apply Drawn0.step)⟩
      | succ d =>
        have h2 : decide ((i : Int) < 64) = true := decide_eq_true (by omega)
        have hw : wrap64 ((i : Int) + 1) = ((i + 1 : Nat) : Int) := by unfold wrap64; omega
        have e5 : d + (i + 1) = 64 := by omega
        go_wp2
        go_roundg (d + 1)
        case measure => exact Nat.lt_succ_self _
        case rel => exact ⟨d, i + 1, rfl, e5, by first | rfl | (simp; done) | (simp [*]; done), by first | rfl | (rw [hw]; done) | (simp [hw]; done) | (simp [*]; done), by repeat (first | exact Drawn0.refl _ | apply Drawn0.step)⟩
  · rw [if_neg ht]
    have h1 : decide (0 ≤ t) = true := decide_eq_true (by omega)
    generalize hv : wrap64 (t + 1) = v
    replace hv := Aside0.mk hv
    generalize hr : heldA n v 64 0 0 = r
    go_enter Tryd.func27, Tryd.ntmps27
    go_wp2
    go_loopg [5, 6] 65 (fun kq v5 v6 w' => ∃ d i x : Nat, kq = d + 1 ∧ d + i = 64 ∧ v5 = .int .u64 (x : Int) ∧ v6 = .int .i64 (i : Int) ∧ x < 18446744073709551616 ∧ heldA n v d i x = r ∧ Drawn0 w w')
    case atStart => exact ⟨64, 0, 0, rfl, rfl, rfl, rfl, by decide, hr, by repeat (first | exact Drawn0.refl _ | apply Drawn0.step)⟩
    case round =>
      clear hr
      obtain ⟨d, i, x, rfl, hdi, rfl, rfl, hx, hf, ⟨m1, rfl⟩⟩ := hrel
      cases d with
      | zero =>
        have h2 : decide ((i : Int) < 64) = false := decide_eq_false (by omega)
        unfold heldA at hf
        subst hf
        go_wp2
        go_ret
        exact ⟨by first | rfl | (simp; done) | (simp [*]; done), by repeat (first | exact Drawn0.refl _ | apply Drawn0.step)⟩
      | succ d =>
        have h2 : decide ((i : Int) < 64) = true := decide_eq_true (by omega)
        have h3 : decide (0 ≤ (i : Int)) = true := decide_eq_true (by omega)
        have hw : wrap64 ((i : Int) + 1) = ((i + 1 : Nat) : Int) := by unfold wrap64; omega
        have e5 : d + (i + 1) = 64 := by omega
        have hc := cell46 hI i (by omega)
        have hi64 : i < 64 := by omega
        unfold heldA at hf
        have hv_ := hv.out
        by_cases hb : own n i = v
        · rw [if_pos hb] at hf
          rw [hb] at hc
          have hu : IntKind.u64.wrap (i : Int) = (i : Int) := wr64 _ (by omega) (by omega)
          have hsh : IntKind.u64.wrap ((2 : Int) ^ i) = ((2 ^ i : Nat) : Int) := by
            have := shl_eq hi64
            unfold shl at this
            rw [Int.toNat_natCast, show min i IntKind.u64.bits = i from Nat.min_eq_left (show i ≤ 64 by omega), Int.one_mul] at this
            exact this
          have ho := orN x (2 ^ i) hx (two_lt hi64)
          have hl := or_lt hx (two_lt hi64)
          have hmin : min i 64 = i := Nat.min_eq_left (by omega)
          have hp2 : (((2 ^ i : Nat)) : Int) = (2 : Int) ^ i := by norm_cast
          have ho2 := ho
          rw [hp2] at ho2
          have hsh2 := hsh
          rw [hp2] at hsh2
          go_wp2
          go_roundg (d + 1)
          case measure => exact Nat.lt_succ_self _
          case rel => exact ⟨d, i + 1, x ||| 2 ^ i, rfl, e5, by first | rfl | (simp only [hu, Int.toNat_natCast, hmin, Int.one_mul, hsh, ho]; done) | (simp [hu, hmin, hsh2, ho2]; done), by first | rfl | (rw [hw]; done) | (simp [hw]; done) | (simp [*]; done), hl, hf, by repeat (first | exact Drawn0.refl _ | apply Drawn0.step)⟩
        · rw [if_neg hb] at hf
          have hq : (own n i == v) = false := by simpa using hb
          go_wp2
          go_roundg (d + 1)
          case measure => exact Nat.lt_succ_self _
          case rel => exact ⟨d, i + 1, x, rfl, e5, by first | rfl | (simp; done) | (simp [*]; done), by first | rfl | (rw [hw]; done) | (simp [hw]; done) | (simp [*]; done), hx, hf, by repeat (first | exact Drawn0.refl _ | apply Drawn0.step)⟩
theorem taskmasterref18_Cache_Held.calls (g : Nat) (s0_0 : Int) (a1 : Int) (r1 : Int) (r2 : Int) (w0 w : World) (hI : IsS46 w0 w g s0_0) (hB : Below w0.heap.size w0 w) (h : taskmasterref18_Cache_Held.f s0_0 a1 = some (r1, r2)) :
    Calls Tryd.prog 27 #[.pointer (some ⟨g, 0, none⟩), .int .i64 a1] w fun e w' => e = .returned (.int .u64 r1) ∧ IsS46 w0 w' g r2 ∧ Below w0.heap.size w0 w' ∧ KeepBut w w' g none := by
  simp only [taskmasterref18_Cache_Held.f, Option.some.injEq, Prod.mk.injEq] at h
  obtain ⟨rfl, rfl⟩ := h
  exact (refHeld g s0_0 a1 w0 w hI).mono (fun e w' ⟨he, hd⟩ => ⟨he, drawn46 hI hB hd⟩)
set_option maxHeartbeats 8000000 in
theorem taskmasterref18_Cache_Lost.calls (g : Nat) (s0_0 : Int) (a1 a2 : Int) (r1 : Int) (r2 : Int) (w0 w : World) (hI : IsS46 w0 w g s0_0) (hB : Below w0.heap.size w0 w) (h : taskmasterref18_Cache_Lost.f s0_0 a1 a2 = some (r1, r2)) :
    Calls Tryd.prog 29 #[.pointer (some ⟨g, 0, none⟩), .int .i64 a1, .int .u64 a2] w fun e w' => e = .returned (.int .u64 r1) ∧ IsS46 w0 w' g r2 ∧ Below w0.heap.size w0 w' ∧ KeepBut w w' g none := by
  simp only [taskmasterref18_Cache_Lost.f, Option.some.injEq, Prod.mk.injEq] at h
  obtain ⟨rfl, rfl⟩ := h
  refine Calls.mono (R := fun e w' => e = .returned (.int .u64 (Go.bits .andNot .u64 a2 (heldT s0_0 a1))) ∧ Drawn0 w w') ?_ (fun e w' ⟨he, hd⟩ => ⟨he, drawn46 hI hB hd⟩)
  have hH := fun W hI' => refHeld g s0_0 a1 w0 W hI'
  generalize heldT s0_0 a1 = r at hH ⊢
  go_enter Tryd.func29, Tryd.ntmps29
  go_wp2_with (go_at_call 27; (refine (hH _ (by repeat (first | exact hI | apply IsS46.drewN | apply IsS46.drew))).mono ?_); rintro e w1 ⟨rfl, nd, rfl⟩)
  go_ret
  exact ⟨by first | rfl | (simp; done) | (simp [*]; done), by repeat (first | exact Drawn0.refl _ | apply Drawn0.step)⟩
theorem idx_own (n : Int) (i : Nat) (hi : i < 64) (w : World) : (Instr.index 44 (.agg (icells n)) (.int .i64 (i : Int))).run Tryd.prog w = .ok (.int .i64 (own n i)) w := by
  have hd : 0 ≤ (i : Int) ∧ (i : Int) < 64 := by omega
  have hg := icells_get n i hi
  have hs : (Tryd.prog.info? 3).map (fun x => x.size) = some 1 := by kernel_rfl
  cases hq : Tryd.prog.info? 3 with
  | none => rw [hq] at hs; cases hs
  | some q =>
    have hz : q.size = 1 := by rw [hq] at hs; simpa using hs
    have hi2 : (i : Int).toNat * q.size = i := by rw [hz]; simp
    simp [Instr.index, run_underlying Tryd.underlying44, asIntOf, hd, part, isAgg, run_underlying Tryd.underlying3, sizeOf, typeInfo, hq, hz, Sem.run_bind, hg, go_sem]
    intro h_; omega
set_option maxHeartbeats 8000000 in
theorem codHeld (g : Nat) (n t : Int) (w0 w : World) (hI : IsS63 w0 w g n) (hB : Below w0.heap.size w0 w) :
    Calls Tryd.prog 26 #[.pointer (some ⟨g, 0, none⟩), .int .i64 t] w fun e w' => e = .returned (.int .u64 (heldT n t)) ∧ IsS63 w0 w' g n ∧ Below w0.heap.size w0 w' ∧ KeepBut w w' g none := by
  unfold heldT
  by_cases ht : t < 0
  · rw [if_pos ht]
    have h1 : decide (t < 0) = true := decide_eq_true ht
    refine Calls.mono (R := fun e w' => e = .returned (.int .u64 0) ∧ Drawn0 w w') ?_ (fun e w' ⟨he, hd⟩ => ⟨he, drawn63 hI hB hd⟩)
    go_enter Tryd.func26, Tryd.ntmps26
    go_wp2
    go_ret
    exact ⟨by first | rfl | (simp; done) | (simp [*]; done), by repeat (first | exact Drawn0.refl _ | apply Drawn0.step)⟩
  · rw [if_neg ht]
    have h1 : decide (t < 0) = false := decide_eq_false ht
    generalize hv : wrap64 (t + 1) = v
    replace hv := Aside0.mk hv
    generalize hr : heldA n v 64 0 0 = r
    go_enter Tryd.func26, Tryd.ntmps26
    go_wp2_with (first | ((with_reducible refine gate_dst (N := 17) rfl ?_); refine wpList_load_row rfl 44 _ rfl g rfl 63 (icells n) (0, 0) _ (by first | exact hI.1 | exact (IsS63.drew hI).1 | exact (IsS63.drewN hI _).1) Tryd.underlying44 rfl (by kernel_rfl) ?_))
    go_loopg [5, 18] 65 (fun kq v5 v18 w' => ∃ d i x : Nat, kq = d + 1 ∧ d + i = 64 ∧ v5 = .int .u64 (x : Int) ∧ v18 = .int .i64 (i : Int) ∧ x < 18446744073709551616 ∧ heldA n v d i x = r ∧ IsS63 w0 w' g n ∧ Below w0.heap.size w0 w' ∧ KeepBut w w' g none)
    case atStart => exact ⟨64, 0, 0, rfl, rfl, rfl, rfl, by decide, hr, by repeat (first | exact hI | apply IsS63.drewN | apply IsS63.drew), by repeat (first | exact hB | apply pw_below_drewN | apply below_drew1), by repeat (first | exact KeepBut.refl _ _ _ | apply keep_drewN | apply keep_drew)⟩
    case round =>
      clear hr hI hB
      obtain ⟨d, i, x, rfl, hdi, rfl, rfl, hx, hf, hI, hB, hK⟩ := hrel
      cases d with
      | zero =>
        have h2 : decide ((i : Int) < 64) = false := decide_eq_false (by omega)
        unfold heldA at hf
        subst hf
        go_wp2
        go_ret
        exact ⟨by first | rfl | (simp; done) | (simp [*]; done), by repeat (first | exact hI | apply IsS63.drewN | apply IsS63.drew), by repeat (first | exact hB | apply pw_below_drewN | apply below_drew1), by repeat (first | exact hK | apply keep_drewN | apply keep_drew)⟩
      | succ d =>
        have h2 : decide ((i : Int) < 64) = true := decide_eq_true (by omega)
        have h3 : decide (0 ≤ (i : Int)) = true := decide_eq_true (by omega)
        have hw : wrap64 ((i : Int) + 1) = ((i + 1 : Nat) : Int) := by unfold wrap64; omega
        have e5 : d + (i + 1) = 64 := by omega
        have hi64 : i < 64 := by omega
        have hg := idx_own n i hi64
        unfold heldA at hf
        have hv_ := hv.out
        by_cases hb : own n i = v
        · rw [if_pos hb] at hf
          rw [hb] at hg
          obtain ⟨k0, hk0⟩ := of_ev [(i : Int)] (by simp)
          have hk := hk0 k0 (Nat.le_refl _)
          rw [ofL_one, if_pos (show 0 ≤ (i : Int) ∧ (i : Int) < 64 by omega), Int.toNat_natCast] at hk
          have ho := orN x (2 ^ i) hx (two_lt hi64)
          have hl := or_lt hx (two_lt hi64)
          have hp2 : (((2 ^ i : Nat)) : Int) = (2 : Int) ^ i := by norm_cast
          have ho2 := ho
          rw [hp2] at ho2
          go_wp2_with (go_at_call 31; (refine (of_one _ _ _ _ hk).mono ?_); rintro e w1 ⟨rfl, nd, rfl⟩)
          go_roundg (d + 1)
          case measure => exact Nat.lt_succ_self _
          case rel => exact ⟨d, i + 1, x ||| 2 ^ i, rfl, e5, by first | rfl | (simp only [ho]; done) | (simp [ho2]; done), by first | rfl | (rw [hw]; done) | (simp [hw]; done) | (simp [*]; done), hl, hf, by repeat (first | exact hI | apply IsS63.drewN | apply IsS63.drew | apply IsS63.alloc), by repeat (first | exact hB | apply pw_below_drewN | apply below_drew1 | apply below_alloc), by repeat (first | exact hK | apply keep_drewN | apply keep_drew | apply keep_alloc)⟩
        · rw [if_neg hb] at hf
          have hq : (own n i == v) = false := by simpa using hb
          go_wp2
          go_roundg (d + 1)
          case measure => exact Nat.lt_succ_self _
          case rel => exact ⟨d, i + 1, x, rfl, e5, by first | rfl | (simp; done) | (simp [*]; done), by first | rfl | (rw [hw]; done) | (simp [hw]; done) | (simp [*]; done), hx, hf, by repeat (first | exact hI | apply IsS63.drewN | apply IsS63.drew), by repeat (first | exact hB | apply pw_below_drewN | apply below_drew1), by repeat (first | exact hK | apply keep_drewN | apply keep_drew)⟩
theorem cache_Cache_Held.calls (g : Nat) (s0_0 : Int) (a1 : Int) (r1 : Int) (r2 : Int) (w0 w : World) (hI : IsS63 w0 w g s0_0) (hB : Below w0.heap.size w0 w) (h : cache_Cache_Held.f s0_0 a1 = some (r1, r2)) :
    Calls Tryd.prog 26 #[.pointer (some ⟨g, 0, none⟩), .int .i64 a1] w fun e w' => e = .returned (.int .u64 r1) ∧ IsS63 w0 w' g r2 ∧ Below w0.heap.size w0 w' ∧ KeepBut w w' g none := by
  simp only [cache_Cache_Held.f, Option.some.injEq, Prod.mk.injEq] at h
  obtain ⟨rfl, rfl⟩ := h
  exact codHeld g s0_0 a1 w0 w hI hB
set_option maxHeartbeats 8000000 in
theorem cache_Cache_Lost.calls (g : Nat) (s0_0 : Int) (a1 a2 : Int) (r1 : Int) (r2 : Int) (w0 w : World) (hI : IsS63 w0 w g s0_0) (hB : Below w0.heap.size w0 w) (h : cache_Cache_Lost.f s0_0 a1 a2 = some (r1, r2)) :
    Calls Tryd.prog 28 #[.pointer (some ⟨g, 0, none⟩), .int .i64 a1, .int .u64 a2] w fun e w' => e = .returned (.int .u64 r1) ∧ IsS63 w0 w' g r2 ∧ Below w0.heap.size w0 w' ∧ KeepBut w w' g none := by
  simp only [cache_Cache_Lost.f, Option.some.injEq, Prod.mk.injEq] at h
  obtain ⟨rfl, rfl⟩ := h
  have hH := fun W hI' hB' => codHeld g s0_0 a1 w0 W hI' hB'
  generalize heldT s0_0 a1 = r at hH ⊢
  go_enter Tryd.func28, Tryd.ntmps28
  go_wp2_with (go_at_call 26; (refine (hH _ (by repeat (first | exact hI | apply IsS63.drewN | apply IsS63.drew)) (by repeat (first | exact hB | apply pw_below_drewN | apply below_drew1))).mono ?_); rintro e w1 ⟨rfl, hi, hb, hk⟩)
  go_ret
  exact ⟨by first | rfl | (simp; done) | (simp [*]; done), by repeat (first | exact hi | apply IsS63.drewN | apply IsS63.drew), by repeat (first | exact hb | apply pw_below_drewN | apply below_drew1), by repeat (first | exact hk | apply keep_drewN | apply keep_drew)⟩
def tfold (v : Int) : Int → List Int → Int
  | n, [] => n
  | n, x :: l => tfold v (upd n x.toNat v) l
theorem tfold_list (v : Int) (s : Nat) : ∀ (d i : Nat) (n : Int), tfold v n (listFrom s d i) = touchA v s d i n
  | 0, i, n => rfl
  | d + 1, i, n => by
    unfold listFrom touchA
    by_cases h : s.testBit i = true
    · rw [if_pos h, if_pos h]
      show tfold v (upd n ((i : Int)).toNat v) _ = _
      rw [Int.toNat_natCast]; exact tfold_list v s d (i + 1) _
    · rw [if_neg h, if_neg h]; exact tfold_list v s d (i + 1) n
theorem list_mem (s : Nat) : ∀ (d i : Nat) (x : Int), x ∈ listFrom s d i → 0 ≤ x ∧ x < ((i + d : Nat) : Int)
  | 0, i, x, h => by cases h
  | d + 1, i, x, h => by
    unfold listFrom at h
    split at h
    · rcases List.mem_cons.mp h with rfl | h
      · omega
      · have := list_mem s d (i + 1) x h; omega
    · have := list_mem s d (i + 1) x h; omega
set_option maxHeartbeats 8000000 in
theorem cache_Cache_Touch.calls (g : Nat) (s0_0 : Int) (a1 a2 : Int) (r1 : Bool) (r2 : Int) (w0 w : World) (hI : IsS63 w0 w g s0_0) (hB : Below w0.heap.size w0 w) (hT : TabW w0) (h : cache_Cache_Touch.f s0_0 a1 a2 = some (r1, r2)) :
    Calls Tryd.prog 22 #[.pointer (some ⟨g, 0, none⟩), .int .i64 a1, .int .u64 a2] w fun e w' => e = .returned (.bool r1) ∧ IsS63 w0 w' g r2 ∧ Below w0.heap.size w0 w' ∧ KeepBut w w' g none := by
  unfold cache_Cache_Touch.f at h
  by_cases hs : 0 ≤ a2 ∧ a2 < 18446744073709551616
  · rw [if_pos hs] at h
    simp only [Option.some.injEq, Prod.mk.injEq] at h
    obtain ⟨rfl, rfl⟩ := h
    obtain ⟨s, rfl⟩ := Int.eq_ofNat_of_zero_le hs.1
    have hs' : s < 18446744073709551616 := by omega
    clear hs
    unfold touchT
    by_cases ht : a1 < 0
    · have h1 : decide (a1 < 0) = true := decide_eq_true ht
      rw [if_pos ht, decide_eq_false (show ¬ 0 ≤ a1 by omega)]
      refine Calls.mono (R := fun e w' => e = .returned (.bool false) ∧ Drawn0 w w') ?_ (fun e w' ⟨he, hd⟩ => ⟨he, drawn63 hI hB hd⟩)
      go_enter Tryd.func22, Tryd.ntmps22
      go_wp2
      go_ret
      exact ⟨by first | rfl | (simp; done) | (simp [*]; done), by repeat (first | exact Drawn0.refl _ | apply Drawn0.step)⟩
    · have h1 : decide (a1 < 0) = false := decide_eq_false ht
      rw [if_neg ht, decide_eq_true (show 0 ≤ a1 by omega), Int.toNat_natCast]
      generalize hv : wrap64 (a1 + 1) = v
      have hvw : wrap64 v = v := by rw [← hv]; unfold wrap64; omega
      rw [← tfold_list]
      obtain ⟨k0, hk0⟩ := blist_ev hs'
      have hk := hk0 k0 (Nat.le_refl _)
      have hm := list_mem s 64 0
      have hlen := listFrom_le s 64 0
      generalize listFrom s 64 0 = l at hk hm hlen ⊢
      generalize hr : tfold v s0_0 l = r
      replace hv := Aside0.mk hv
      replace hvw := Aside0.mk hvw
      clear hk0
      have hTw := TabW.below hT hB
      go_enter Tryd.func22, Tryd.ntmps22
      go_wp2_with (go_at_call 34; (refine (bits_List.calls k0 _ l _ (by first | exact hTw | exact TabW.below hTw (by repeat (first | exact Below.refl _ _ | apply pw_below_drewN | apply below_drew1))) hk).mono ?_); rintro e w1 ⟨v0, rfl, ho, hb⟩; obtain ⟨Ao, co, eo⟩ := Kd.R_slice ho; subst eo)
      have hI1 : IsS63 w0 w1 g s0_0 := IsS63.below (by repeat (first | exact hI | apply IsS63.drewN | apply IsS63.drew)) hb
      have hB1 : Below w0.heap.size w0 w1 := below_step (by repeat (first | exact hB | apply pw_below_drewN | apply below_drew1)) hb
      have hK1 : KeepBut w w1 g none := KeepBut.of_below hb g none
      have hA := IsS63.apart hI1 ho (by decide)
      go_loopg [18] (l.length + 1) (fun kq v18 w' => ∃ (d j : Nat) (m : Int), kq = d + 1 ∧ j + d = l.length ∧ v18 = .int .i64 (j : Int) ∧ tfold v m (l.drop j) = r ∧ IsS63 w0 w' g m ∧ Below w0.heap.size w0 w' ∧ KeepBut w1 w' g none)
      case atStart => exact ⟨l.length, 0, s0_0, rfl, by omega, rfl, hr, by repeat (first | exact hI1 | apply IsS63.drewN | apply IsS63.drew), by repeat (first | exact hB1 | apply pw_below_drewN | apply below_drew1), by repeat (first | exact KeepBut.refl _ _ _ | apply keep_drewN | apply keep_drew)⟩
      case round =>
        clear hI hB hI1 hB1 hr
        obtain ⟨d, j, m, rfl, hdj, rfl, hf, hI, hB, hK⟩ := hrel
        cases d with
        | zero =>
          have h2 : decide ((j : Int) < (l.length : Int)) = false := decide_eq_false (by omega)
          rw [List.drop_eq_nil_of_le (by omega)] at hf
          have hf2 : m = r := hf
          subst hf2
          go_wp2
          go_ret
          exact ⟨by first | rfl | (simp; done) | (simp [*]; done), by repeat (first | exact hI | apply IsS63.drewN | apply IsS63.drew), by repeat (first | exact hB | apply pw_below_drewN | apply below_drew1), KeepBut.trans hK1 (by repeat (first | exact hK | apply keep_drewN | apply keep_drew)) (.inl rfl)⟩
        | succ d =>
          have hjl : j < l.length := by omega
          have h2 : decide ((j : Int) < (l.length : Int)) = true := decide_eq_true (by omega)
          have h3 : decide (0 ≤ (j : Int)) = true := decide_eq_true (by omega)
          have hw : wrap64 ((j : Int) + 1) = ((j + 1 : Nat) : Int) := by unfold wrap64; omega
          have e5 : j + 1 + d = l.length := by omega
          have hx := hm (rd l (j : Int)) (List.mem_of_mem_drop (i := j) (by rw [rd_drop hjl]; exact List.mem_cons_self))
          rw [rd_drop hjl] at hf
          have HC := (Kd.R_reads' (Kd.R_keep hA hK (fun _ h => h.2))).2.2
          have p1 : 0 ≤ (j : Int) := by omega
          have q1 : (j : Int) < (l.length : Int) := by omega
          obtain ⟨ad, ead, hxa⟩ := Kd.at_int HC (j : Int) p1 q1
          cases ead
          rw [Int.toNat_natCast] at hxa
          generalize rd l (j : Int) = x at hx hf hxa
          obtain ⟨i, rfl⟩ := Int.eq_ofNat_of_zero_le hx.1
          have hi64 : i < 64 := by omega
          have hf2 : tfold v (upd m i v) (l.drop (j + 1)) = r := by rw [← hf]; show _ = tfold v (upd m (i : Int).toNat v) _; rw [Int.toNat_natCast]
          have h5 : decide (0 ≤ (i : Int)) = true := decide_eq_true (by omega)
          have h6 : decide ((i : Int) < 64) = true := decide_eq_true (by omega)
          have hz := blk_frozen hI.1 i
          have hc := cell63 hI i hi64
          have hn := IsS63.setA hI i hi64 v hvw.out
          have hv_ := hv.out
          replace p1 := eq_true p1
          replace q1 := eq_true q1
          go_wp2
          go_roundg (d + 1)
          case measure => exact Nat.lt_succ_self _
          case rel => exact ⟨d, j + 1, upd m i v, rfl, e5, by first | rfl | (rw [hw]; done) | (simp [hw]; done) | (simp [*]; done), hf2, by repeat (first | exact hn | apply IsS63.drewN | apply IsS63.drew | (rw [hv_])), by repeat (first | (with_reducible first | exact hB | apply pw_below_drewN | apply below_drew1 | refine below_set ?_ (IsS63.ge hI)) | exact hB), by repeat (first | (with_reducible first | exact hK | apply KeepBut.set_ | apply keep_drewN | apply keep_drew) | exact hK)⟩
  · rw [if_neg hs] at h; cases h
end Go.Proofs.YtapncdhemhnphaaDoor.QCa

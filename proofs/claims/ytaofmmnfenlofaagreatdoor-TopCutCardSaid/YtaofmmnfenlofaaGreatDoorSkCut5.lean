/- What is proved: contracts and plain facts on the way to the row RowTopCut, and, in the last text, the row itself; conditions as each theorem names them. -/
import Derived.StillTailTactics
import Derived.RegionTactic
import Derived.Deep.RegionHeld3
import Derived.Outline
import Derived.OwnWalk
import Derived.Deep.AppendLies
import Derived.Test.YtaofmmnfenlofaaGreatDoorSkCut1
import Derived.Test.YtaofmmnfenlofaaGreatDoorSkCut2
import Derived.Test.YtaofmmnfenlofaaGreatDoorSkCut3
import Derived.Test.YtaofmmnfenlofaaGreatDoorSkCut4
namespace Go.Proofs.YtaofmmnfenlofaaGreatDoor.QTc
open Go.RowKit Go.Proofs.YtaofmmnfenlofaaGreatDoorW.PrintWords Go.Proofs.YtaofmmnfenlofaaGreatDoorW.PrintLast Go.Proofs.YtaofmmnfenlofaaGreatDoorW.PrintMore
set_option linter.unusedVariables false
set_option linter.unusedSimpArgs false
attribute [local go_sem] max2_int min2_int max_two min_two
section
variable (w : World) (rl : Int) (A : Option Addr) (c n : Nat)
set_option maxHeartbeats 4000000 in
set_option maxRecDepth 100000 in
theorem loads_zero (hn : 1 ≤ n) (hc : n ≤ c) : Calls Tryz.prog 66 #[.agg #[.int .i64 rl, .slice A n c], .int .i64 0] w (Gives w (.slice none 0 0)) := by
  have hu24 := Tryz.underlying24
  have j2 : decide ((n : Int) ≤ 0) = false := decide_eq_false (by omega)
  have hcut : ∀ W : World, (Instr.slice 22 (.slice A n c) none (some (.int .i64 0)) none).run Tryz.prog W = .ok (.slice A 0 c) W := fun W => by
    obtain ⟨i, hi, _⟩ := Option.map_eq_some_iff.1 (show (Tryz.prog.info? 46).map (fun i => i.size) = some 9 by kernel_rfl)
    exact cut_to (P := Tryz.prog) 22 46 .i64 Tryz.underlying22 hi A n c 0 (Int.le_refl 0) (by omega) hc W
  have hb0 : Below w.heap.size w (w.alloc (.cells #[.int .i64 rl, .slice A n c] 24)) := Below.alloc (Below.refl _ _) (Nat.le_refl _) _
  replace hb0 := Aside0.mk hb0
  go_enter Tryz.func66, Tryz.ntmps66
  go_upto_region 5 with fail
  go_loopg [5, 26] 1 (fun kq v5 v26 w' => v5 = .slice none 0 0 ∧ v26 = .int .i64 0 ∧ w' = w.alloc (.cells #[.int .i64 rl, .slice A n c] 24))
  case atStart => exact ⟨rfl, rfl, rfl⟩
  case round =>
    obtain ⟨rfl, rfl, rfl⟩ := hrel
    go_wp2
    go_ret
    exact ⟨rfl, hb0.out⟩
theorem blockOf_zero (low high : Int) (h0 : 0 ≤ high) (h1 : low ≤ high) : Calls Tryz.prog 68 #[.agg #[.int .i64 rl, .slice A n c], .int .i64 low, .int .i64 high] w (Gives w (.int .i64 0)) := by
  have hu24 := Tryz.underlying24
  have j1 : decide (high < 0) = false := decide_eq_false (by omega)
  have j2 : decide (low ≤ high) = true := decide_eq_true h1
  have hb0 : Below w.heap.size w (w.alloc (.cells #[.int .i64 rl, .slice A n c] 24)) := Below.alloc (Below.refl _ _) (Nat.le_refl _) _
  replace hb0 := Aside0.mk hb0
  go_enter Tryz.func68, Tryz.ntmps68
  go_wp2
  go_ret
  exact ⟨rfl, hb0.out⟩
theorem most_one : Calls Tryz.prog 36 #[.agg #[.int .i64 rl, .slice A 1 c], .int .i64 0] w (Gives w (.int .i64 0)) := by
  have hu24 := Tryz.underlying24
  have hb0 : Below w.heap.size w (w.alloc (.cells #[.int .i64 rl, .slice A 1 c] 24)) := Below.alloc (Below.refl _ _) (Nat.le_refl _) _
  have cb0 : (w.alloc (.cells #[.int .i64 rl, .slice A 1 c] 24)).cell? ⟨w.heap.size, 0, none⟩ = some (.int .i64 rl) := (blk_cell (heap_alloc_new w _) 0).trans rfl
  have cb1 : (w.alloc (.cells #[.int .i64 rl, .slice A 1 c] 24)).cell? ⟨w.heap.size, 1, none⟩ = some (.slice A 1 c) := (blk_cell (heap_alloc_new w _) 1).trans rfl
  have HOF := Aside0.mk (fun W => blockOf_zero W rl A c 1 0 0 (Int.le_refl 0) (Int.le_refl 0))
  replace hb0 := Aside0.mk hb0
  go_enter Tryz.func36, Tryz.ntmps36
  go_upto_region 3 with fail
  go_loopg [5, 10] 2 (fun kq v5 v10 w' => v5 = .int .i64 0 ∧ (kq = 2 ∧ v10 = .int .i64 0 ∨ kq = 1 ∧ v10 = .int .i64 1) ∧ Aside0 (Below (w.alloc (.cells #[.int .i64 rl, .slice A 1 c] 24)).heap.size (w.alloc (.cells #[.int .i64 rl, .slice A 1 c] 24)) w'))
  case atStart => exact ⟨rfl, Or.inl ⟨rfl, rfl⟩, ⟨Below.refl _ _⟩⟩
  case round =>
    obtain ⟨rfl, hr, HB⟩ := hrel
    have x0 := pw_cell_below HB.out cb0
    have x1 := pw_cell_below HB.out cb1
    rcases hr with ⟨rfl, rfl⟩ | ⟨rfl, rfl⟩
    · go_wp2_with (go_at_call 68; (with_reducible refine (HOF.out _).mono ?_); rintro e w2 ⟨rfl, hb2⟩; have HB2 := Aside0.mk (below_step HB.out hb2))
      go_roundg 1
      case measure => exact Nat.lt_succ_self _
      case rel => exact ⟨rfl, Or.inr ⟨rfl, rfl⟩, HB2⟩
    · go_wp2
      go_ret
      exact ⟨rfl, hb0.out.trans (HB.out.mono hb0.out.size)⟩
end
theorem respOf_calls (w : World) (rl : Int) (A : Option Addr) (c n : Nat) (i b r how : Int)
    (hm : ∀ W, Below w.heap.size w W → Calls Tryz.prog 36 #[.agg #[.int .i64 rl, .slice A n c], .int .i64 i] W (Gives W (.int .i64 b)))
    (hw : ∀ W, Below w.heap.size w W → Calls Tryz.prog 35 #[.agg #[.int .i64 rl, .slice A n c], .int .i64 i, .int .i64 b] W (Gives W (.tuple #[.int .i64 r, .int .i64 how]))) :
    Calls Tryz.prog 21 #[.agg #[.int .i64 rl, .slice A n c], .int .i64 i] w (Gives w (.tuple #[.int .i64 r, .int .i64 how])) := by
  have hu24 := Tryz.underlying24
  have hb0 : Below w.heap.size w (w.alloc (.cells #[.int .i64 rl, .slice A n c] 24)) := Below.alloc (Below.refl _ _) (Nat.le_refl _) _
  have cb0 : (w.alloc (.cells #[.int .i64 rl, .slice A n c] 24)).cell? ⟨w.heap.size, 0, none⟩ = some (.int .i64 rl) := (blk_cell (heap_alloc_new w _) 0).trans rfl
  have cb1 : (w.alloc (.cells #[.int .i64 rl, .slice A n c] 24)).cell? ⟨w.heap.size, 1, none⟩ = some (.slice A n c) := (blk_cell (heap_alloc_new w _) 1).trans rfl
  replace hb0 := Aside0.mk hb0
  have HM := Aside0.mk hm
  have HW := Aside0.mk hw
  clear hm hw
  go_enter Tryz.func21, Tryz.ntmps21
  go_upto_region 1 with fail
  generalize hbx : w.heap.size = bx at cb0 cb1 ⊢
  generalize (w.alloc (.cells #[.int .i64 rl, .slice A n c] 24)) = W0 at hb0 cb0 cb1 ⊢
  have HS : Aside0 (∀ W, Below W0.heap.size W0 W → W.cell? ⟨bx, 0, none⟩ = some (.int .i64 rl) ∧ W.cell? ⟨bx, 1, none⟩ = some (.slice A n c)) := ⟨fun W h => ⟨pw_cell_below h cb0, pw_cell_below h cb1⟩⟩
  have hA : Aside0 (Below W0.heap.size W0 W0.drew) := ⟨below_drew (Below.refl _ _)⟩
  go_region_held3 (fun W => W.cell? ⟨bx, 0, none⟩ = some (.int .i64 rl) ∧ W.cell? ⟨bx, 1, none⟩ = some (.slice A n c)) (first | (with_reducible exact HS.out _ HB.out) | (with_reducible exact HS.out _ hA.out))
    ((first | (go_at_call 36; (with_reducible refine (HM.out _ (hb0.out.trans (hA.out.mono hb0.out.size))).mono ?_); rintro e w5 ⟨rfl, hb5⟩; have HB := Aside0.mk (below_step hA.out hb5); clear hb5) | (go_at_call 35; (with_reducible refine (HW.out _ (hb0.out.trans (HB.out.mono hb0.out.size))).mono ?_); rintro e w6 ⟨rfl, hb6⟩; have HB2 := Aside0.mk (below_step HB.out hb6); clear hb6 HB; have HB := HB2; clear HB2)))
  all_goals
    go_wp2
    go_ret2
    exact ⟨by first | rfl | (simp; done), hb0.out.trans (HB.out.mono hb0.out.size)⟩
theorem row3_set {W : World} {g t : Nat} {a b c : Value} (h : W.heap[g]? = some (.cells #[a, b, c] t (0, 0))) (v0 v1 v2 : Value) : (((W.setCell ⟨g, 0, none⟩ v0).setCell ⟨g, 1, none⟩ v1).setCell ⟨g, 2, none⟩ v2).heap[g]? = some (.cells #[v0, v1, v2] t (0, 0)) := by
  have := blk_set (blk_set (blk_set h 0 v0) 1 v1) 2 v2
  simpa using this
def judgeL : List (Int × Int) → Nat → List Int → Int × Int × List Int
  | [], i, acc => (1, 0, acc)
  | (r, h) :: l, i, acc => if h = 1 then judgeL l (i + 1) (acc ++ [r]) else (h, (i : Int), [])
structure JI (w : World) (rl : Int) (A : Option Addr) (c n B V : Nat) (acc : List Int) (v : Value) (X : World) : Prop where
  set : X.heap[w.heap.size]? = some (.cells #[.int .i64 rl, .slice A n c] 24 (0, 0))
  res : X.heap[B]? = some (.cells #[.int .i64 0, .int .i64 0, .slice none 0 0] 30 (0, 0))
  ver : X.heap[V]? = some (.cells #[.int .i64 1, .int .i64 0, v] 30 (0, 0))
  row : Kd.R (Kd.int .i64) 2 X w.heap.size (fun _ => True) v acc
  hB : Below w.heap.size w X
  ge : w.heap.size ≤ B ∧ w.heap.size ≤ V ∧ B ≠ V
theorem JI.below {w X X' : World} {rl : Int} {A : Option Addr} {c n B V : Nat} {acc : List Int} {v : Value} (h : JI w rl A c n B V acc v X) (hb : Below X.heap.size X X') : JI w rl A c n B V acc v X' :=
  ⟨(hb.block _ (blk_lt h.set)).trans h.set, (hb.block _ (blk_lt h.res)).trans h.res, (hb.block _ (blk_lt h.ver)).trans h.ver, Kd.R_below h.row hb, h.hB.trans (hb.mono h.hB.size), h.ge⟩
theorem JI.next {w X X' : World} {rl : Int} {A : Option Addr} {c n B V : Nat} {acc acc' : List Int} {v v' : Value} (h : JI w rl A c n B V acc v X) (hR : Kd.R (Kd.int .i64) 2 X' w.heap.size (fun _ => True) v' acc') (hB : Below w.heap.size w X') (hg : X.grownBy X' v.ownBlock) :
    X'.heap[V]? = some (.cells #[.int .i64 1, .int .i64 0, v] 30 (0, 0)) ∧ JI w rl A c n B V acc' v' (X'.setCell ⟨V, 2, none⟩ v') := by
  have h1 := blk_grown h.set hg (Kd.R_ne h.row h.set (by decide))
  have h2 := blk_grown h.res hg (Kd.R_ne h.row h.res (by decide))
  have h3 := blk_grown h.ver hg (Kd.R_ne h.row h.ver (by decide))
  refine ⟨h3, blk_far h1 (blk_ne h1 h3 (by decide)) _, blk_far h2 (by show B ≠ V; exact h.ge.2.2) _, ?_, Kd.R_set hR h3 (fun q hq => by rw [List.mem_singleton.mp hq]; decide) _ _, Below.setCell hB h.ge.2.1 _, h.ge⟩
  have := blk_set h3 2 v'
  simpa using this
set_option maxHeartbeats 8000000 in
set_option maxRecDepth 100000 in
theorem judge_calls (w : World) (rl : Int) (A : Option Addr) (c n : Nat) (l : List (Int × Int)) (hl : l.length = n) (hn : n ≤ 8)
    (hall : ∀ W, Below w.heap.size w W → Calls Tryz.prog 20 #[.agg #[.int .i64 rl, .slice A n c]] W fun e w' => e = .returned (.bool true) ∧ Below W.heap.size W w')
    (hof : ∀ W (i : Nat), Below w.heap.size w W → i < n → Calls Tryz.prog 21 #[.agg #[.int .i64 rl, .slice A n c], .int .i64 (i : Int)] W (Gives W (.tuple #[.int .i64 (l.getD i (0, 0)).1, .int .i64 (l.getD i (0, 0)).2]))) :
    Calls Tryz.prog 9 #[.agg #[.int .i64 rl, .slice A n c]] w fun e w' => ∃ v, e = .returned (.tuple #[.agg #[.int .i64 (judgeL l 0 []).1, .int .i64 (judgeL l 0 []).2.1, v], .int .i64 0]) ∧ Kd.R (Kd.int .i64) 2 w' w.heap.size (fun _ => True) v (judgeL l 0 []).2.2 ∧ Below w.heap.size w w' := by
  have hu24 := Tryz.underlying24
  have hu30 := Tryz.underlying30
  obtain ⟨r, hr0⟩ : ∃ r, judgeL l 0 [] = r := ⟨_, rfl⟩
  rw [hr0]
  have HG0 := Aside0.mk hr0
  have HALL := Aside0.mk hall
  have HOF := Aside0.mk hof
  have HN := Aside0.mk (And.intro hl hn)
  clear hr0 hall hof hl hn
  have hb0 : Below w.heap.size w (w.alloc (.cells #[.int .i64 rl, .slice A n c] 24)) := Below.alloc (Below.refl _ _) (Nat.le_refl _) _
  have hX0 := Aside0.mk (heap_alloc_new w (.cells #[.int .i64 rl, .slice A n c] 24))
  replace hb0 := Aside0.mk hb0
  go_enter Tryz.func9, Tryz.ntmps9
  go_upto_region 1 with fail
  have hb1 := Aside0.mk (show Below w.heap.size w ((w.alloc (.cells #[.int .i64 rl, .slice A n c] 24)).alloc (.cells #[.int .i64 0, .int .i64 0, .slice none 0 0] 30)) from Below.alloc hb0.out (by simp) _)
  have hX1 := Aside0.mk (blk_alloc hX0.out (.cells #[.int .i64 0, .int .i64 0, .slice none 0 0] 30))
  have hR1 : ((w.alloc (.cells #[.int .i64 rl, .slice A n c] 24)).alloc (.cells #[.int .i64 0, .int .i64 0, .slice none 0 0] 30)).heap[w.heap.size + 1]? = some (.cells #[.int .i64 0, .int .i64 0, .slice none 0 0] 30 (0, 0)) := by
    have := heap_alloc_new (w.alloc (.cells #[.int .i64 rl, .slice A n c] 24)) (.cells #[.int .i64 0, .int .i64 0, .slice none 0 0] 30)
    simpa using this
  generalize ((w.alloc (.cells #[.int .i64 rl, .slice A n c] 24)).alloc (.cells #[.int .i64 0, .int .i64 0, .slice none 0 0] 30)) = W1 at hb1 hX1 hR1 ⊢
  have hge : w.heap.size ≤ w.heap.size + 1 := Nat.le_succ _
  generalize w.heap.size + 1 = B at hR1 hge ⊢
  have c0 := (blk_cell hX1.out 0).trans rfl
  have c1 := (blk_cell hX1.out 1).trans rfl
  replace hR1 := Aside0.mk hR1
  go_upto_region 4 with (go_at_call 20; (with_reducible refine (HALL.out _ hb1.out).mono ?_); rintro e w2 ⟨rfl, hb2⟩; have HB2 := Aside0.mk hb2)
  have hJ : JI w rl A c n B w2.heap.size [] (.slice none 0 0) (w2.alloc (.cells #[.int .i64 1, .int .i64 0, .slice none 0 0] 30)) := by
    have hal : Below w2.heap.size w2 (w2.alloc (.cells #[.int .i64 1, .int .i64 0, .slice none 0 0] 30)) := Below.alloc (Below.refl _ _) (Nat.le_refl _) _
    have h2 := HB2.out.trans (hal.mono HB2.out.size)
    have hl1 := blk_lt hR1.out
    have hs2 := HB2.out.size
    exact ⟨(h2.block _ (blk_lt hX1.out)).trans hX1.out, (h2.block _ hl1).trans hR1.out, heap_alloc_new _ _, Kd.R_nil _ _ _ _ _, hb1.out.trans (h2.mono hb1.out.size), hge, Nat.le_trans hb1.out.size hs2, by omega⟩
  generalize (w2.alloc (.cells #[.int .i64 1, .int .i64 0, .slice none 0 0] 30)) = W3 at hJ ⊢
  generalize w2.heap.size = V at hJ ⊢
  replace hJ := Aside0.mk hJ
  have c10 := (blk_cell hJ.out.set 1).trans rfl
  clear HB2 hb2 c0 c1
  go_upto_region 5 with fail
  go_loopg [16] (n + 1) (fun kq v16 w' => ∃ (i : Nat) (acc : List Int) (v : Value), v16 = .int .i64 (i : Int) ∧ Aside0 (i ≤ n ∧ kq + i = n + 1 ∧ acc.length = i) ∧ Aside0 (judgeL (l.drop i) i acc = r) ∧ Aside0 (JI w rl A c n B V acc v w'))
  case atStart => exact ⟨0, [], _, rfl, ⟨Nat.zero_le _, by omega, rfl⟩, HG0, hJ⟩
  case round =>
    clear hJ c10
    obtain ⟨i, acc, v, rfl, HI, HG, HJ⟩ := hrel
    obtain ⟨m, rfl⟩ : ∃ m, gk = m + 1 := ⟨gk - 1, by have := HI.out; omega⟩
    have x0 := (blk_cell HJ.out.set 0).trans rfl
    have x1 := (blk_cell HJ.out.set 1).trans rfl
    by_cases hlt : i < n
    · have e1 : decide ((i : Int) < (n : Int)) = true := decide_eq_true (by omega)
      have hlen : i < l.length := by have := HN.out.1; omega
      have hd : l.drop i = l.getD i (0, 0) :: l.drop (i + 1) := by
        rw [List.drop_eq_getElem_cons hlen, List.getD_eq_getElem?_getD, List.getElem?_eq_getElem hlen]; rfl
      have hG := HG.out
      rw [hd] at hG
      have HO := Aside0.mk (HOF.out _ i HJ.out.hB hlt)
      generalize l.getD i (0, 0) = p at hG HO
      obtain ⟨p1, p2⟩ := p
      unfold judgeL at hG
      dsimp only at hG HO
      by_cases hp : p2 = 1
      · rw [if_pos hp] at hG
        have e2 : (p2 != 1) = false := bne_eq_false_iff_eq.mpr hp
        replace hG := Aside0.mk hG
        obtain ⟨A5, c5, rfl⟩ := Kd.R_slice HJ.out.row
        clear hp hd
        go_wp2_with (first | (go_at_call 21; (with_reducible refine HO.out.mono ?_); rintro e w5 ⟨rfl, hb5⟩; have H5 := Aside0.mk (HJ.out.below hb5); have y2 : w5.cell? ⟨V, 2, none⟩ = some (.slice A5 acc.length c5) := blk_cell H5.out.ver 2; clear hb5) | ((with_reducible refine gate_builtin (b := .append) (xs := #[.tmp 31, .tmp 33]) rfl ?_); at_builtin; (refine Kd.R_append (Kd.int .i64) (w0 := w) w.heap.size rfl (.tmp 31) (.tmp 33) 28 2 (.int .i64 0) 8 rfl Tryz.underlying28 info2k rfl (by decide) (by omega) (.slice A5 acc.length c5) acc p1 [.int .i64 p1] (fun _ => True) (fun _ => False) rfl rfl ?aP (fun _ hk => hk.elim) (fun _ _ => trivial) ?aO ?aB ?aS ?aL ?_; (case aP => exact rfl); (case aO => exact H5.out.row); (case aB => exact H5.out.hB); (case aS => exact H5.out.hB.size); (case aL => have := HI.out; have := HN.out; omega); intro v9 w9 hR9 hB9 hg9 hat9; obtain ⟨A9, c9, rfl⟩ := Kd.R_slice hR9; have H9 := Aside0.mk (JI.next H5.out hR9 hB9 hg9); have y9 : w9.cell? ⟨V, 2, none⟩ = some (.slice A5 acc.length c5) := blk_cell H9.out.1 2; have q9 := blk_frozen H9.out.1 2; clear hR9 hB9 hg9 hat9)))
        go_roundg m
        case measure => exact Nat.lt_succ_self _
        case rel => exact ⟨i + 1, acc ++ [p1], .slice A9 (acc.length + 1) c9, by rw [show ((i : Int) + 1) = ((i + 1 : Nat) : Int) by omega, wrap64_id (by omega) (by have := HN.out; omega)], ⟨by omega, by have := HI.out; omega, by rw [List.length_append, HI.out.2.2]; rfl⟩, hG, ⟨by have h := H9.out.2; rw [show (acc ++ [p1]).length = acc.length + 1 by rw [List.length_append]; rfl] at h; exact h⟩⟩
      · rw [if_neg hp] at hG
        have e2 : (p2 != 1) = true := bne_iff_ne.mpr hp
        subst hG
        go_wp2_with (first | (go_at_call 21; (with_reducible refine HO.out.mono ?_); rintro e w5 ⟨rfl, hb5⟩; have H5 := Aside0.mk (HJ.out.below hb5); have r0 := blk_frozen H5.out.res 0; have r1 := blk_frozen H5.out.res 1; have r2 := blk_frozen H5.out.res 2; have v0 := (blk_cell H5.out.res 0).trans rfl; have v1 := (blk_cell H5.out.res 1).trans rfl; have v2 := (blk_cell H5.out.res 2).trans rfl; clear hb5))
        have G := row3_set H5.out.res (.int .i64 p2) (.int .i64 (i : Int)) (.slice none 0 0)
        refine bodyPost_ret (results_ct rfl _ _ B 30 _ (0, 0) _ rfl G Tryz.underlying30 rfl (by kernel_rfl)) rfl ?_
        exact ⟨_, rfl, Kd.R_nil _ _ _ _ _, Below.setCell (Below.setCell (Below.setCell H5.out.hB H5.out.ge.1 _) H5.out.ge.1 _) H5.out.ge.1 _⟩
    · have e1 : decide ((i : Int) < (n : Int)) = false := decide_eq_false (by omega)
      have hG := HG.out
      rw [List.drop_of_length_le (by have := HN.out.1; omega)] at hG
      unfold judgeL at hG
      subst hG
      obtain ⟨A5, c5, rfl⟩ := Kd.R_slice HJ.out.row
      have r0 := blk_frozen HJ.out.res 0
      have r1 := blk_frozen HJ.out.res 1
      have r2 := blk_frozen HJ.out.res 2
      have v0 := (blk_cell HJ.out.res 0).trans rfl
      have v1 := (blk_cell HJ.out.res 1).trans rfl
      have v2 := (blk_cell HJ.out.res 2).trans rfl
      have s0 := (blk_cell HJ.out.ver 0).trans rfl
      have s1 := (blk_cell HJ.out.ver 1).trans rfl
      have s2 := (blk_cell HJ.out.ver 2).trans rfl
      go_wp2
      have G := row3_set HJ.out.res (.int .i64 1) (.int .i64 0) (.slice A5 acc.length c5)
      refine bodyPost_ret (results_ct rfl _ _ B 30 _ (0, 0) _ rfl G Tryz.underlying30 rfl (by kernel_rfl)) rfl ?_
      have b0 := blk_set HJ.out.res 0 (.int .i64 1)
      have b1 := blk_set b0 1 (.int .i64 0)
      exact ⟨_, rfl, Kd.R_set (Kd.R_set (Kd.R_set HJ.out.row HJ.out.res (fun q hq => by rw [List.mem_singleton.mp hq]; decide) _ _) b0 (fun q hq => by rw [List.mem_singleton.mp hq]; decide) _ _) b1 (fun q hq => by rw [List.mem_singleton.mp hq]; decide) _ _, Below.setCell (Below.setCell (Below.setCell HJ.out.hB HJ.out.ge.1 _) HJ.out.ge.1 _) HJ.out.ge.1 _⟩
end Go.Proofs.YtaofmmnfenlofaaGreatDoor.QTc
namespace Go.Proofs.YtaofmmnfenlofaaGreatDoor.QTc
open Go.RowKit Go.Proofs.YtaofmmnfenlofaaGreatDoorW.PrintWords Go.Proofs.YtaofmmnfenlofaaGreatDoorW.PrintLast Go.Proofs.YtaofmmnfenlofaaGreatDoorW.PrintMore
set_option linter.unusedVariables false
set_option linter.unusedSimpArgs false
theorem fld155_0 (a b c d : Value) (w : World) : Sem.run Tryz.prog (Instr.field 155 (Value.agg #[a, b, c, d]) 0) w = Result.ok a w := by kernel_rfl
theorem fld155_1 (a b c d : Value) (w : World) : Sem.run Tryz.prog (Instr.field 155 (Value.agg #[a, b, c, d]) 1) w = Result.ok b w := by kernel_rfl
theorem fld155_2 (a b c d : Value) (w : World) : Sem.run Tryz.prog (Instr.field 155 (Value.agg #[a, b, c, d]) 2) w = Result.ok c w := by kernel_rfl
theorem fld155_3 (a b c d : Value) (w : World) : Sem.run Tryz.prog (Instr.field 155 (Value.agg #[a, b, c, d]) 3) w = Result.ok d w := by kernel_rfl
attribute [local go_sem] fld155_0 fld155_1 fld155_2 fld155_3
def TokC (cs : Array Value) (o : Nat) (ts : List S155) : Prop := ∀ (j : Nat) (t : S155), ts[j]? = some t → cs[o + j * 4]? = some (.int .i64 t.f0) ∧ cs[o + j * 4 + 1]? = some (.string t.f1) ∧ cs[o + j * 4 + 2]? = some (.int .i64 t.f2) ∧ cs[o + j * 4 + 3]? = some (.int .i64 t.f3)
theorem TokC.tail {cs : Array Value} {o : Nat} {t : S155} {r : List S155} (h : TokC cs o (t :: r)) : TokC cs (o + 4) r := fun j u hj => by
  have := h (j + 1) u hj
  rw [show o + (j + 1) * 4 = o + 4 + j * 4 by omega] at this
  exact this
structure PS (tb p : Nat) (ts : List S155) (w : World) : Prop where
  blk : ∃ o c cs, w.heap[p]? = some (.cells #[.slice (some ⟨tb, o, none⟩) ts.length c, .int .i64 0, .int .i64 0] 174 (0, 0)) ∧ ts.length ≤ c ∧ w.heap[tb]? = some (.cells cs 155 (0, 0)) ∧ TokC cs o ts
theorem PS.step {tb p : Nat} {w w' : World} {ts : List S155} (h : PS tb p ts w) (hb : Below w.heap.size w w') : PS tb p ts w' := by
  obtain ⟨o, c, cs, h1, h2, h3, h4⟩ := h
  exact ⟨o, c, cs, (hb.block _ (blk_lt h1)).trans h1, h2, (hb.block _ (blk_lt h3)).trans h3, h4⟩
theorem PS.lt {tb p : Nat} {w : World} {ts : List S155} (h : PS tb p ts w) : p < w.heap.size := by
  obtain ⟨o, c, cs, h1, h2, h3, h4⟩ := h
  exact blk_lt h1
theorem PS.tlt {tb p : Nat} {w : World} {ts : List S155} (h : PS tb p ts w) : tb < w.heap.size := by
  obtain ⟨o, c, cs, h1, h2, h3, h4⟩ := h
  exact blk_lt h3
theorem PS.set1 {tb p B : Nat} {W : World} {ts : List S155} (h : PS tb p ts W) (hB : p ≠ B) (hT : tb ≠ B) (i : Nat) (u : Value) : PS tb p ts (W.setCell ⟨B, i, none⟩ u) := by
  obtain ⟨o, c, cs, h1, h2, h3, h4⟩ := h
  exact ⟨o, c, cs, blk_far h1 hB _, h2, blk_far h3 hT _, h4⟩
theorem PS.set46 {tb p B : Nat} {W : World} {ts : List S155} (h : PS tb p ts W) {t : Nat} {ds : Array Value} (hb : W.heap[B]? = some (.cells ds t (0, 0))) (h1 : t ≠ 174) (h2 : t ≠ 155) (i : Nat) (u : Value) : PS tb p ts (W.setCell ⟨B, i, none⟩ u) := by
  have hh := h
  obtain ⟨o, c, cs, a1, a2, a3, a4⟩ := h
  exact hh.set1 (blk_ne a1 hb h1.symm) (blk_ne a3 hb h2.symm) i u
theorem prow4_any {W : World} {g t : Nat} {a b c d : Value} (h : W.heap[g]? = some (.cells #[a, b, c, d] t (0, 0))) (v0 v1 v2 v3 : Value) :
    ((((W.setCell ⟨g, 0, none⟩ v0).setCell ⟨g, 1, none⟩ v1).setCell ⟨g, 2, none⟩ v2).setCell ⟨g, 3, none⟩ v3).heap[g]? = some (.cells #[v0, v1, v2, v3] t (0, 0)) := by
  have := blk_set (blk_set (blk_set (blk_set h 0 v0) 1 v1) 2 v2) 3 v3
  simpa using this
theorem below_set4 {w w5 : World} {g : Nat} (hb : Below w.heap.size w w5) (hg : w.heap.size ≤ g) (v0 v1 v2 v3 : Value) : Below w.heap.size w ((((w5.setCell ⟨g, 0, none⟩ v0).setCell ⟨g, 1, none⟩ v1).setCell ⟨g, 2, none⟩ v2).setCell ⟨g, 3, none⟩ v3) :=
  Below.setCell (Below.setCell (Below.setCell (Below.setCell hb hg _) hg _) hg _) hg _
set_option maxHeartbeats 8000000 in
set_option maxRecDepth 100000 in
theorem pnext_calls {tb p : Nat} {w : World} {t : S155} {r : List S155} (h : PS tb p (t :: r) w) :
    Calls Tryz.prog 117 #[.pointer (some ⟨p, 0, none⟩)] w fun e w' => e = .returned (.agg #[.int .i64 t.f0, .string t.f1, .int .i64 t.f2, .int .i64 t.f3]) ∧ Below w.heap.size w w' := by
  obtain ⟨o, c, cs, h1, h2, h3, h4⟩ := h
  obtain ⟨x0, x1, x2, x3⟩ := h4 0 t rfl
  rw [Nat.zero_mul, Nat.add_zero] at x0 x1 x2 x3
  replace x0 := (blk_cell h3 _).trans x0
  replace x1 := (blk_cell h3 _).trans x1
  replace x2 := (blk_cell h3 _).trans x2
  replace x3 := (blk_cell h3 _).trans x3
  have hp := blk_lt h1
  have hu155 := Tryz.underlying155
  have c0 : w.cell? ⟨p, 0, none⟩ = some (.slice (some ⟨tb, o, none⟩) (r.length + 1) c) := blk_cell h1 0
  have fin : ∀ (w5 : World), w5.heap[w.heap.size]? = some (.cells #[.int .i64 0, .string (⟨#[]⟩ : ByteArray), .int .i64 0, .int .i64 0] 155 (0, 0)) → Below w.heap.size w w5 → ∀ (wx : World), wx = ((((w5.setCell ⟨w.heap.size, 0, none⟩ (.int .i64 t.f0)).setCell ⟨w.heap.size, 1, none⟩ (.string t.f1)).setCell ⟨w.heap.size, 2, none⟩ (.int .i64 t.f2)).setCell ⟨w.heap.size, 3, none⟩ (.int .i64 t.f3)) →
      Below w.heap.size w wx ∧ wx.heap[w.heap.size]? = some (.cells #[.int .i64 t.f0, .string t.f1, .int .i64 t.f2, .int .i64 t.f3] 155 (0, 0)) := by
    intro w5 hBK hb wx hwx
    rw [hwx]
    exact ⟨below_set4 hb (Nat.le_refl _) _ _ _ _, prow4_any hBK _ _ _ _⟩
  obtain ⟨f0, f1, f2, f3⟩ := t
  dsimp only at x0 x1 x2 x3 fin ⊢
  clear h2 h3 h4 h1
  go_enter Tryz.func117, Tryz.ntmps117
  go_wp2_with (first | ((with_reducible refine gate_dst (N := 2) rfl ?_); refine box_event ?hg (N := 2) ?hd (cs := #[.int .i64 0, .string (⟨#[]⟩ : ByteArray), .int .i64 0, .int .i64 0]) (t := 155) ?hr ?_; (case hd => rfl); (case hg => rfl); (case hr => first | (go_simp; done) | (go_simp; rfl)); intro gb hg w5 hBK hb; subst hg; have y0 := pw_cell_below hb x0; have y1 := pw_cell_below hb x1; have y2 := pw_cell_below hb x2; have y3 := pw_cell_below hb x3; have d0 := pw_cell_below hb c0; have hfr_0 := blk_frozen hBK 0; have hfr_1 := blk_frozen hBK 1; have hfr_2 := blk_frozen hBK 2; have hfr_3 := blk_frozen hBK 3; have hcr_0 : w5.cell? ⟨w.heap.size, 0, none⟩ = some (.int .i64 0) := (blk_cell hBK 0).trans rfl; have hcr_1 : w5.cell? ⟨w.heap.size, 1, none⟩ = some (.string (⟨#[]⟩ : ByteArray)) := (blk_cell hBK 1).trans rfl; have hcr_2 : w5.cell? ⟨w.heap.size, 2, none⟩ = some (.int .i64 0) := (blk_cell hBK 2).trans rfl; have hcr_3 : w5.cell? ⟨w.heap.size, 3, none⟩ = some (.int .i64 0) := (blk_cell hBK 3).trans rfl))
  obtain ⟨g1, g2⟩ := fin _ (by assumption) (by assumption) _ rfl
  refine bodyPost_ret (results_cell_row rfl _ _ w.heap.size 155 _ (0, 0) _ rfl g2 Tryz.underlying155 rfl (by kernel_rfl)) rfl ?_
  exact ⟨rfl, g1⟩
theorem cut161 (tb o n c : Nat) (hc : n + 2 ≤ c) : ∀ W, (Instr.slice 161 (.slice (some ⟨tb, o, none⟩) (n + 2) c) (some (.int .i64 1)) none none).run Tryz.prog W = .ok (.slice (some ⟨tb, o + 4, none⟩) (n + 1) (c - 1)) W := fun W => by
  obtain ⟨i, hi, hz⟩ := Option.map_eq_some_iff.1 (show (Tryz.prog.info? 155).map (fun i => i.size) = some 4 by kernel_rfl)
  have h := cut_from (P := Tryz.prog) 161 155 .i64 Tryz.underlying161 hi 4 hz (some ⟨tb, o, none⟩) (n + 2) c 1 (by decide) (by omega) W
  rw [if_neg (by show ¬ c = 1; omega)] at h
  exact h
set_option maxHeartbeats 8000000 in
set_option maxRecDepth 100000 in
theorem pstep_calls {tb p : Nat} {w : World} {t t2 : S155} {r : List S155} (h : PS tb p (t :: t2 :: r) w) (ht : t.f0 ≠ 4) :
    Calls Tryz.prog 172 #[.pointer (some ⟨p, 0, none⟩)] w fun e w' => e = .returned (.agg #[.int .i64 t.f0, .string t.f1, .int .i64 t.f2, .int .i64 t.f3]) ∧ PS tb p (t2 :: r) w' ∧ Kp w w' (· = p) := by
  have hN := Aside0.mk (fun W (hb : Below w.heap.size w W) => pnext_calls (h.step hb))
  have hp := h.lt
  have hH := Aside0.mk h
  have hb4 : (t.f0 != 4) = true := bne_iff_ne.mpr ht
  have htl := h.tlt
  obtain ⟨o, c, cs, h1, h2, h3, h4⟩ := h
  have hcut := cut161 tb o r.length c (by simpa using h2)
  have hu155 := Tryz.underlying155
  have c0 : w.cell? ⟨p, 0, none⟩ = some (.slice (some ⟨tb, o, none⟩) (r.length + 2) c) := blk_cell h1 0
  have z0 := blk_frozen h1 0
  have fin : ∀ (W : World), Below w.heap.size w W → W.heap[w.heap.size]? = some (.cells #[.int .i64 0, .string (⟨#[]⟩ : ByteArray), .int .i64 0, .int .i64 0] 155 (0, 0)) → ∀ ob wx, wx = (((((W.setCell ⟨p, 0, none⟩ (.slice (some ⟨tb, o + 4, none⟩) (r.length + 1) (c - 1))).setCell ⟨w.heap.size, 0, none⟩ (.int .i64 t.f0)).setCell ⟨w.heap.size, 1, none⟩ (.string t.f1)).setCell ⟨w.heap.size, 2, none⟩ (.int .i64 t.f2)).setCell ⟨w.heap.size, 3, none⟩ (.int .i64 t.f3)).alloc ob →
      PS tb p (t2 :: r) wx ∧ Kp w wx (· = p) ∧ wx.heap[w.heap.size]? = some (.cells #[.int .i64 t.f0, .string t.f1, .int .i64 t.f2, .int .i64 t.f3] 155 (0, 0)) := by
    intro W hb hG ob wx hwx
    rw [hwx]
    have al : ∀ (W : World), Below W.heap.size W (W.alloc ob) := fun W => Below.alloc (Below.refl _ _) (Nat.le_refl _) _
    have k1 := blk_set ((hb.block _ (blk_lt h1)).trans h1) 0 (.slice (some ⟨tb, o + 4, none⟩) (r.length + 1) (c - 1))
    have hpn : w.heap.size ≠ p := by omega
    have hpm : p ≠ w.heap.size := by omega
    have htn : tb ≠ w.heap.size := by omega
    have k3 := (hb.block _ (blk_lt h3)).trans h3
    have htp : tb ≠ p := blk_ne h3 h1 (by decide)
    refine ⟨PS.step (PS.set1 (PS.set1 (PS.set1 (PS.set1 ⟨o + 4, c - 1, cs, k1, ?_, blk_far k3 htp _, h4.tail⟩ hpm htn _ _) hpm htn _ _) hpm htn _ _) hpm htn _ _) (al _), Kp.alloc ?_ _, blk_alloc (prow4_any (blk_far hG hpn _) _ _ _ _) _⟩
    · have : r.length + 2 ≤ c := by simpa using h2
      show r.length + 1 ≤ c - 1
      omega
    · exact ((((Kp.of_below hb _).set1 _ _).set (Or.inr (Nat.le_refl _)) _).set (Or.inr (Nat.le_refl _)) _).set (Or.inr (Nat.le_refl _)) _ |>.set (Or.inr (Nat.le_refl _)) _
  obtain ⟨f0, f1, f2, f3⟩ := t
  dsimp only at hb4 hN ⊢
  replace h1 := Aside0.mk h1
  replace fin := Aside0.mk fin
  clear h2 h3 h4 ht
  go_enter Tryz.func172, Tryz.ntmps172
  have hG0 : Aside0 ((w.alloc (.cells #[.int .i64 0, .string (⟨#[]⟩ : ByteArray), .int .i64 0, .int .i64 0] 155)).heap[w.heap.size]? = some (.cells #[.int .i64 0, .string (⟨#[]⟩ : ByteArray), .int .i64 0, .int .i64 0] 155 (0, 0))) := ⟨heap_alloc_new w _⟩
  have hB0 : Aside0 (Below w.heap.size w (w.alloc (.cells #[.int .i64 0, .string (⟨#[]⟩ : ByteArray), .int .i64 0, .int .i64 0] 155))) := ⟨Below.alloc (Below.refl _ _) (Nat.le_refl _) _⟩
  go_wp2_with (first | (go_at_call 117; (with_reducible refine (hN.out _ hB0.out).mono ?_); rintro e w1 ⟨rfl, hb1⟩; have hB1 := Aside0.mk (hB0.out.trans (hb1.mono (by simp))); have hG1 := Aside0.mk ((hb1.block _ (blk_lt hG0.out)).trans hG0.out); have d0 := pw_cell_below hB1.out c0; have e0 := (blk_frozen ((hB1.out.block _ (blk_lt h1.out)).trans h1.out) 0); have hp1 := Nat.lt_of_lt_of_le hp hB1.out.size; have gr := Nat.lt_of_lt_of_le (blk_lt hG0.out) hb1.size; have r0 := blk_frozen hG1.out 0; have r1 := blk_frozen hG1.out 1; have r2 := blk_frozen hG1.out 2; have r3 := blk_frozen hG1.out 3; have q0 : w1.cell? ⟨w.heap.size, 0, none⟩ = some (.int .i64 0) := blk_cell hG1.out 0; have q1 : w1.cell? ⟨w.heap.size, 1, none⟩ = some (.string (⟨#[]⟩ : ByteArray)) := blk_cell hG1.out 1; have q2 : w1.cell? ⟨w.heap.size, 2, none⟩ = some (.int .i64 0) := blk_cell hG1.out 2; have q3 : w1.cell? ⟨w.heap.size, 3, none⟩ = some (.int .i64 0) := blk_cell hG1.out 3; clear hb1))
  obtain ⟨g1, g2, g3⟩ := fin.out _ hB1.out hG1.out _ _ rfl
  refine bodyPost_ret (results_cell_row rfl _ _ w.heap.size 155 _ (0, 0) _ rfl g3 Tryz.underlying155 rfl (by kernel_rfl)) rfl ?_
  exact ⟨rfl, g1, g2⟩
def isW (t : S155) (s : ByteArray) : Bool := decide (t.f0 = 3) && (t.f1.toList == s.toList)
set_option maxHeartbeats 8000000 in
theorem is_calls {tb p : Nat} {w : World} {t : S155} {r : List S155} (h : PS tb p (t :: r) w) (s : ByteArray) :
    Calls Tryz.prog 173 #[.pointer (some ⟨p, 0, none⟩), .string s] w fun e w' => e = .returned (.bool (isW t s)) ∧ Below w.heap.size w w' := by
  have hN := Aside0.mk (fun W (hb : Below w.heap.size w W) => pnext_calls (h.step hb))
  clear h
  obtain ⟨f0, f1, f2, f3⟩ := t
  unfold isW
  dsimp only at hN ⊢
  by_cases c : f0 = 3
  · have hb0 : (f0 == 3) = true := beq_iff_eq.mpr c
    rw [decide_eq_true c, Bool.true_and]
    generalize hq : (f1.toList == s.toList) = q
    go_enter Tryz.func173, Tryz.ntmps173
    go_wp2_with (first | (go_at_call 117; (with_reducible refine (hN.out _ ?sideB).mono ?_); (case sideB => first | exact Below.refl _ _ | exact HB1.out); rintro e w1 ⟨rfl, hb1⟩; have HB1 := Aside0.mk (by first | exact HB1.out.trans (hb1.mono HB1.out.size) | exact hb1); clear hb1))
    go_ret
    exact ⟨by first | rfl | (simp; done) | (simp [*]; done), HB1.out⟩
  · have hb0 : (f0 == 3) = false := beq_eq_false_iff_ne.mpr c
    rw [decide_eq_false c, Bool.false_and]
    go_enter Tryz.func173, Tryz.ntmps173
    go_wp2_with (first | (go_at_call 117; (with_reducible refine (hN.out _ ?sideB).mono ?_); (case sideB => first | exact Below.refl _ _ | exact HB1.out); rintro e w1 ⟨rfl, hb1⟩; have HB1 := Aside0.mk (by first | exact HB1.out.trans (hb1.mono HB1.out.size) | exact hb1); clear hb1))
    go_ret
    exact ⟨by first | rfl | (simp; done) | (simp [*]; done), HB1.out⟩
theorem PS.sets4 {tb p g : Nat} {w : World} {ts : List S155} (h : PS tb p ts w) (hg : p < g) (ht : tb < g) (v0 v1 v2 v3 : Value) : PS tb p ts ((((w.setCell ⟨g, 0, none⟩ v0).setCell ⟨g, 1, none⟩ v1).setCell ⟨g, 2, none⟩ v2).setCell ⟨g, 3, none⟩ v3) :=
  PS.set1 (PS.set1 (PS.set1 (PS.set1 h (Nat.ne_of_lt hg) (Nat.ne_of_lt ht) _ _) (Nat.ne_of_lt hg) (Nat.ne_of_lt ht) _ _) (Nat.ne_of_lt hg) (Nat.ne_of_lt ht) _ _) (Nat.ne_of_lt hg) (Nat.ne_of_lt ht) _ _
def PPost (tb p : Nat) (ts : List S155) (w : World) (v : Value) (e : Ending) (w' : World) : Prop := e = .returned v ∧ PS tb p ts w' ∧ Kp w w' (· = p)
theorem takes_no {tb p : Nat} {w : World} {t : S155} {r : List S155} (h : PS tb p (t :: r) w) (s : ByteArray) (hs : isW t s = false) :
    Calls Tryz.prog 146 #[.pointer (some ⟨p, 0, none⟩), .string s] w (PPost tb p (t :: r) w (.bool false)) := by
  have hI := Aside0.mk (is_calls h s)
  rw [hs] at hI
  have hH := Aside0.mk h
  clear h
  go_enter Tryz.func146, Tryz.ntmps146
  go_wp2_with (first | (go_at_call 173; (with_reducible refine hI.out.mono ?_); rintro e w1 ⟨rfl, hb1⟩))
  go_ret
  exact ⟨rfl, hH.out.step hb1, Kp.of_below hb1 _⟩
theorem takes_yes {tb p : Nat} {w : World} {t t2 : S155} {r : List S155} (h : PS tb p (t :: t2 :: r) w) (s : ByteArray) (hs : isW t s = true) :
    Calls Tryz.prog 146 #[.pointer (some ⟨p, 0, none⟩), .string s] w (PPost tb p (t2 :: r) w (.bool true)) := by
  have hI := Aside0.mk (is_calls h s)
  rw [hs] at hI
  have ht : t.f0 ≠ 4 := by
    unfold isW at hs
    rw [Bool.and_eq_true] at hs
    have := of_decide_eq_true hs.1
    omega
  have hS := Aside0.mk (fun W (hb : Below w.heap.size w W) => pstep_calls (h.step hb) ht)
  clear h
  go_enter Tryz.func146, Tryz.ntmps146
  go_wp2_with (first | (go_at_call 173; (with_reducible refine hI.out.mono ?_); rintro e w1 ⟨rfl, hb1⟩) | (go_at_call 172; (with_reducible refine (hS.out _ hb1).mono ?_); rintro e w2 ⟨rfl, hp2, hk2⟩))
  go_ret
  exact ⟨rfl, hp2, (Kp.of_below hb1 _).trans hk2⟩
theorem must_calls {tb p : Nat} {w : World} {t t2 : S155} {r : List S155} (h : PS tb p (t :: t2 :: r) w) (s : ByteArray) (hs : isW t s = true) :
    Calls Tryz.prog 116 #[.pointer (some ⟨p, 0, none⟩), .string s] w (PPost tb p (t2 :: r) w (.tuple #[])) := by
  have hI := Aside0.mk (takes_yes h s hs)
  clear h
  go_enter Tryz.func116, Tryz.ntmps116
  go_wp2_with (first | (go_at_call 146; (with_reducible refine hI.out.mono ?_); rintro e w1 ⟨rfl, hp1, hk1⟩))
  go_end0
  exact ⟨rfl, hp1, hk1⟩
theorem kind_calls {tb p : Nat} {w : World} {t t2 : S155} {r : List S155} (h : PS tb p (t :: t2 :: r) w) (k : Int) (hk : t.f0 = k) (h4 : k ≠ 4) :
    Calls Tryz.prog 145 #[.pointer (some ⟨p, 0, none⟩), .int .i64 k] w (PPost tb p (t2 :: r) w (.agg #[.int .i64 t.f0, .string t.f1, .int .i64 t.f2, .int .i64 t.f3])) := by
  have ht : t.f0 ≠ 4 := by rw [hk]; exact h4
  have hN := Aside0.mk (fun W (hb : Below w.heap.size w W) => pnext_calls (h.step hb))
  have hS := Aside0.mk (fun W (hb : Below w.heap.size w W) => pstep_calls (h.step hb) ht)
  have hp := h.lt
  have htl := h.tlt
  obtain ⟨f0, f1, f2, f3⟩ := t
  dsimp only at hk hN hS ⊢
  subst hk
  have hb0 : (f0 != f0) = false := bne_eq_false_iff_eq.mpr rfl
  have hG0 : Aside0 ((w.alloc (.cells #[.int .i64 0, .string (⟨#[]⟩ : ByteArray), .int .i64 0, .int .i64 0] 155)).heap[w.heap.size]? = some (.cells #[.int .i64 0, .string (⟨#[]⟩ : ByteArray), .int .i64 0, .int .i64 0] 155 (0, 0))) := ⟨heap_alloc_new w _⟩
  have hB0 : Aside0 (Below w.heap.size w (w.alloc (.cells #[.int .i64 0, .string (⟨#[]⟩ : ByteArray), .int .i64 0, .int .i64 0] 155))) := ⟨Below.alloc (Below.refl _ _) (Nat.le_refl _) _⟩
  have hu155 := Tryz.underlying155
  clear h
  go_enter Tryz.func145, Tryz.ntmps145
  go_wp2_with (first | (go_at_call 117; (with_reducible refine (hN.out _ hB0.out).mono ?_); rintro e w1 ⟨rfl, hb1⟩; have hB1 := Aside0.mk (hB0.out.trans (hb1.mono (by simp))); have hG1 := Aside0.mk ((hb1.block _ (blk_lt hG0.out)).trans hG0.out); clear hb1) | (go_at_call 172; (with_reducible refine (hS.out _ hB1.out).mono ?_); rintro e w2 ⟨rfl, hp2, hk2⟩; have hG2 := Aside0.mk (hk2.blk hG1.out (fun e => Nat.ne_of_gt hp e)); have r0 := blk_frozen hG2.out 0; have r1 := blk_frozen hG2.out 1; have r2 := blk_frozen hG2.out 2; have r3 := blk_frozen hG2.out 3; have q0 : w2.cell? ⟨w.heap.size, 0, none⟩ = some (.int .i64 0) := blk_cell hG2.out 0; have q1 : w2.cell? ⟨w.heap.size, 1, none⟩ = some (.string (⟨#[]⟩ : ByteArray)) := blk_cell hG2.out 1; have q2 : w2.cell? ⟨w.heap.size, 2, none⟩ = some (.int .i64 0) := blk_cell hG2.out 2; have q3 : w2.cell? ⟨w.heap.size, 3, none⟩ = some (.int .i64 0) := blk_cell hG2.out 3; replace hp2 := Aside0.mk hp2; replace hk2 := Aside0.mk ((Kp.of_below hB1.out _).trans hk2)))
  refine bodyPost_ret (results_cell_row rfl _ _ w.heap.size 155 _ (0, 0) _ rfl (prow4_any hG2.out _ _ _ _) Tryz.underlying155 rfl (by kernel_rfl)) rfl ?_
  exact ⟨rfl, hp2.out.sets4 hp htl _ _ _ _, ((((hk2.out.set (Or.inr (Nat.le_refl _)) _).set (Or.inr (Nat.le_refl _)) _).set (Or.inr (Nat.le_refl _)) _).set (Or.inr (Nat.le_refl _)) _)⟩
end Go.Proofs.YtaofmmnfenlofaaGreatDoor.QTc
namespace Go.Proofs.YtaofmmnfenlofaaGreatDoor.QTc
open Go.RowKit Go.Proofs.YtaofmmnfenlofaaGreatDoorW.PrintWords Go.Proofs.YtaofmmnfenlofaaGreatDoorW.PrintLast Go.Proofs.YtaofmmnfenlofaaGreatDoorW.PrintMore
set_option linter.unusedVariables false
set_option linter.unusedSimpArgs false
attribute [local go_sem] fld155_0 fld155_1 fld155_2 fld155_3
theorem after_calls {tb p : Nat} {w : World} {t t2 t3 : S155} {r : List S155} (h : PS tb p (t :: t2 :: t3 :: r) w) (s : ByteArray) (hs : isW t s = true) (h2 : t2.f0 = 2) :
    Calls Tryz.prog 115 #[.pointer (some ⟨p, 0, none⟩), .string s] w (PPost tb p (t3 :: r) w (.int .i64 t2.f2)) := by
  have hM := Aside0.mk (must_calls h s hs)
  clear h
  go_enter Tryz.func115, Tryz.ntmps115
  go_wp2_with (first | (go_at_call 116; (with_reducible refine hM.out.mono ?_); rintro e w1 ⟨rfl, hp1, hk1⟩) | (go_at_call 145; (with_reducible refine (kind_calls hp1 2 h2 (by decide)).mono ?_); rintro e w2 ⟨rfl, hp2, hk2⟩))
  go_ret
  exact ⟨rfl, hp2, hk1.trans hk2⟩
def TokB (w : World) (b : Nat) (t : S155) : Prop := ∃ cs, w.heap[b]? = some (.cells cs 155 (0, 0)) ∧ cs[0]? = some (.int .i64 t.f0) ∧ cs[1]? = some (.string t.f1) ∧ cs[2]? = some (.int .i64 t.f2) ∧ cs[3]? = some (.int .i64 t.f3)
set_option maxHeartbeats 4000000 in
theorem row_one {tb p : Nat} {w : World} {t t2 : S155} {r : List S155} (h : PS tb p (t :: t2 :: r) w) (h1 : t.f0 = 2) (h2 : t2.f0 ≠ 2) :
    Calls Tryz.prog 148 #[.pointer (some ⟨p, 0, none⟩)] w fun e w' => ∃ b, PPost tb p (t2 :: r) w (.slice (some ⟨b, 0, none⟩) 1 1) e w' ∧ TokB w' b t ∧ w.heap.size ≤ b := by
  have hK := Aside0.mk (kind_calls h 2 h1 (by decide))
  have hb0 : (t2.f0 == 2) = false := beq_eq_false_iff_ne.mpr h2
  clear h
  obtain ⟨f0, f1, f2, f3⟩ := t
  dsimp only at hK h1
  subst h1
  go_enter Tryz.func148, Tryz.ntmps148
  go_wp2_with (first | (go_at_call 145; (with_reducible refine hK.out.mono ?_); rintro e w1 ⟨rfl, hp1, hk1⟩; have hP1 := Aside0.mk hp1; have hK1 := Aside0.mk hk1; have hs1 := hk1.size; clear hp1 hk1))
  go_loopg [3] 1 (fun kq v3 w' => kq = 1 ∧ v3 = .slice (some ⟨w1.heap.size, 0, none⟩) 1 1 ∧ w' = w1.alloc (.cells #[.int .i64 2, .string f1, .int .i64 f2, .int .i64 f3] 155))
  case atStart => exact ⟨rfl, rfl, rfl⟩
  case round =>
    obtain ⟨rfl, rfl, rfl⟩ := hrel
    have hal : Below w1.heap.size w1 (w1.alloc (.cells #[.int .i64 2, .string f1, .int .i64 f2, .int .i64 f3] 155)) := Below.alloc (Below.refl _ _) (Nat.le_refl _) _
    have hal := Aside0.mk hal
    have hbk : Aside0 ((w1.alloc (.cells #[.int .i64 2, .string f1, .int .i64 f2, .int .i64 f3] 155)).heap[w1.heap.size]? = some (.cells #[.int .i64 2, .string f1, .int .i64 f2, .int .i64 f3] 155 (0, 0))) := ⟨heap_alloc_new _ _⟩
    go_wp2_with (first | (go_at_call 117; (with_reducible refine (pnext_calls (hP1.out.step hal.out)).mono ?_); rintro e w2 ⟨rfl, hb2⟩))
    go_ret
    have hb3 := hal.out.trans (hb2.mono hal.out.size)
    exact ⟨w1.heap.size, ⟨rfl, hP1.out.step hb3, hK1.out.step hb3⟩, ⟨_, (hb2.block _ (blk_lt hbk.out)).trans hbk.out, rfl, rfl, rfl, rfl⟩, hs1⟩
theorem sets_no {tb p : Nat} {w : World} {t : S155} {r : List S155} (h : PS tb p (t :: r) w) (s : ByteArray) (hs : isW t s = false) :
    Calls Tryz.prog 149 #[.pointer (some ⟨p, 0, none⟩), .string s] w (PPost tb p (t :: r) w (.int .u64 0)) := by
  have hM := Aside0.mk (takes_no h s hs)
  clear h
  go_enter Tryz.func149, Tryz.ntmps149
  go_wp2_with (first | (go_at_call 146; (with_reducible refine hM.out.mono ?_); rintro e w1 ⟨rfl, hp1, hk1⟩))
  go_ret
  exact ⟨rfl, hp1, hk1⟩
theorem mode_fixed {tb p g : Nat} {w : World} {t t2 : S155} {r : List S155} (h : PS tb p (t :: t2 :: r) w) (hs : isW t ⟨#[102, 105, 120, 101, 100]⟩ = true) {cs : Array Value} (hg : w.heap[g]? = some (.cells cs 46 (0, 0))) (hc : cs[3]? = some (.int .i64 0)) (hp : p < g) :
    Calls Tryz.prog 147 #[.pointer (some ⟨p, 0, none⟩), .pointer (some ⟨g, 0, none⟩)] w fun e w' => e = .returned (.tuple #[]) ∧ PS tb p (t2 :: r) w' ∧ ∃ w1, Kp w w1 (· = p) ∧ w' = w1.setCell ⟨g, 3, none⟩ (.int .i64 0) := by
  have hM := Aside0.mk (takes_yes h _ hs)
  have hG := Aside0.mk hg
  have hu46 := Tryz.underlying46
  clear h hg
  go_enter Tryz.func147, Tryz.ntmps147
  go_wp2_with (first | (go_at_call 146; (with_reducible refine hM.out.mono ?_); rintro e w1 ⟨rfl, hp1, hk1⟩; have hG1 := hk1.blk hG.out (fun e => Nat.ne_of_gt hp e); have z3 : w1.cell? ⟨g, 3, none⟩ = some (.int .i64 0) := (blk_cell hG1 3).trans hc; have q3 := blk_frozen hG1 3; have hP1 := Aside0.mk hp1; have hK1 := Aside0.mk hk1; replace hG1 := Aside0.mk hG1; clear hp1 hk1))
  go_end0
  refine ⟨rfl, ?_, w1, hK1.out, rfl⟩
  exact hP1.out.set46 hG1.out (by decide) (by decide) _ _
abbrev z46c : Array Value := #[.string ⟨#[]⟩, .int .i64 0, .int .i64 0, .int .i64 0, .int .i64 0, .int .i64 0, .slice none 0 0, .int .u64 0, .int .u64 0]
structure TI (tb : Nat) (w : World) (p B L : Nat) (ts : List S155) (cs : Array Value) (W : World) : Prop where
  ps : PS tb p ts W
  kp : Kp w W (· = p)
  loc : W.heap[L]? = some (.cells cs 46 (0, 0))
  res : W.heap[B]? = some (.cells z46c 46 (0, 0))
  lt : w.heap.size ≤ B ∧ B < L ∧ p < B
section
variable {w W W' : World} {tb p B L : Nat} {ts ts' : List S155} {cs : Array Value}
theorem TI.call (h : TI tb w p B L ts cs W) (hp : PS tb p ts' W') (hk : Kp W W' (· = p)) : TI tb w p B L ts' cs W' :=
  ⟨hp, h.kp.trans hk, hk.blk h.loc (fun e => by have := h.lt; omega), hk.blk h.res (fun e => by have := h.lt; omega), h.lt⟩
theorem TI.below (h : TI tb w p B L ts cs W) (hb : Below W.heap.size W W') : TI tb w p B L ts cs W' := h.call (h.ps.step hb) (Kp.of_below hb _)
theorem TI.set (h : TI tb w p B L ts cs W) (i : Nat) (u : Value) : TI tb w p B L ts (cs.setIfInBounds i u) (W.setCell ⟨L, i, none⟩ u) := by
  have hl := h.lt
  exact ⟨h.ps.set46 h.loc (by decide) (by decide) _ _, h.kp.set (Or.inr (by show w.heap.size ≤ L; omega)) _, blk_set h.loc i u, blk_far h.res (by show B ≠ L; omega) _, hl⟩
end
structure TaskToks (l : List S155) (nm : ByteArray) (T D r : Int) : Prop where
  toks : ∃ a0 a1 a2 a3 a4 a5 a6 a7 a8 a9 : S155, l = [a0, a1, a2, a3, a4, a5, a6, a7, a8, a9] ∧ isW a0 ⟨#[116, 97, 115, 107]⟩ = true ∧ a1.f0 = 1 ∧ a1.f1 = nm ∧ isW a2 ⟨#[112, 101, 114, 105, 111, 100]⟩ = true ∧ a3.f0 = 2 ∧ a3.f2 = T ∧ isW a4 ⟨#[100, 101, 97, 100, 108, 105, 110, 101]⟩ = true ∧ a5.f0 = 2 ∧ a5.f2 = D ∧ isW a6 ⟨#[102, 105, 120, 101, 100]⟩ = true ∧ isW a7 ⟨#[114, 101, 103, 105, 111, 110, 115]⟩ = true ∧ a8.f0 = 2 ∧ a8.f2 = r ∧ a9.f0 ≠ 2 ∧ isW a9 ⟨#[101, 99, 98]⟩ = false ∧ isW a9 ⟨#[117, 99, 98]⟩ = false ∧ isW a9 ⟨#[59]⟩ = true
theorem R_task {w W W' : World} {tb p B L : Nat} {ts : List S155} {cs : Array Value} {A : Option Addr} {c : Nat} {r : Int} (h : Kd.R (Kd.int .i64) 2 W w.heap.size (fun _ => True) (.slice A 1 c) [r]) (hT : TI tb w p B L ts cs W) (hk : Kp W W' (· = p)) : Kd.R (Kd.int .i64) 2 W' w.heap.size (fun _ => True) (.slice A 1 c) [r] :=
  R_kp h hk (fun q hq k hs hlt => by
    subst hs
    obtain ⟨o, c, cs, a1, a2, a3⟩ := hT.ps.blk
    exact ⟨_, 174, a1, by rw [List.mem_singleton.mp hq]; decide⟩)
def TFin (tb : Nat) (w : World) (p B : Nat) (ts : List S155) (A : Option Addr) (c : Nat) (r : Int) (cs : Array Value) (W : World) : Prop := PS tb p ts W ∧ Kp w W (· = p) ∧ Kd.R (Kd.int .i64) 2 W w.heap.size (fun _ => True) (.slice A 1 c) [r] ∧ W.heap[B]? = some (.cells cs 46 (0, 0)) ∧ w.heap.size ≤ B ∧ p < B
theorem TFin.set {w W : World} {tb p B : Nat} {ts : List S155} {A : Option Addr} {c : Nat} {r : Int} {cs : Array Value} (h : TFin tb w p B ts A c r cs W) (i : Nat) (u : Value) : TFin tb w p B ts A c r (cs.setIfInBounds i u) (W.setCell ⟨B, i, none⟩ u) := by
  obtain ⟨h1, h2, h3, h4, h5, h6⟩ := h
  exact ⟨h1.set46 h4 (by decide) (by decide) i u, h2.set (Or.inr h5) _, Kd.R_set h3 h4 (fun q hq => by rw [List.mem_singleton.mp hq]; decide) _ _, blk_set h4 i u, h5, h6⟩
theorem TFin.set9 {w W : World} {tb p B : Nat} {ts : List S155} {A : Option Addr} {c : Nat} {r : Int} (h : TFin tb w p B ts A c r z46c W) (v0 v1 v2 v3 v4 v5 v6 v7 v8 : Value) : TFin tb w p B ts A c r #[v0, v1, v2, v3, v4, v5, v6, v7, v8] (((((((((W.setCell ⟨B, 0, none⟩ v0).setCell ⟨B, 1, none⟩ v1).setCell ⟨B, 2, none⟩ v2).setCell ⟨B, 3, none⟩ v3).setCell ⟨B, 4, none⟩ v4).setCell ⟨B, 5, none⟩ v5).setCell ⟨B, 6, none⟩ v6).setCell ⟨B, 7, none⟩ v7).setCell ⟨B, 8, none⟩ v8) := by
  have := ((((((((h.set 0 v0).set 1 v1).set 2 v2).set 3 v3).set 4 v4).set 5 v5).set 6 v6).set 7 v7).set 8 v8
  simpa using this
set_option maxHeartbeats 16000000 in
set_option maxRecDepth 100000 in
theorem task_calls {tb p : Nat} {w : World} {l : List S155} {b : S155} {rs : List S155} {nm : ByteArray} {T D r : Int} (hl : TaskToks l nm T D r) (h : PS tb p (l ++ b :: rs) w) :
    Calls Tryz.prog 118 #[.pointer (some ⟨p, 0, none⟩)] w fun e w' => ∃ A c, PPost tb p (b :: rs) w (.agg #[.string nm, .int .i64 T, .int .i64 D, .int .i64 0, .int .i64 0, .int .i64 0, .slice A 1 c, .int .u64 0, .int .u64 0]) e w' ∧ Kd.R (Kd.int .i64) 2 w' w.heap.size (fun _ => True) (.slice A 1 c) [r] := by
  obtain ⟨a0, a1, a2, a3, a4, a5, a6, a7, a8, a9, rfl, i0, i1, i1n, i2, i3, i3n, i4, i5, i5n, i6, i7, i8, i8n, i9, i9a, i9b, i9c⟩ := hl
  have hp := h.lt
  have hu46 := Tryz.underlying46
  have hb0 : Below w.heap.size w (w.alloc (.cells z46c 46)) := Below.alloc (Below.refl _ _) (Nat.le_refl _) _
  have HP0 := Aside0.mk (h.step hb0)
  have HB0 := Aside0.mk hb0
  have HR0 := Aside0.mk (heap_alloc_new w (.cells z46c 46))
  clear h hb0
  go_enter Tryz.func118, Tryz.ntmps118
  go_upto_region 2 with (go_at_call 116; (with_reducible refine (must_calls HP0.out _ i0).mono ?_); rintro e w1 ⟨rfl, hp1, hk1⟩; have HP1 := Aside0.mk hp1; have HK1 := Aside0.mk ((Kp.of_below HB0.out (· = p)).trans hk1); have HR1 := Aside0.mk (hk1.blk HR0.out (fun e => Nat.ne_of_gt hp e)); have hs1 := hk1.size; clear hp1 hk1)
  go_upto_region 3 with (go_at_call 145; (with_reducible refine (kind_calls HP1.out 1 i1 (by decide)).mono ?_); rintro e w2 ⟨rfl, hp2, hk2⟩; have HP2 := Aside0.mk hp2; have HK2 := Aside0.mk (HK1.out.trans hk2); have HR2 := Aside0.mk (hk2.blk HR1.out (fun e => Nat.ne_of_gt hp e)); have hs2 := Nat.lt_of_lt_of_le (Nat.lt_of_lt_of_le (show w.heap.size < (w.alloc (Obj.cells z46c 46)).heap.size by simp) hs1) hk2.size; clear hp2 hk2)
  have H3 : TI tb w p w.heap.size w2.heap.size (a2 :: a3 :: a4 :: a5 :: a6 :: a7 :: a8 :: a9 :: b :: rs) #[.string nm, .int .i64 0, .int .i64 0, .int .i64 0, .int .i64 0, .int .i64 0, .slice none 0 0, .int .u64 0, .int .u64 0] (w2.alloc (.cells #[.string nm, .int .i64 0, .int .i64 0, .int .i64 0, .int .i64 0, .int .i64 0, .slice none 0 0, .int .u64 0, .int .u64 0] 46)) := by
    have hal : Below w2.heap.size w2 (w2.alloc (.cells #[.string nm, .int .i64 0, .int .i64 0, .int .i64 0, .int .i64 0, .int .i64 0, .slice none 0 0, .int .u64 0, .int .u64 0] 46)) := Below.alloc (Below.refl _ _) (Nat.le_refl _) _
    exact ⟨HP2.out.step hal, HK2.out.step hal, heap_alloc_new _ _, (hal.block _ (blk_lt HR2.out)).trans HR2.out, Nat.le_refl _, hs2, hp⟩
  generalize (w2.alloc (.cells #[.string nm, .int .i64 0, .int .i64 0, .int .i64 0, .int .i64 0, .int .i64 0, .slice none 0 0, .int .u64 0, .int .u64 0] 46)) = W3 at H3 ⊢
  generalize w2.heap.size = L at H3 ⊢
  replace H3 := Aside0.mk H3
  clear HP1 HK1 HR1 hs1 HP2 HK2 HR2 hs2 HP0 HB0 HR0 i0 i1
  go_upto_region 4 with (go_at_call 115; (with_reducible refine (after_calls H3.out.ps _ i2 i3).mono ?_); rintro e w4 ⟨rfl, hp4, hk4⟩; have H4 := Aside0.mk (H3.out.call hp4 hk4); have q1 := blk_frozen H4.out.loc 1; have z1 : w4.cell? ⟨L, 1, none⟩ = some (.int .i64 0) := blk_cell H4.out.loc 1; clear hp4 hk4)
  have H4b := H4.out.set 1 (.int .i64 T)
  simp only [List.setIfInBounds_toArray, List.set_cons_succ, List.set_cons_zero] at H4b
  replace H4 := Aside0.mk H4b
  clear H4b q1 z1 H3 i2 i3 i1n
  generalize (w4.setCell ⟨L, 1, none⟩ (.int .i64 T)) = W4 at H4 ⊢
  go_upto_region 5 with (go_at_call 115; (with_reducible refine (after_calls H4.out.ps _ i4 i5).mono ?_); rintro e w5 ⟨rfl, hp5, hk5⟩; have H5 := Aside0.mk (H4.out.call hp5 hk5); have q1 := blk_frozen H5.out.loc 2; have z1 : w5.cell? ⟨L, 2, none⟩ = some (.int .i64 0) := blk_cell H5.out.loc 2; clear hp5 hk5)
  have H5b := H5.out.set 2 (.int .i64 D)
  simp only [List.setIfInBounds_toArray, List.set_cons_succ, List.set_cons_zero] at H5b
  replace H5 := Aside0.mk H5b
  clear H5b q1 z1 H4 i4 i5 i3n
  generalize (w5.setCell ⟨L, 2, none⟩ (.int .i64 D)) = W5 at H5 ⊢
  go_upto_region 6 with (go_at_call 147; (with_reducible refine (mode_fixed H5.out.ps i6 H5.out.loc rfl (by have := H5.out.lt; omega)).mono ?_); rintro e w6 ⟨rfl, hp6, w6a, hk6, hw6⟩; have H6 := Aside0.mk (show TI tb w p w.heap.size L (a7 :: a8 :: a9 :: b :: rs) #[.string nm, .int .i64 T, .int .i64 D, .int .i64 0, .int .i64 0, .int .i64 0, .slice none 0 0, .int .u64 0, .int .u64 0] w6 from (by have hk := (H5.out.below (Below.refl _ _)).lt; subst hw6; exact ⟨hp6, (H5.out.kp.trans hk6).set (Or.inr (by show w.heap.size ≤ L; omega)) _, by have := blk_set (hk6.blk H5.out.loc (fun e => by omega)) 3 (.int .i64 0); simpa using this, blk_far (hk6.blk H5.out.res (fun e => by omega)) (by show w.heap.size ≠ L; omega) _, hk⟩)); clear hp6 hk6 hw6)
  clear H5 i6 i5n
  go_upto_region 7 with (go_at_call 116; (with_reducible refine (must_calls H6.out.ps _ i7).mono ?_); rintro e w7 ⟨rfl, hp7, hk7⟩; have H7 := Aside0.mk (H6.out.call hp7 hk7); clear hp7 hk7)
  clear H6 i7
  go_upto_region 8 with (go_at_call 148; (with_reducible refine (row_one H7.out.ps i8 i9).mono ?_); rintro e w8 ⟨rb, ⟨rfl, hp8, hk8⟩, hb8, hr8⟩; have H8 := Aside0.mk (H7.out.call hp8 hk8); have HB8 := Aside0.mk hb8; clear hp8 hk8 hb8)
  go_loopg [25] 2 (fun kq v25 w' => (kq = 2 ∧ v25 = .int .i64 0 ∧ TI tb w p w.heap.size L (a9 :: b :: rs) #[.string nm, .int .i64 T, .int .i64 D, .int .i64 0, .int .i64 0, .int .i64 0, .slice none 0 0, .int .u64 0, .int .u64 0] w' ∧ TokB w' rb a8) ∨ (kq = 1 ∧ v25 = .int .i64 1 ∧ ∃ A c, TI tb w p w.heap.size L (a9 :: b :: rs) #[.string nm, .int .i64 T, .int .i64 D, .int .i64 0, .int .i64 0, .int .i64 0, .slice A 1 c, .int .u64 0, .int .u64 0] w' ∧ Kd.R (Kd.int .i64) 2 w' w.heap.size (fun _ => True) (.slice A 1 c) [r]))
  case atStart => exact Or.inl ⟨rfl, rfl, H8.out, HB8.out⟩
  case round =>
    clear H8 HB8
    rcases hrel with ⟨rfl, rfl, H9, cs8, u0, u1, u2, u3, u4⟩ | ⟨rfl, rfl, A, c, H9, HR9⟩
    · have H9 := Aside0.mk H9
      have y0 := (blk_cell u0 0).trans u1
      have y1 := (blk_cell u0 1).trans u2
      have y2 := (blk_cell u0 2).trans u3
      have y3 := (blk_cell u0 3).trans u4
      rw [i8] at y0
      rw [i8n] at y2
      generalize a8.f1 = t1 at y1
      generalize a8.f3 = t3 at y3
      have hrb := blk_lt u0
      clear u0 u1 u2 u3 u4 H7
      have hu155 := Tryz.underlying155
      go_upto_region 10 with fail
      have hal : Below wr.heap.size wr (wr.alloc (.cells #[.int .i64 2, .string t1, .int .i64 r, .int .i64 t3] 155)) := Below.alloc (Below.refl _ _) (Nat.le_refl _) _
      have H10 := Aside0.mk (H9.out.below hal)
      have X10 : (wr.alloc (.cells #[.int .i64 2, .string t1, .int .i64 r, .int .i64 t3] 155)).cell? ⟨wr.heap.size, 2, none⟩ = some (.int .i64 r) := (blk_cell (heap_alloc_new wr _) 2).trans rfl
      have hXL : wr.heap.size < (wr.alloc (.cells #[.int .i64 2, .string t1, .int .i64 r, .int .i64 t3] 155)).heap.size := blk_lt (heap_alloc_new wr _)
      clear y0 y1 y2 y3 H9 hal hrb
      generalize (wr.alloc (.cells #[.int .i64 2, .string t1, .int .i64 r, .int .i64 t3] 155)) = W at H10 X10 hXL ⊢
      generalize wr.heap.size = xb at X10 hXL ⊢
      have hL := blk_lt H10.out.loc
      have z6 : W.cell? ⟨L, 6, none⟩ = some (.slice none 0 0) := blk_cell H10.out.loc 6
      go_wp2_with ((with_reducible refine gate_builtin (b := .append) (xs := #[.tmp 30, .tmp 33]) rfl ?_); at_builtin; (refine Kd.R_append (Kd.int .i64) (w0 := W) W.heap.size rfl (.tmp 30) (.tmp 33) 28 2 (.int .i64 0) 8 rfl Tryz.underlying28 info2k rfl (by decide) (by omega) (.slice none 0 0) [] r [.int .i64 r] (fun _ => True) (fun _ => False) rfl rfl ?aP (fun _ hk => hk.elim) (fun _ _ => trivial) ?aO ?aB ?aS ?aL ?_; (case aP => exact rfl); (case aO => exact Kd.R_nil _ _ _ _ _); (case aB => exact Below.refl _ _); (case aS => exact Nat.le_refl _); (case aL => simp); intro v9 w9 hR9 hB9 hg9 hat9; obtain ⟨A9, c9, rfl⟩ := Kd.R_slice hR9; replace hR9 := Aside0.mk hR9; have H11 := Aside0.mk (H10.out.below hB9); have q6 := blk_frozen H11.out.loc 6; have z69 : w9.cell? ⟨L, 6, none⟩ = some (.slice none 0 0) := blk_cell H11.out.loc 6; have hs9 := hB9.size; clear hB9 hg9 hat9))
      go_roundg 1
      case measure => exact Nat.lt_succ_self _
      case rel =>
        have H12 := H11.out.set 6 (.slice A9 1 c9)
        simp only [List.setIfInBounds_toArray, List.set_cons_succ, List.set_cons_zero] at H12
        have hLw := H12.lt
        refine Or.inr ⟨rfl, rfl, A9, c9, H12, ?_⟩
        exact Kd.R_set (Kd.R_lower hR9.out H10.out.kp.size) H11.out.loc (fun q hq => by rw [List.mem_singleton.mp hq]; decide) _ _
    · have H9 := Aside0.mk H9
      have HR9 := Aside0.mk HR9
      clear H7
      go_upto_region 12 with fail
      go_upto_region 13 with (go_at_call 149; (with_reducible refine (sets_no H9.out.ps _ i9a).mono ?_); rintro e w10 ⟨rfl, hp10, hk10⟩; have H10 := Aside0.mk (H9.out.call hp10 hk10); have hR10 := Aside0.mk (R_task HR9.out H9.out hk10); have q7 := blk_frozen H10.out.loc 7; have z7 : w10.cell? ⟨L, 7, none⟩ = some (.int .u64 0) := blk_cell H10.out.loc 7; clear hp10 hk10)
      have H10b := H10.out.set 7 (.int .u64 0)
      simp only [List.setIfInBounds_toArray, List.set_cons_succ, List.set_cons_zero] at H10b
      replace hR10 := Aside0.mk (Kd.R_set hR10.out H10.out.loc (fun q hq => by rw [List.mem_singleton.mp hq]; decide) 7 (.int .u64 0))
      replace H10 := Aside0.mk H10b
      clear H10b q7 z7 H9 HR9
      generalize (w10.setCell ⟨L, 7, none⟩ (.int .u64 0)) = W10 at H10 hR10 ⊢
      go_upto_region 14 with (go_at_call 149; (with_reducible refine (sets_no H10.out.ps _ i9b).mono ?_); rintro e w11 ⟨rfl, hp11, hk11⟩; have H11 := Aside0.mk (H10.out.call hp11 hk11); have hR11 := Aside0.mk (R_task hR10.out H10.out hk11); have q7 := blk_frozen H11.out.loc 8; have z7 : w11.cell? ⟨L, 8, none⟩ = some (.int .u64 0) := blk_cell H11.out.loc 8; clear hp11 hk11)
      have H11b := H11.out.set 8 (.int .u64 0)
      simp only [List.setIfInBounds_toArray, List.set_cons_succ, List.set_cons_zero] at H11b
      replace hR11 := Aside0.mk (Kd.R_set hR11.out H11.out.loc (fun q hq => by rw [List.mem_singleton.mp hq]; decide) 8 (.int .u64 0))
      replace H11 := Aside0.mk H11b
      clear H11b q7 z7 H10 hR10
      generalize (w11.setCell ⟨L, 8, none⟩ (.int .u64 0)) = W11 at H11 hR11 ⊢
      go_upto_region 15 with (go_at_call 116; (with_reducible refine (must_calls H11.out.ps _ i9c).mono ?_); rintro e w12 ⟨rfl, hp12, hk12⟩; have H12 := Aside0.mk (H11.out.call hp12 hk12); have hR12 := Aside0.mk (R_task hR11.out H11.out hk12); clear hp12 hk12)
      clear H11 hR11
      have r0 := blk_frozen H12.out.res 0; have r1 := blk_frozen H12.out.res 1; have r2 := blk_frozen H12.out.res 2; have r3 := blk_frozen H12.out.res 3; have r4 := blk_frozen H12.out.res 4; have r5 := blk_frozen H12.out.res 5; have r6 := blk_frozen H12.out.res 6; have r7 := blk_frozen H12.out.res 7; have r8 := blk_frozen H12.out.res 8
      have v0 := (blk_cell H12.out.res 0).trans rfl; have v1 := (blk_cell H12.out.res 1).trans rfl; have v2 := (blk_cell H12.out.res 2).trans rfl; have v3 := (blk_cell H12.out.res 3).trans rfl; have v4 := (blk_cell H12.out.res 4).trans rfl; have v5 := (blk_cell H12.out.res 5).trans rfl; have v6 := (blk_cell H12.out.res 6).trans rfl; have v7 := (blk_cell H12.out.res 7).trans rfl; have v8 := (blk_cell H12.out.res 8).trans rfl
      have u0 := (blk_cell H12.out.loc 0).trans rfl; have u1 := (blk_cell H12.out.loc 1).trans rfl; have u2 := (blk_cell H12.out.loc 2).trans rfl; have u3 := (blk_cell H12.out.loc 3).trans rfl; have u4 := (blk_cell H12.out.loc 4).trans rfl; have u5 := (blk_cell H12.out.loc 5).trans rfl; have u6 := (blk_cell H12.out.loc 6).trans rfl; have u7 := (blk_cell H12.out.loc 7).trans rfl; have u8 := (blk_cell H12.out.loc 8).trans rfl
      go_wp2
      have G := TFin.set9 (show TFin tb w p w.heap.size (b :: rs) A c r z46c w12 from ⟨H12.out.ps, H12.out.kp, hR12.out, H12.out.res, Nat.le_refl _, hp⟩) (.string nm) (.int .i64 T) (.int .i64 D) (.int .i64 0) (.int .i64 0) (.int .i64 0) (.slice A 1 c) (.int .u64 0) (.int .u64 0)
      refine bodyPost_ret (results_cell_row rfl _ _ w.heap.size 46 _ (0, 0) _ rfl G.2.2.2.1 Tryz.underlying46 rfl (by kernel_rfl)) rfl ?_
      exact ⟨A, c, ⟨rfl, G.1, G.2.1⟩, G.2.2.1⟩
theorem PS.err {tb p : Nat} {w : World} {ts : List S155} (h : PS tb p ts w) : w.cell? ⟨p, 2, none⟩ = some (.int .i64 0) := by
  obtain ⟨o, c, cs, h1, h2, h3, h4⟩ := h
  exact blk_cell h1 2
structure QI (tb p X : Nat) (w : World) (ts : List S155) (cs : Array Value) (W : World) : Prop where
  ps : PS tb p ts W
  loc : W.heap[X]? = some (.cells cs 24 (0, 0))
  hB : Below w.heap.size w W
  ge : w.heap.size ≤ X ∧ w.heap.size ≤ p ∧ p ≠ X
section
variable {w W W' : World} {tb p X : Nat} {ts ts' : List S155} {cs : Array Value}
theorem QI.call (h : QI tb p X w ts cs W) (hp : PS tb p ts' W') (hk : Kp W W' (· = p)) : QI tb p X w ts' cs W' :=
  ⟨hp, hk.blk h.loc (fun e => h.ge.2.2 e.symm), h.hB.trans (hk.below h.hB.size (fun k e => by rw [e]; exact h.ge.2.1)), h.ge⟩
theorem QI.below (h : QI tb p X w ts cs W) (hb : Below W.heap.size W W') : QI tb p X w ts cs W' := h.call (h.ps.step hb) (Kp.of_below hb _)
theorem QI.set (h : QI tb p X w ts cs W) (i : Nat) (u : Value) : QI tb p X w ts (cs.setIfInBounds i u) (W.setCell ⟨X, i, none⟩ u) :=
  ⟨h.ps.set46 h.loc (by decide) (by decide) _ _, blk_set h.loc i u, Below.setCell h.hB h.ge.1 _, h.ge⟩
end
theorem tokC_of {w : World} {base : Nat} {ok : Nat → Prop} {v : Value} {xs : List S155} (h : Kd.R k155 155 w base ok v xs) (hn : 0 < xs.length) :
    ∃ tb o c cs n, n = xs.length ∧ v = .slice (some ⟨tb, o, none⟩) n c ∧ xs.length ≤ c ∧ w.heap[tb]? = some (.cells cs 155 (0, 0)) ∧ TokC cs o xs := by
  obtain ⟨A, c, rfl, hlc, hC⟩ := Kd.R_reads h
  obtain ⟨ad, rfl, hc0, _⟩ := at_T155 hC 0 (Int.le_refl 0) (by omega)
  have e0 : ad.add ((0 : Int).toNat * 4) = ad := rfl
  rw [e0] at hc0
  have hsp : ad.spot = none := by
    unfold World.cell? at hc0
    split at hc0
    · split at hc0
      · cases hc0
      · next hs => simpa using hs
    · cases hc0
  obtain ⟨g, o, sp⟩ := ad
  have hsp' : sp = none := hsp
  subst hsp'
  obtain ⟨cs, hcs⟩ : ∃ cs, w.heap[g]? = some (.cells cs 155 (0, 0)) := by
    obtain ⟨h0, inner, ho, hr⟩ := h
    exact own_typed ho g (by
      rcases ho.2 with ⟨e, _⟩ | ⟨g', cap, cur, e, _⟩
      · cases e
      · injection e with e1 _ _
        injection e1 with e1
        injection e1 with ea eb
        rw [ea]; rfl)
  refine ⟨g, o, c, cs, _, rfl, rfl, hlc, hcs, fun j t hj => ?_⟩
  have hlt : j < xs.length := by
    rcases Nat.lt_or_ge j xs.length with x | x
    · exact x
    · rw [List.getElem?_eq_none x] at hj; cases hj
  obtain ⟨ad, e, d0, d1, d2, d3⟩ := at_T155 hC (j : Int) (by omega) (by omega)
  have hrd : rd_T155 xs (j : Int) = t := by
    unfold rd_T155
    rw [Int.toNat_natCast, List.getD_eq_getElem?_getD, hj]; rfl
  rw [hrd, Int.toNat_natCast] at d0 d1 d2 d3
  obtain rfl := Option.some.inj e
  have ea : (⟨g, o, none⟩ : Addr).add (j * 4) = ⟨g, o + j * 4, none⟩ := by
    unfold Addr.add
    by_cases x : j * 4 = 0
    · rw [if_pos x, x, Nat.add_zero]
    · rw [if_neg x]
  rw [ea] at d0 d1 d2 d3
  exact ⟨(blk_cell hcs _).symm.trans d0, (blk_cell hcs _).symm.trans d1, (blk_cell hcs _).symm.trans d2, (blk_cell hcs _).symm.trans d3⟩
structure TextToks (l : List S155) (rl : Int) (nm : ByteArray) (T D r : Int) : Prop where
  toks : ∃ a0 a1 a2 : S155, ∃ lt : List S155, ∃ e : S155, l = a0 :: a1 :: a2 :: (lt ++ [e]) ∧ isW a0 ⟨#[114, 101, 108, 111, 97, 100]⟩ = true ∧ a1.f0 = 2 ∧ a1.f2 = rl ∧ isW a2 ⟨#[59]⟩ = true ∧ TaskToks lt nm T D r ∧ e.f0 = 4
theorem TaskToks.head {lt : List S155} {nm : ByteArray} {T D r : Int} (h : TaskToks lt nm T D r) : ∃ h0 h1 l2, lt = h0 :: h1 :: l2 ∧ h0.f0 ≠ 4 := by
  obtain ⟨a0, a1, a2, a3, a4, a5, a6, a7, a8, a9, rfl, i0, _⟩ := h
  refine ⟨a0, a1, _, rfl, fun e => ?_⟩
  unfold isW at i0
  rw [Bool.and_eq_true] at i0
  have := of_decide_eq_true i0.1
  omega
theorem info3k : (Tryz.prog.info? 3).map (fun i => (i.zero, i.size, i.bytes)) = some (some (.int .i64 0), 1, 8) := by kernel_rfl
set_option maxHeartbeats 16000000 in
set_option maxRecDepth 100000 in
theorem parse_calls (w : World) (k : Nat) (s : ByteArray) (l : List S155) (m : Int) (rl : Int) (nm : ByteArray) (T D r : Int) (hT : TabW w) (ht : lex_Tokens.f k s = some (l, m, 0)) (hl : TextToks l rl nm T D r)
    (hall : ∀ W A c, Below w.heap.size w W → Kd.C k46 W A 1 [⟨nm, T, D, 0, 0, 0, [r], 0, 0⟩] → 1 ≤ c → Calls Tryz.prog 20 #[.agg #[.int .i64 rl, .slice A 1 c]] W fun e w' => e = .returned (.bool true) ∧ Below W.heap.size W w') :
    Calls Tryz.prog 74 #[.string s] w fun e w' => ∃ A c, e = .returned (.tuple #[.agg #[.int .i64 rl, .slice A 1 c], .int .i64 (s.size : Int), .int .i64 0]) ∧ Kd.R k46 46 w' w.heap.size (fun _ => True) (.slice A 1 c) [⟨nm, T, D, 0, 0, 0, [r], 0, 0⟩] ∧ Below w.heap.size w w' := by
  obtain ⟨a0, a1, a2, lt, e, rfl, i0, i1, i1n, i2, hlt, ie⟩ := hl
  obtain ⟨h0, h1, l2, elt, h04⟩ := hlt.head
  have HT := Aside0.mk hT
  have HK := Aside0.mk ht
  have HALL := Aside0.mk hall
  have hb0 : Below w.heap.size w (w.alloc (.cells #[.int .i64 0, .slice none 0 0] 24)) := Below.alloc (Below.refl _ _) (Nat.le_refl _) _
  have HB0 := Aside0.mk hb0
  have HX0 := Aside0.mk (heap_alloc_new w (.cells #[.int .i64 0, .slice none 0 0] 24))
  have hu24 := Tryz.underlying24
  clear hT ht hall hb0
  go_enter Tryz.func74, Tryz.ntmps74
  go_upto_region 4 with (go_at_call 103; (with_reducible refine (lex_Tokens.calls k s _ m 0 _ (HT.out.below (HB0.out)) HK.out).mono ?_); (rintro e1 w1 ⟨v, rfl, hR, hb⟩; obtain ⟨tb, o, c, cs, n, hn, rfl, hlc, htb, htk⟩ := tokC_of hR (by simp); have HB1 := Aside0.mk (HB0.out.trans (hb.mono (by simp))); have HX1 := Aside0.mk (blk_below HX0.out hb); have HT1 := Aside0.mk (And.intro hn (And.intro hlc (And.intro htb htk))); clear hR hb hlc htb htk hn))
  have HQ1 : QI tb w1.heap.size w.heap.size w (a0 :: a1 :: a2 :: (lt ++ [e])) #[.int .i64 0, .slice none 0 0] (w1.alloc (.cells #[.slice (some ⟨tb, o, none⟩) n c, .int .i64 0, .int .i64 0] 174)) := by
    obtain ⟨hn, hlc, htb, htk⟩ := HT1.out
    subst hn
    have hal : Below w1.heap.size w1 (w1.alloc (.cells #[.slice (some ⟨tb, o, none⟩) (a0 :: a1 :: a2 :: (lt ++ [e])).length c, .int .i64 0, .int .i64 0] 174)) := Below.alloc (Below.refl _ _) (Nat.le_refl _) _
    refine ⟨⟨o, c, cs, heap_alloc_new _ _, hlc, (hal.block _ (blk_lt htb)).trans htb, htk⟩, (hal.block _ (blk_lt HX1.out)).trans HX1.out, HB1.out.trans (hal.mono HB1.out.size), Nat.le_refl _, HB1.out.size, ?_⟩
    have := blk_lt HX1.out
    omega
  replace HQ1 := Aside0.mk HQ1
  clear HB1 HX1 HT1
  go_upto_region 5 with fail
  generalize (w1.alloc (.cells #[.slice (some ⟨tb, o, none⟩) n c, .int .i64 0, .int .i64 0] 174)) = W1 at HQ1 ⊢
  generalize w1.heap.size = p at HQ1 ⊢
  go_upto_region 6 with (go_at_call 115; (with_reducible refine (after_calls HQ1.out.ps _ i0 i1).mono ?_); rintro e1 w2 ⟨rfl, hp2, hk2⟩; have HQ2 := Aside0.mk (HQ1.out.call hp2 hk2); have q1 := blk_frozen HQ2.out.loc 0; have z1 : w2.cell? ⟨w.heap.size, 0, none⟩ = some (.int .i64 0) := blk_cell HQ2.out.loc 0; clear hp2 hk2)
  have HQ3 := HQ2.out.set 0 (.int .i64 rl)
  simp only [List.setIfInBounds_toArray, List.set_cons_succ, List.set_cons_zero] at HQ3
  replace HQ3 := Aside0.mk HQ3
  clear HQ2 HQ1 q1 z1 i0 i1 i1n HX0
  generalize (w2.setCell ⟨w.heap.size, 0, none⟩ (.int .i64 rl)) = W3 at HQ3 ⊢
  obtain rfl := elt
  go_upto_region 7 with (go_at_call 116; (with_reducible refine (must_calls HQ3.out.ps _ i2).mono ?_); rintro e1 w4 ⟨rfl, hp4, hk4⟩; have HQ4 := Aside0.mk (HQ3.out.call hp4 hk4); clear hp4 hk4)
  clear HQ3 i2
  replace hlt := Aside0.mk hlt
  go_upto_region 8 with fail
  go_loopg [8] 2 (fun kq v8 w' => (kq = 2 ∧ v8 = .slice none 0 0 ∧ QI tb p w.heap.size w (h0 :: h1 :: (l2 ++ [e])) #[.int .i64 rl, .slice none 0 0] w') ∨ (kq = 1 ∧ ∃ A c, QI tb p w.heap.size w [e] #[.int .i64 rl, .slice A 1 c] w' ∧ Kd.R k46 46 w' w.heap.size (fun _ => True) (.slice A 1 c) [⟨nm, T, D, 0, 0, 0, [r], 0, 0⟩]))
  case atStart => exact Or.inl ⟨rfl, rfl, HQ4.out⟩
  case round =>
    clear HQ4
    rcases hrel with ⟨rfl, rfl, H5⟩ | ⟨rfl, A, c, H5, HR5⟩
    · have H5 := Aside0.mk H5
      have hb4 : (h0.f0 != 4) = true := bne_iff_ne.mpr h04
      have e2 : wr.cell? ⟨p, 2, none⟩ = some (.int .i64 0) := H5.out.ps.err
      go_upto_region 9 with (first | (go_at_call 117; (with_reducible refine (pnext_calls H5.out.ps).mono ?_); rintro e1 w5 ⟨rfl, hb5⟩; have H6 := Aside0.mk (H5.out.below hb5); have e26 : w5.cell? ⟨p, 2, none⟩ = some (.int .i64 0) := H6.out.ps.err; clear hb5))
      go_upto_region 10 with (first | (go_at_call 117; (with_reducible refine (pnext_calls H6.out.ps).mono ?_); rintro e1 w6 ⟨rfl, hb6⟩; have H7 := Aside0.mk (H6.out.below hb6); clear hb6) | ((with_reducible refine gate_builtin (b := .append) (xs := #[.tmp 39, .tmp 43]) rfl ?_); at_builtin; (refine Kd.R_append (Kd.int .i64) (w0 := w6) w6.heap.size rfl (.tmp 39) (.tmp 43) 74 3 (.int .i64 0) 8 rfl Tryz.underlying74 info3k rfl (by decide) (by omega) (.slice none 0 0) [] h0.f3 [.int .i64 h0.f3] (fun _ => True) (fun _ => False) rfl rfl ?aP (fun _ hk => hk.elim) (fun _ _ => trivial) ?aO ?aB ?aS ?aL ?_; (case aP => exact rfl); (case aO => exact Kd.R_nil _ _ _ _ _); (case aB => exact Below.refl _ _); (case aS => exact Nat.le_refl _); (case aL => simp); intro v9 w9 hR9 hB9 hg9 hat9; have H8 := Aside0.mk (H7.out.below hB9); clear hR9 hB9 hg9 hat9)))
      clear H5 H6 H7 e2 e26
      have z1 : w9.cell? ⟨w.heap.size, 1, none⟩ = some (.slice none 0 0) := blk_cell H8.out.loc 1
      have hX9 := blk_lt H8.out.loc
      have HTS := Aside0.mk (fun (W : World) (hW : QI tb p w.heap.size w (h0 :: h1 :: (l2 ++ [e])) #[.int .i64 rl, .slice none 0 0] W) => task_calls hlt.out hW.ps)
      go_region_law (first | (refine Kd.R_append_step k46 (w0 := w) (W := w11) w.heap.size (by rfl) _ _ 22 46 (.agg #[.string ByteArray.empty, .int .i64 0, .int .i64 0, .int .i64 0, .int .i64 0, .int .i64 0, .slice none 0 0, .int .u64 0, .int .u64 0]) 96 (by rfl) Tryz.underlying22 info46k rfl (by decide) (by omega) (.slice none 0 0) [] ⟨nm, T, D, 0, 0, 0, [r], 0, 0⟩ [.string nm, .int .i64 T, .int .i64 D, .int .i64 0, .int .i64 0, .int .i64 0, .slice A6 1 c6, .int .u64 0, .int .u64 0] (fun _ => True) (fun _ => True) (by rfl) (by rfl) HM.out ?sK (fun _ _ => trivial) (Kd.R_nil _ _ _ _ _) H11.out.hB H11.out.hB.size (by simp) ?_; (case sK => intro k _; exact ⟨trivial, by simp [Value.ownBlock]⟩); intro v1 w12 hR12 hB12 hg12 hat12; obtain ⟨A12, c12, rfl⟩ := Kd.R_slice hR12; have H12 := Aside0.mk (H11.out.below (pw_below_grown (Below.refl _ _) none (Nat.le_refl _) hg12 (by simp))); have HR12 := Aside0.mk hR12; have z12 : w12.cell? ⟨w.heap.size, 1, none⟩ = some (.slice none 0 0) := blk_cell H12.out.loc 1; have q12 := blk_frozen H12.out.loc 1; clear hR12 hB12 hg12 hat12) | (go_simp; go_at_call 118; (with_reducible refine (HTS.out _ ?sQ).mono ?_); (case sQ => first | exact H8.out | exact H8.out.below (below_drew (Below.refl _ _))); rintro e1 w11 ⟨A6, c6, ⟨rfl, hp11, hk11⟩, hR6⟩; have H11 := Aside0.mk ((H8.out.below (below_drew (Below.refl _ _))).call hp11 hk11); have HM := Aside0.mk (k46_mkM w11 w.heap.size (fun _ => True) ⟨nm, T, D, 0, 0, 0, [r], 0, 0⟩ (Kd.R_lower hR6 H8.out.hB.size)); have z11 : w11.cell? ⟨w.heap.size, 1, none⟩ = some (.slice none 0 0) := blk_cell H11.out.loc 1; have hX11 := blk_lt H11.out.loc; clear hp11 hk11 hR6))
      all_goals
        go_wp2
        go_roundg 1
        case measure => exact Nat.lt_succ_self _
        case rel =>
          have H13 := H12.out.set 1 (.slice A12 1 c12)
          simp only [List.setIfInBounds_toArray, List.set_cons_succ, List.set_cons_zero] at H13
          exact Or.inr ⟨rfl, A12, c12, H13, Kd.R_set HR12.out H12.out.loc (fun q hq => by rcases k46_E q hq with rfl | rfl <;> decide) _ _⟩
    · have H5 := Aside0.mk H5
      have HR5 := Aside0.mk HR5
      have hb4 : (e.f0 != 4) = false := bne_eq_false_iff_eq.mpr ie
      have e2 : wr.cell? ⟨p, 2, none⟩ = some (.int .i64 0) := H5.out.ps.err
      go_upto_region 11 with (first | (go_at_call 117; (with_reducible refine (pnext_calls H5.out.ps).mono ?_); rintro e1 w5 ⟨rfl, hb5⟩; have H6 := Aside0.mk (H5.out.below hb5); have HR6 := Aside0.mk (Kd.R_below HR5.out hb5); have e26 : w5.cell? ⟨p, 2, none⟩ = some (.int .i64 0) := H6.out.ps.err; clear hb5))
      have HC6 := Aside0.mk (show Kd.C k46 w5 A 1 [⟨nm, T, D, 0, 0, 0, [r], 0, 0⟩] ∧ 1 ≤ c from ⟨(Kd.R_reads' HR6.out).2.2, (Kd.R_reads' HR6.out).2.1⟩)
      have x0 := (blk_cell H6.out.loc 0).trans rfl
      have x1 := (blk_cell H6.out.loc 1).trans rfl
      go_upto_region 13 with (go_at_call 20; (with_reducible refine (HALL.out _ A c H6.out.hB HC6.out.1 HC6.out.2).mono ?_); rintro e1 w7 ⟨rfl, hb7⟩; have H7 := Aside0.mk (H6.out.below hb7); have HR7 := Aside0.mk (Kd.R_below HR6.out hb7); have e27 : w7.cell? ⟨p, 2, none⟩ = some (.int .i64 0) := H7.out.ps.err; have x70 := (blk_cell H7.out.loc 0).trans rfl; have x71 := (blk_cell H7.out.loc 1).trans rfl; have q70 := blk_frozen H7.out.loc 0; have q71 := blk_frozen H7.out.loc 1; clear hb7)
      go_wp2
      have G := (H7.out.set 0 (.int .i64 rl)).set 1 (.slice A 1 c)
      simp only [List.setIfInBounds_toArray, List.set_cons_succ, List.set_cons_zero] at G
      have GR := Kd.R_set (Kd.R_set HR7.out H7.out.loc (fun q hq => by rcases k46_E q hq with rfl | rfl <;> decide) 0 (.int .i64 rl)) (blk_set H7.out.loc 0 (.int .i64 rl)) (fun q hq => by rcases k46_E q hq with rfl | rfl <;> decide) 1 (.slice A 1 c)
      refine bodyPost_ret (results_ctt rfl _ _ w.heap.size 24 _ (0, 0) _ rfl G.loc Tryz.underlying24 rfl (by kernel_rfl)) rfl ?_
      exact ⟨A, c, rfl, GR, G.hB⟩
end Go.Proofs.YtaofmmnfenlofaaGreatDoor.QTc
namespace Go.Proofs.YtaofmmnfenlofaaGreatDoor.QTc
open Go.RowKit Go.Proofs.YtaofmmnfenlofaaGreatDoorW.PrintWords Go.Proofs.YtaofmmnfenlofaaGreatDoorW.PrintLast Go.Proofs.YtaofmmnfenlofaaGreatDoorW.PrintMore
set_option linter.unusedVariables false
set_option linter.unusedSimpArgs false
structure XI (w0 : World) (x : Nat) (rl : Int) (v : Value) (has : Bool) (p : Option Addr) (W : World) : Prop where
  blk : W.heap[x]? = some (.cells #[.int .i64 rl, v, .bool has, .pointer p] 82 (0, 0))
  hB : Below w0.heap.size w0 W
  ge : w0.heap.size ≤ x
section
variable {w0 W W' : World} {x : Nat} {rl : Int} {v : Value} {has : Bool} {p : Option Addr}
theorem XI.below (h : XI w0 x rl v has p W) (hb : Below W.heap.size W W') : XI w0 x rl v has p W' := ⟨(hb.block _ (blk_lt h.blk)).trans h.blk, h.hB.trans (hb.mono h.hB.size), h.ge⟩
theorem XI.far (h : XI w0 x rl v has p W) {g : Nat} (hg : x < g) (i : Nat) (u : Value) : XI w0 x rl v has p (W.setCell ⟨g, i, none⟩ u) := by
  have := h.ge
  exact ⟨blk_far h.blk (by show x ≠ g; omega) _, Below.setCell h.hB (by show w0.heap.size ≤ g; omega) _, h.ge⟩
theorem XI.far7 (h : XI w0 x rl v has p W) {g : Nat} (hg : x < g) (v0 v1 v2 v3 v4 v5 v6 : Value) : XI w0 x rl v has p (((((((W.setCell ⟨g, 0, none⟩ v0).setCell ⟨g, 1, none⟩ v1).setCell ⟨g, 2, none⟩ v2).setCell ⟨g, 3, none⟩ v3).setCell ⟨g, 4, none⟩ v4).setCell ⟨g, 5, none⟩ v5).setCell ⟨g, 6, none⟩ v6) :=
  ((((((h.far hg 0 v0).far hg 1 v1).far hg 2 v2).far hg 3 v3).far hg 4 v4).far hg 5 v5).far hg 6 v6
end
theorem row7_set {W : World} {g t : Nat} {a0 a1 a2 a3 a4 a5 a6 : Value} (h : W.heap[g]? = some (.cells #[a0, a1, a2, a3, a4, a5, a6] t (0, 0))) (v0 v1 v2 v3 v4 v5 v6 : Value) : (((((((W.setCell ⟨g, 0, none⟩ v0).setCell ⟨g, 1, none⟩ v1).setCell ⟨g, 2, none⟩ v2).setCell ⟨g, 3, none⟩ v3).setCell ⟨g, 4, none⟩ v4).setCell ⟨g, 5, none⟩ v5).setCell ⟨g, 6, none⟩ v6).heap[g]? = some (.cells #[v0, v1, v2, v3, v4, v5, v6] t (0, 0)) := by
  have := blk_set (blk_set (blk_set (blk_set (blk_set (blk_set (blk_set h 0 v0) 1 v1) 2 v2) 3 v3) 4 v4) 5 v5) 6 v6
  simpa using this
theorem R_set7 {α : Type} {d : Kd α} {e base : Nat} {ok : Nat → Prop} {v : Value} {xs : List α} {W : World} {g t : Nat} {cs : Array Value} (h : Kd.R d e W base ok v xs) (hb : W.heap[g]? = some (.cells cs t (0, 0))) (ht : ∀ q, q ∈ e :: d.E → q ≠ t) (v0 v1 v2 v3 v4 v5 v6 : Value) : Kd.R d e (((((((W.setCell ⟨g, 0, none⟩ v0).setCell ⟨g, 1, none⟩ v1).setCell ⟨g, 2, none⟩ v2).setCell ⟨g, 3, none⟩ v3).setCell ⟨g, 4, none⟩ v4).setCell ⟨g, 5, none⟩ v5).setCell ⟨g, 6, none⟩ v6) base ok v xs := by
  have b0 := blk_set hb 0 v0; have b1 := blk_set b0 1 v1; have b2 := blk_set b1 2 v2; have b3 := blk_set b2 3 v3; have b4 := blk_set b3 4 v4; have b5 := blk_set b4 5 v5
  exact Kd.R_set (Kd.R_set (Kd.R_set (Kd.R_set (Kd.R_set (Kd.R_set (Kd.R_set h hb ht 0 v0) b0 ht 1 v1) b1 ht 2 v2) b2 ht 3 v3) b3 ht 4 v4) b4 ht 5 v5) b5 ht 6 v6
theorem below_set7 {w W : World} {g : Nat} (hb : Below w.heap.size w W) (hg : w.heap.size ≤ g) (v0 v1 v2 v3 v4 v5 v6 : Value) : Below w.heap.size w (((((((W.setCell ⟨g, 0, none⟩ v0).setCell ⟨g, 1, none⟩ v1).setCell ⟨g, 2, none⟩ v2).setCell ⟨g, 3, none⟩ v3).setCell ⟨g, 4, none⟩ v4).setCell ⟨g, 5, none⟩ v5).setCell ⟨g, 6, none⟩ v6) :=
  Below.setCell (Below.setCell (Below.setCell (Below.setCell (Below.setCell (Below.setCell (Below.setCell hb hg _) hg _) hg _) hg _) hg _) hg _) hg _
theorem Kp.new7 {w W : World} {S : Nat → Prop} {g : Nat} (h : Kp w W S) (hg : w.heap.size ≤ g) (v0 v1 v2 v3 v4 v5 v6 : Value) : Kp w (((((((W.setCell ⟨g, 0, none⟩ v0).setCell ⟨g, 1, none⟩ v1).setCell ⟨g, 2, none⟩ v2).setCell ⟨g, 3, none⟩ v3).setCell ⟨g, 4, none⟩ v4).setCell ⟨g, 5, none⟩ v5).setCell ⟨g, 6, none⟩ v6) S :=
  ((((((h.set (Or.inr hg) _).set (Or.inr hg) _).set (Or.inr hg) _).set (Or.inr hg) _).set (Or.inr hg) _).set (Or.inr hg) _).set (Or.inr hg) _
abbrev z61 : Array Value := #[.int .i64 0, .int .i64 0, .int .i64 0, .int .i64 0, .slice none 0 0, .string ⟨#[]⟩, .slice none 0 0]
set_option maxHeartbeats 8000000 in
set_option maxRecDepth 100000 in
theorem load_calls {w0 w : World} {x : Nat} (s : ByteArray) (rl m : Int) (T : List S46) (h : XI w0 x 0 (.slice none 0 0) false none w) (hT1 : T.length = 1)
    (hP : ∀ W, Below w.heap.size w W → Calls Tryz.prog 74 #[.string s] W fun e w' => ∃ A c, e = .returned (.tuple #[.agg #[.int .i64 rl, .slice A 1 c], .int .i64 m, .int .i64 0]) ∧ Kd.R k46 46 w' W.heap.size (fun _ => True) (.slice A 1 c) T ∧ Below W.heap.size W w') :
    Calls Tryz.prog 40 #[.pointer (some ⟨x, 0, none⟩), .string s] w fun e w' => ∃ A c, e = .returned (.agg #[.int .i64 0, .int .i64 m, .int .i64 0, .int .i64 0, .slice none 0 0, .string ⟨#[]⟩, .slice none 0 0]) ∧ XI w0 x rl (.slice A 1 c) true none w' ∧ Kd.R k46 46 w' w0.heap.size (fun _ => True) (.slice A 1 c) T ∧ Kp w w' (· = x) := by
  have hu24 := Tryz.underlying24
  have hu61 := Tryz.underlying61
  have hx := blk_lt h.blk
  have hb0 : Below w.heap.size w (w.alloc (.cells z61 61)) := Below.alloc (Below.refl _ _) (Nat.le_refl _) _
  have HX0 := Aside0.mk (h.below hb0)
  have HR0 := Aside0.mk (heap_alloc_new w (.cells z61 61))
  have HP := Aside0.mk hP
  have HT1 := Aside0.mk hT1
  have k3 : w.cell? ⟨x, 3, none⟩ = some (.pointer none) := blk_cell h.blk 3
  replace hb0 := Aside0.mk hb0
  clear h hP hT1
  go_enter Tryz.func40, Tryz.ntmps40
  go_upto_region 4 with (go_at_call 74; (with_reducible refine (HP.out _ hb0.out).mono ?_); rintro e w1 ⟨A, c, rfl, hR, hb1⟩; have HX1 := Aside0.mk (HX0.out.below hb1); have HR1 := Aside0.mk ((hb1.block _ (blk_lt HR0.out)).trans HR0.out); have HS1 := Aside0.mk hR; have HB1 := Aside0.mk (hb0.out.trans (hb1.mono hb0.out.size)); clear hb1 hR)
  have hal : Below w1.heap.size w1 (w1.alloc (.cells #[.int .i64 rl, .slice A 1 c] 24)) := Below.alloc (Below.refl _ _) (Nat.le_refl _) _
  have HX2 := Aside0.mk (HX1.out.below hal)
  have HR2 := Aside0.mk ((hal.block _ (blk_lt HR1.out)).trans HR1.out)
  have HS2 := Aside0.mk (Kd.R_below HS1.out hal)
  have HB2 := Aside0.mk (HB1.out.trans (hal.mono HB1.out.size))
  have c0 := (blk_cell (heap_alloc_new w1 (.cells #[.int .i64 rl, .slice A 1 c] 24)) 0).trans rfl
  have c1 := (blk_cell (heap_alloc_new w1 (.cells #[.int .i64 rl, .slice A 1 c] 24)) 1).trans rfl
  have hlt1 := blk_lt HR1.out
  have hne1 : w1.heap.size ≠ x := by have := blk_lt HX1.out.blk; omega
  clear HX1 HR1 HS1 hal
  generalize (w1.alloc (.cells #[.int .i64 rl, .slice A 1 c] 24)) = W2 at HX2 HR2 HS2 HB2 c0 c1 ⊢
  generalize w1.heap.size = lb at c0 c1 hne1 ⊢
  have x0 := (blk_cell HX2.out.blk 0).trans rfl
  have x1 := (blk_cell HX2.out.blk 1).trans rfl
  have x2 := (blk_cell HX2.out.blk 2).trans rfl
  have f0 := blk_frozen HX2.out.blk 0
  have f1 := blk_frozen HX2.out.blk 1
  have f2 := blk_frozen HX2.out.blk 2
  have r0 := (blk_cell HR2.out 0).trans rfl
  have r1 := (blk_cell HR2.out 1).trans rfl
  have r2 := (blk_cell HR2.out 2).trans rfl
  have r3 := (blk_cell HR2.out 3).trans rfl
  have r4 := (blk_cell HR2.out 4).trans rfl
  have r5 := (blk_cell HR2.out 5).trans rfl
  have r6 := (blk_cell HR2.out 6).trans rfl
  have g0 := blk_frozen HR2.out 0
  have g1 := blk_frozen HR2.out 1
  have g2 := blk_frozen HR2.out 2
  have g3 := blk_frozen HR2.out 3
  have g4 := blk_frozen HR2.out 4
  have g5 := blk_frozen HR2.out 5
  have g6 := blk_frozen HR2.out 6
  go_wp2
  have X3 : XI w0 x rl (.slice A 1 c) true none (((W2.setCell ⟨x, 0, none⟩ (.int .i64 rl)).setCell ⟨x, 1, none⟩ (.slice A 1 c)).setCell ⟨x, 2, none⟩ (.bool true)) := by
    have b := blk_set (blk_set (blk_set HX2.out.blk 0 (.int .i64 rl)) 1 (.slice A 1 c)) 2 (.bool true)
    exact ⟨by simpa using b, Below.setCell (Below.setCell (Below.setCell HX2.out.hB HX2.out.ge _) HX2.out.ge _) HX2.out.ge _, HX2.out.ge⟩
  have ht82 : ∀ q, q ∈ 46 :: k46.E → q ≠ 82 := fun q hq => by rcases k46_E q hq with rfl | rfl <;> decide
  have ht61 : ∀ q, q ∈ 46 :: k46.E → q ≠ 61 := fun q hq => by rcases k46_E q hq with rfl | rfl <;> decide
  have S3 := Kd.R_set (Kd.R_set (Kd.R_set HS2.out HX2.out.blk ht82 0 (.int .i64 rl)) (blk_set HX2.out.blk 0 (.int .i64 rl)) ht82 1 (.slice A 1 c)) (blk_set (blk_set HX2.out.blk 0 (.int .i64 rl)) 1 (.slice A 1 c)) ht82 2 (.bool true)
  have hne : w.heap.size ≠ x := by omega
  have R3 := blk_far (blk_far (blk_far HR2.out (p := ⟨x, 0, none⟩) hne (.int .i64 rl)) (p := ⟨x, 1, none⟩) hne (.slice A 1 c)) (p := ⟨x, 2, none⟩) hne (.bool true)
  have G := row7_set R3 (.int .i64 0) (.int .i64 m) (.int .i64 0) (.int .i64 0) (.slice none 0 0) (.string ⟨#[]⟩) (.slice none 0 0)
  refine bodyPost_ret (results_cell_row rfl _ _ w.heap.size 61 _ (0, 0) _ rfl G Tryz.underlying61 rfl (by kernel_rfl)) rfl ?_
  exact ⟨A, c, rfl, X3.far7 hx _ _ _ _ _ _ _, R_set7 (Kd.R_lower S3 (Nat.le_trans HX0.out.hB.size (Nat.le_refl _))) R3 ht61 _ _ _ _ _ _ _, Kp.new7 ((((Kp.of_below HB2.out _).set1 _ _).set1 _ _).set1 _ _) (Nat.le_refl _) _ _ _ _ _ _ _⟩
theorem idle_calls {w0 w : World} {x : Nat} {rl : Int} {v : Value} (h : XI w0 x rl v true none w) : Calls Tryz.prog 75 #[.pointer (some ⟨x, 0, none⟩)] w fun e w' => e = .returned (.bool true) ∧ Below w.heap.size w w' := by
  have k2 : w.cell? ⟨x, 2, none⟩ = some (.bool true) := blk_cell h.blk 2
  have k3 : w.cell? ⟨x, 3, none⟩ = some (.pointer none) := blk_cell h.blk 3
  clear h
  go_enter Tryz.func75, Tryz.ntmps75
  go_wp2
  go_ret
  exact ⟨rfl, by repeat (first | exact Below.refl _ _ | apply pw_below_drewN | apply below_drew1)⟩
set_option maxHeartbeats 8000000 in
set_option maxRecDepth 100000 in
theorem judgeE_calls {w0 w : World} {x : Nat} {rl how tk : Int} {A : Option Addr} {n c : Nat} {p : Option Addr} (h : XI w0 x rl (.slice A n c) true p w)
    (hJ : ∀ W, Below w.heap.size w W → Calls Tryz.prog 9 #[.agg #[.int .i64 rl, .slice A n c]] W fun e w' => ∃ A5 n5 c5, e = .returned (.tuple #[.agg #[.int .i64 how, .int .i64 tk, .slice A5 n5 c5], .int .i64 0]) ∧ Below W.heap.size W w') :
    Calls Tryz.prog 41 #[.pointer (some ⟨x, 0, none⟩)] w fun e w' => ∃ A5 n5 c5, e = .returned (.agg #[.int .i64 0, .int .i64 0, .int .i64 how, .int .i64 tk, .slice A5 n5 c5, .string ⟨#[]⟩, .slice none 0 0]) ∧ Below w.heap.size w w' := by
  have hu24 := Tryz.underlying24
  have hu30 := Tryz.underlying30
  have hu61 := Tryz.underlying61
  have hb0 : Below w.heap.size w (w.alloc (.cells z61 61)) := Below.alloc (Below.refl _ _) (Nat.le_refl _) _
  have HR0 := Aside0.mk (heap_alloc_new w (.cells z61 61))
  have HJ := Aside0.mk hJ
  have hx := blk_lt h.blk
  have k0 : w.cell? ⟨x, 0, none⟩ = some (.int .i64 rl) := blk_cell h.blk 0
  have k1 : w.cell? ⟨x, 1, none⟩ = some (.slice A n c) := blk_cell h.blk 1
  have k2 : w.cell? ⟨x, 2, none⟩ = some (.bool true) := blk_cell h.blk 2
  replace hb0 := Aside0.mk hb0
  clear h hJ
  go_enter Tryz.func41, Tryz.ntmps41
  go_wp2_with (go_at_call 9; (with_reducible refine (HJ.out _ hb0.out).mono ?_); rintro e w1 ⟨A5, n5, c5, rfl, hb1⟩; have HR1 := Aside0.mk ((hb1.block _ (blk_lt HR0.out)).trans HR0.out); have HB1 := Aside0.mk (hb0.out.trans (hb1.mono hb0.out.size)); have hlt1 := blk_lt HR1.out; have r0 := (blk_cell HR1.out 0).trans rfl; have r1 := (blk_cell HR1.out 1).trans rfl; have r2 := (blk_cell HR1.out 2).trans rfl; have r3 := (blk_cell HR1.out 3).trans rfl; have r4 := (blk_cell HR1.out 4).trans rfl; have r5 := (blk_cell HR1.out 5).trans rfl; have r6 := (blk_cell HR1.out 6).trans rfl; have g0 := blk_frozen HR1.out 0; have g1 := blk_frozen HR1.out 1; have g2 := blk_frozen HR1.out 2; have g3 := blk_frozen HR1.out 3; have g4 := blk_frozen HR1.out 4; have g5 := blk_frozen HR1.out 5; have g6 := blk_frozen HR1.out 6; clear hb1)
  have G := row7_set HR1.out (.int .i64 0) (.int .i64 0) (.int .i64 how) (.int .i64 tk) (.slice A5 n5 c5) (.string ⟨#[]⟩) (.slice none 0 0)
  have hB := below_set7 HB1.out (Nat.le_refl _) (.int .i64 0) (.int .i64 0) (.int .i64 how) (.int .i64 tk) (.slice A5 n5 c5) (.string ⟨#[]⟩) (.slice none 0 0)
  refine bodyPost_ret (results_cell_row rfl _ _ w.heap.size 61 _ (0, 0) _ rfl (blk_alloc G _) Tryz.underlying61 rfl (by kernel_rfl)) rfl ?_
  exact ⟨A5, n5, c5, rfl, below_alloc hB _⟩
theorem KInv.lower {B0 B1 : Bs} {w : World} {g : Nat} {rl : Int} {T : List S46} {L : KL} {K : KS} {ev : Value} {X : Option Nat} (h : KInv B0 w g rl T L K ev X) (hb : B1.b ≤ B0.b) (he : B1.e ≤ B0.e) : KInv B1 w g rl T L K ev X := by
  refine { h with tasks := Kd.R_lower h.tasks hb, evs := Kd.R_lower h.evs he, job := ?_, ge := ?_ }
  · intro i hi hx hp
    obtain ⟨j, h1, h2, h3⟩ := h.job i hi hx hp
    exact ⟨j, h1, Nat.le_trans hb h2, h3.lower hb⟩
  · have := h.ge
    exact ⟨by omega, by omega, by omega, by omega, by omega⟩
theorem KInv.keepT {B0 : Bs} {w w' : World} {g t : Nat} {rl : Int} {T : List S46} {L : KL} {K : KS} {ev : Value} {X : Option Nat} (h : KInv B0 w g rl T L K ev X) (hk : KpT B0 w w' [t]) (ht : t = 82 ∨ t = 61) : KInv B0 w' g rl T L K ev X := by
  have n : ∀ q : Nat, q ≠ 82 → q ≠ 61 → q ∉ [t] := fun q h1 h2 hq => by rcases ht with rfl | rfl <;> simp at hq <;> omega
  exact { h with ker := hk.blk h.ker (n _ (by decide) (by decide)), tasks := hk.row h.tasks (fun q hq => by rcases k46_E q hq with rfl | rfl <;> exact n _ (by decide) (by decide)), pol := hk.pol h.pol (n _ (by decide) (by decide)) (n _ (by decide) (by decide)), cac := hk.cac h.cac (n _ (by decide) (by decide)), tab := hk.tab h.tab (n _ (by decide) (by decide)) (n _ (by decide) (by decide)), own := hk.rowE h.own (n _ (by decide) (by decide)), evs := hk.row h.evs (fun q hq => by rw [List.mem_singleton.mp hq]; exact n _ (by decide) (by decide)), job := fun i hi hx => (h.job i hi hx).kp hk (n _ (by decide) (by decide)) (n _ (by decide) (by decide)) }
theorem KInv.far {B0 : Bs} {w : World} {g t b : Nat} {rl : Int} {T : List S46} {L : KL} {K : KS} {ev : Value} {X : Option Nat} (h : KInv B0 w g rl T L K ev X) {cs : Array Value} (hb : w.heap[b]? = some (.cells cs t (0, 0))) (hB : B0.b ≤ b) (ht : t = 82 ∨ t = 61) (i : Nat) (u : Value) : KInv B0 (w.setCell ⟨b, i, none⟩ u) g rl T L K ev X :=
  h.keepT (KpT.one (Kp.set1 (Kp.refl _ _) _ _) hb hB (by rcases ht with rfl | rfl <;> decide)) ht
theorem KInv.far7 {B0 : Bs} {w : World} {g b : Nat} {rl : Int} {T : List S46} {L : KL} {K : KS} {ev : Value} {X : Option Nat} (h : KInv B0 w g rl T L K ev X) {cs : Array Value} (hb : w.heap[b]? = some (.cells cs 61 (0, 0))) (hB : B0.b ≤ b) (v0 v1 v2 v3 v4 v5 v6 : Value) : KInv B0 (((((((w.setCell ⟨b, 0, none⟩ v0).setCell ⟨b, 1, none⟩ v1).setCell ⟨b, 2, none⟩ v2).setCell ⟨b, 3, none⟩ v3).setCell ⟨b, 4, none⟩ v4).setCell ⟨b, 5, none⟩ v5).setCell ⟨b, 6, none⟩ v6) g rl T L K ev X := by
  have b0 := blk_set hb 0 v0; have b1 := blk_set b0 1 v1; have b2 := blk_set b1 2 v2; have b3 := blk_set b2 3 v3; have b4 := blk_set b3 4 v4; have b5 := blk_set b4 5 v5
  exact (((((((h.far hb hB (Or.inr rfl) 0 v0).far b0 hB (Or.inr rfl) 1 v1).far b1 hB (Or.inr rfl) 2 v2).far b2 hB (Or.inr rfl) 3 v3).far b3 hB (Or.inr rfl) 4 v4).far b4 hB (Or.inr rfl) 5 v5).far b5 hB (Or.inr rfl) 6 v6)
set_option maxHeartbeats 8000000 in
set_option maxRecDepth 100000 in
theorem start_calls {w0 w : World} {x : Nat} {rl tk : Int} {A : Option Addr} {c : Nat} {T : List S46} (fo : Bool) (h : XI w0 x rl (.slice A T.length c) true none w)
    (hJ : ∀ W, Below w.heap.size w W → Calls Tryz.prog 9 #[.agg #[.int .i64 rl, .slice A T.length c]] W fun e w' => ∃ A5 n5 c5, e = .returned (.tuple #[.agg #[.int .i64 1, .int .i64 tk, .slice A5 n5 c5], .int .i64 0]) ∧ Below W.heap.size W w')
    (hN : ∀ W, Below w.heap.size w W → Calls Tryz.prog 26 #[.agg #[.int .i64 rl, .slice A T.length c]] W fun e w' => ∃ g L K ev, e = .returned (.tuple #[.pointer (some ⟨g, 0, none⟩), .int .i64 0]) ∧ KInv (bsN W.heap.size) w' g rl T L K ev none ∧ K.abs = newA T ∧ Below W.heap.size W w') :
    Calls Tryz.prog 43 #[.pointer (some ⟨x, 0, none⟩), .bool fo] w fun e w' => ∃ A5 n5 c5 g L K ev, e = .returned (.agg #[.int .i64 0, .int .i64 0, .int .i64 1, .int .i64 tk, .slice A5 n5 c5, .string ⟨#[]⟩, .slice none 0 0]) ∧ XI w0 x rl (.slice A T.length c) true (some ⟨g, 0, none⟩) w' ∧ KInv (bsN w0.heap.size) w' g rl T L K ev none ∧ K.abs = newA T ∧ Kp w w' (· = x) := by
  have hu24 := Tryz.underlying24
  have hu30 := Tryz.underlying30
  have hu61 := Tryz.underlying61
  have hb0 : Below w.heap.size w (w.alloc (.cells z61 61)) := Below.alloc (Below.refl _ _) (Nat.le_refl _) _
  have HR0 := Aside0.mk (heap_alloc_new w (.cells z61 61))
  have HX0 := Aside0.mk (h.below hb0)
  have HJ := Aside0.mk (fun W (hW : Below w.heap.size w W) => judgeE_calls (h.below hW) (fun W' hW' => hJ W' (hW.trans (hW'.mono hW.size))))
  have HN := Aside0.mk hN
  have hx := blk_lt h.blk
  replace hb0 := Aside0.mk hb0
  clear h hJ hN
  have HI := Aside0.mk (idle_calls HX0.out)
  have hnp : ∀ (g : Nat) (w : World), (binOp .neq 65 (.pointer (some ⟨g, 0, none⟩)) (.pointer none)).run Tryz.prog w = .ok (.bool true) w := fun g w => by kernel_rfl
  go_enter Tryz.func43, Tryz.ntmps43
  go_upto_region 4 with (first | (go_at_call 75; (with_reducible refine HI.out.mono ?_); rintro e w1 ⟨rfl, hb1⟩; have HB1 := Aside0.mk (hb0.out.trans (hb1.mono hb0.out.size)); have HR1 := Aside0.mk ((hb1.block _ (blk_lt HR0.out)).trans HR0.out); have HX1 := Aside0.mk (HX0.out.below hb1); clear hb1) | (go_at_call 41; (with_reducible refine (HJ.out _ HB1.out).mono ?_); rintro e w2 ⟨A5, n5, c5, rfl, hb2⟩; have HB2 := Aside0.mk (HB1.out.trans (hb2.mono HB1.out.size)); have HR2 := Aside0.mk ((hb2.block _ (blk_lt HR1.out)).trans HR1.out); have HX2 := Aside0.mk (HX1.out.below hb2); clear hb2))
  have hal : Below w2.heap.size w2 (w2.alloc (.cells #[.int .i64 0, .int .i64 0, .int .i64 1, .int .i64 tk, .slice A5 n5 c5, .string ⟨#[]⟩, .slice none 0 0] 61)) := Below.alloc (Below.refl _ _) (Nat.le_refl _) _
  have HX3 := Aside0.mk (HX2.out.below hal)
  have HR3 := Aside0.mk ((hal.block _ (blk_lt HR2.out)).trans HR2.out)
  have HB3 := Aside0.mk (HB2.out.trans (hal.mono HB2.out.size))
  have HL3 := Aside0.mk (heap_alloc_new w2 (.cells #[.int .i64 0, .int .i64 0, .int .i64 1, .int .i64 tk, .slice A5 n5 c5, .string ⟨#[]⟩, .slice none 0 0] 61))
  have hne : w2.heap.size ≠ w.heap.size := by have := blk_lt HR2.out; omega
  generalize (w2.alloc (.cells #[.int .i64 0, .int .i64 0, .int .i64 1, .int .i64 tk, .slice A5 n5 c5, .string ⟨#[]⟩, .slice none 0 0] 61)) = W3 at HX3 HR3 HB3 HL3 ⊢
  generalize w2.heap.size = lb at HL3 hne ⊢
  clear HX2 HR2 HB2 HX1 HR1 HB1 hal HI HJ
  have l2 : W3.cell? ⟨lb, 2, none⟩ = some (.int .i64 1) := blk_cell HL3.out 2
  have x0 : W3.cell? ⟨x, 0, none⟩ = some (.int .i64 rl) := blk_cell HX3.out.blk 0
  have x1 : W3.cell? ⟨x, 1, none⟩ = some (.slice A T.length c) := blk_cell HX3.out.blk 1
  go_upto_region 8 with (go_at_call 26; (with_reducible refine (HN.out _ HB3.out).mono ?_); rintro e w4 ⟨g, L, K, ev, rfl, hk4, ha4, hb4⟩; have HX4 := Aside0.mk (HX3.out.below hb4); have HR4 := Aside0.mk ((hb4.block _ (blk_lt HR3.out)).trans HR3.out); have HL4 := Aside0.mk ((hb4.block _ (blk_lt HL3.out)).trans HL3.out); have HK4 := Aside0.mk (hk4.lower (B1 := bsN w0.heap.size) HX3.out.hB.size HX3.out.hB.size); have x3 : w4.cell? ⟨x, 3, none⟩ = some (.pointer none) := blk_cell HX4.out.blk 3; have f3 := blk_frozen HX4.out.blk 3; replace ha4 := Aside0.mk ha4; have HB4 := Aside0.mk (HB3.out.trans (hb4.mono HB3.out.size)); clear hk4 hb4)
  have X5 : XI w0 x rl (.slice A T.length c) true (some ⟨g, 0, none⟩) (w4.setCell ⟨x, 3, none⟩ (.pointer (some ⟨g, 0, none⟩))) := by
    have b := blk_set HX4.out.blk 3 (.pointer (some ⟨g, 0, none⟩))
    exact ⟨by simpa using b, Below.setCell HX4.out.hB HX4.out.ge _, HX4.out.ge⟩
  have K5 := HK4.out.far HX4.out.blk HX4.out.ge (Or.inl rfl) 3 (.pointer (some ⟨g, 0, none⟩))
  have R5 := blk_far HR4.out (p := ⟨x, 3, none⟩) (by show w.heap.size ≠ x; omega) (.pointer (some ⟨g, 0, none⟩))
  have L5 := blk_far HL4.out (p := ⟨x, 3, none⟩) (blk_ne HL4.out HX4.out.blk (by decide)) (.pointer (some ⟨g, 0, none⟩))
  have P5 := Aside0.mk ((Kp.of_below HB4.out (· = x)).set1 3 (.pointer (some ⟨g, 0, none⟩)))
  replace X5 := Aside0.mk X5
  replace K5 := Aside0.mk K5
  replace R5 := Aside0.mk R5
  replace L5 := Aside0.mk L5
  generalize (w4.setCell ⟨x, 3, none⟩ (.pointer (some ⟨g, 0, none⟩))) = W5 at X5 K5 R5 L5 P5 ⊢
  have u0 := (blk_cell L5.out 0).trans rfl; have u1 := (blk_cell L5.out 1).trans rfl; have u2 := (blk_cell L5.out 2).trans rfl; have u3 := (blk_cell L5.out 3).trans rfl; have u4 := (blk_cell L5.out 4).trans rfl; have u5 := (blk_cell L5.out 5).trans rfl; have u6 := (blk_cell L5.out 6).trans rfl
  have r0 := (blk_cell R5.out 0).trans rfl; have r1 := (blk_cell R5.out 1).trans rfl; have r2 := (blk_cell R5.out 2).trans rfl; have r3 := (blk_cell R5.out 3).trans rfl; have r4 := (blk_cell R5.out 4).trans rfl; have r5 := (blk_cell R5.out 5).trans rfl; have r6 := (blk_cell R5.out 6).trans rfl
  have g0 := blk_frozen R5.out 0; have g1 := blk_frozen R5.out 1; have g2 := blk_frozen R5.out 2; have g3 := blk_frozen R5.out 3; have g4 := blk_frozen R5.out 4; have g5 := blk_frozen R5.out 5; have g6 := blk_frozen R5.out 6
  go_wp2
  have hge := X5.out.ge
  have G := row7_set R5.out (.int .i64 0) (.int .i64 0) (.int .i64 1) (.int .i64 tk) (.slice A5 n5 c5) (.string ⟨#[]⟩) (.slice none 0 0)
  refine bodyPost_ret (results_cell_row rfl _ _ w.heap.size 61 _ (0, 0) _ rfl G Tryz.underlying61 rfl (by kernel_rfl)) rfl ?_
  exact ⟨A5, n5, c5, g, L, K, ev, rfl, X5.out.far7 hx _ _ _ _ _ _ _, K5.out.far7 R5.out (by show w0.heap.size ≤ w.heap.size; omega) _ _ _ _ _ _ _, ha4.out, Kp.new7 P5.out (Nat.le_refl _) _ _ _ _ _ _ _⟩
end Go.Proofs.YtaofmmnfenlofaaGreatDoor.QTc
namespace Go.Proofs.YtaofmmnfenlofaaGreatDoor.QTc
open Go.RowKit Go.Proofs.YtaofmmnfenlofaaGreatDoorW.PrintWords Go.Proofs.YtaofmmnfenlofaaGreatDoorW.PrintLast Go.Proofs.YtaofmmnfenlofaaGreatDoorW.PrintMore Go.Proofs.YtaofmmnfenlofaaGreatDoor.Pure
set_option linter.unusedVariables false
set_option linter.unusedSimpArgs false
structure IN2 (bi bd bn : Nat) (W : World) : Prop where
  i : W.heap[bi]? = some (.cells #[.int .u64 1, .slice (some ⟨bd, 0, none⟩) 1 1, .int .u64 0, .int .u64 0, .slice none 0 0, .int .u64 0] 52 (0, 0))
  d : W.heap[bd]? = some (.cells #[.slice (some ⟨bn, 0, none⟩) 1 1] 28 (0, 0))
  n : W.heap[bn]? = some (.cells #[.int .i64 2] 2 (0, 0))
theorem IN2.below {bi bd bn : Nat} {W W' : World} (h : IN2 bi bd bn W) (hb : Below W.heap.size W W') : IN2 bi bd bn W' := ⟨(hb.block _ (blk_lt h.i)).trans h.i, (hb.block _ (blk_lt h.d)).trans h.d, (hb.block _ (blk_lt h.n)).trans h.n⟩
theorem IN2.kpt {B0 : Bs} {bi bd bn : Nat} {W W' : World} (h : IN2 bi bd bn W) (hk : KpT B0 W W' TsAll) : IN2 bi bd bn W' := ⟨hk.blk h.i (by decide), hk.blk h.d (by decide), hk.blk h.n (by decide)⟩
theorem IN2.far {bi bd bn g t : Nat} {W : World} {cs : Array Value} (h : IN2 bi bd bn W) (hg : W.heap[g]? = some (.cells cs t (0, 0))) (ht : t = 61) (i : Nat) (u : Value) : IN2 bi bd bn (W.setCell ⟨g, i, none⟩ u) := by
  subst ht
  exact ⟨blk_far h.i (p := ⟨g, i, none⟩) (blk_ne h.i hg (by decide)) u, blk_far h.d (p := ⟨g, i, none⟩) (blk_ne h.d hg (by decide)) u, blk_far h.n (p := ⟨g, i, none⟩) (blk_ne h.n hg (by decide)) u⟩
theorem IN2.dem {bi bd bn : Nat} {W : World} (h : IN2 bi bd bn W) : Kd.C (Kd.slice 2 (Kd.int .i64)) W (some ⟨bd, 0, none⟩) 1 [[2]] := by
  have hn : Kd.C (Kd.int .i64) W (some ⟨bn, 0, none⟩) 1 [2] := by
    refine ⟨rfl, by decide, fun _ => ⟨_, rfl, fun j p hj => ?_⟩⟩
    cases j with
    | zero =>
      obtain rfl : (2 : Int) = p := by simpa using hj
      refine ⟨[.int .i64 2], rfl, rfl, fun i u hu => ?_⟩
      cases i with
      | zero => obtain rfl : Value.int .i64 2 = u := by simpa using hu
                exact (blk_cell h.n 0).trans rfl
      | succ i => simp at hu
    | succ j => simp at hj
  refine ⟨rfl, by decide, fun _ => ⟨_, rfl, fun j p hj => ?_⟩⟩
  cases j with
  | zero =>
    obtain rfl : ([2] : List Int) = p := by simpa using hj
    refine ⟨[.slice (some ⟨bn, 0, none⟩) 1 1], rfl, ⟨_, _, rfl, Nat.le_refl _, hn⟩, fun i u hu => ?_⟩
    cases i with
    | zero => obtain rfl : Value.slice (some ⟨bn, 0, none⟩) 1 1 = u := by simpa using hu
              exact (blk_cell h.d 0).trans rfl
    | succ i => simp at hu
  | succ j => simp at hj
structure TK (w0 wS : World) (x g R V bi bd bn : Nat) (A : Option Addr) (c : Nat) (L : KL) (v : Value) (outs : List S43) (Z : KA) (W : World) : Prop where
  xi : XI w0 x 0 (.slice A 1 c) true (some ⟨g, 0, none⟩) W
  inv : ∃ K ev, KInv (bsN w0.heap.size) W g 0 [tA] L K ev none ∧ K.abs = Z
  res : W.heap[R]? = some (.cells z61 61 (0, 0))
  loc : W.heap[V]? = some (.cells #[.int .i64 0, .int .i64 0, .int .i64 0, .int .i64 0, .slice none 0 0, .string ⟨#[]⟩, v] 61 (0, 0))
  out : Kd.R k43 43 W w0.heap.size (fun _ => True) v outs
  inp : IN2 bi bd bn W
  ge : w0.heap.size ≤ R ∧ w0.heap.size ≤ V ∧ R ≠ V
  kp : wS.heap.size ≤ V ∧ ∀ (b : Nat) (cs : Array Value), wS.heap[b]? = some (.cells cs 61 (0, 0)) → W.heap[b]? = some (.cells cs 61 (0, 0))
section
variable {w0 wS W W1 w2 w3 : World} {x g R V bi bd bn : Nat} {A : Option Addr} {c : Nat} {L : KL} {v v' : Value} {outs outs' : List S43} {Z : KA}
theorem TK.below (h : TK w0 wS x g R V bi bd bn A c L v outs Z W) (hb : Below W.heap.size W W1) : TK w0 wS x g R V bi bd bn A c L v outs Z W1 := by
  obtain ⟨K, ev, h1, h2⟩ := h.inv
  exact ⟨h.xi.below hb, ⟨K, ev, h1.below hb, h2⟩, (hb.block _ (blk_lt h.res)).trans h.res, (hb.block _ (blk_lt h.loc)).trans h.loc, Kd.R_below h.out hb, h.inp.below hb, h.ge, h.kp.1, fun b cs hb0 => (hb.block _ (blk_lt (h.kp.2 b cs hb0))).trans (h.kp.2 b cs hb0)⟩
structure TS (w0 wS : World) (x g R V bi bd bn : Nat) (A : Option Addr) (c : Nat) (L : KL) (v : Value) (outs evs : List S43) (Z : KA) (e : Nat) (w2 : World) (ev : Value) : Prop where
  xi : XI w0 x 0 (.slice A 1 c) true (some ⟨g, 0, none⟩) w2
  inv : ∃ K, (∃ hle : w0.heap.size ≤ e, KInv ⟨w0.heap.size, e, hle⟩ w2 g 0 [tA] L K ev none) ∧ K.abs = Z ∧ K.evs = evs
  res : w2.heap[R]? = some (.cells z61 61 (0, 0))
  loc : w2.heap[V]? = some (.cells #[.int .i64 0, .int .i64 0, .int .i64 0, .int .i64 0, .slice none 0 0, .string ⟨#[]⟩, v] 61 (0, 0))
  out : Kd.R k43 43 w2 w0.heap.size (fun _ => True) v outs
  own : ∀ k, v.ownBlock = some k → k < e
  inp : IN2 bi bd bn w2
  ge : w0.heap.size ≤ R ∧ w0.heap.size ≤ V ∧ R ≠ V
  kp : wS.heap.size ≤ V ∧ ∀ (b : Nat) (cs : Array Value), wS.heap[b]? = some (.cells cs 61 (0, 0)) → w2.heap[b]? = some (.cells cs 61 (0, 0))
theorem ts_of (h : TK w0 wS x g R V bi bd bn A c L v outs Z W) {K2 : KS} {ev2 : Value} {Z2 : KA} (hle : w0.heap.size ≤ W.heap.size) (hk : KInv ⟨w0.heap.size, W.heap.size, hle⟩ w2 g 0 [tA] L K2 ev2 none) (ha : K2.abs = Z2) (hkt : KpT ⟨w0.heap.size, W.heap.size, hle⟩ W w2 TsAll) : TS w0 wS x g R V bi bd bn A c L v outs Z2.evs Z2 W.heap.size w2 ev2 :=
  ⟨⟨hkt.blk h.xi.blk (by decide), h.xi.hB.trans (hkt.below hle), h.xi.ge⟩, ⟨K2, ⟨hle, hk⟩, ha, by rw [← ha]; rfl⟩, hkt.blk h.res (by decide), hkt.blk h.loc (by decide), hkt.rowEv h.out (Nat.le_refl _), fun k hk => own_lt_R h.out k hk, h.inp.kpt hkt, h.ge, h.kp.1, fun b cs hb0 => hkt.blk (h.kp.2 b cs hb0) (by decide)⟩
theorem TS.next {e : Nat} {evs : List S43} {ev : Value} (h : TS w0 wS x g R V bi bd bn A c L v outs evs Z e w2 ev) (hR : Kd.R k43 43 w3 w0.heap.size (fun _ => True) v' outs') (hB : Below w0.heap.size w2 w3) (hg : w2.grownBy w3 v.ownBlock) :
    w3.heap[V]? = some (.cells #[.int .i64 0, .int .i64 0, .int .i64 0, .int .i64 0, .slice none 0 0, .string ⟨#[]⟩, v] 61 (0, 0)) ∧ TK w0 wS x g R V bi bd bn A c L v' outs' Z (w3.setCell ⟨V, 6, none⟩ v') := by
  obtain ⟨K, ⟨hle, hk⟩, ha, _⟩ := h.inv
  have hk3 := KInv.out hk h.out h.own hg
  have l3 := blk_grown h.loc hg (Kd.R_ne h.out h.loc (by decide))
  have r3 := blk_grown h.res hg (Kd.R_ne h.out h.res (by decide))
  have x3 := blk_grown h.xi.blk hg (Kd.R_ne h.out h.xi.blk (by decide))
  have i3 : IN2 bi bd bn w3 := ⟨blk_grown h.inp.i hg (Kd.R_ne h.out h.inp.i (by decide)), blk_grown h.inp.d hg (Kd.R_ne h.out h.inp.d (by decide)), blk_grown h.inp.n hg (Kd.R_ne h.out h.inp.n (by decide))⟩
  have l4 := blk_set l3 6 v'
  exact ⟨l3, ⟨blk_far x3 (p := ⟨V, 6, none⟩) (blk_ne x3 l3 (by decide)) _, Below.setCell (h.xi.hB.trans hB) h.ge.2.1 _, h.xi.ge⟩, ⟨K, ev, hk3.far l3 h.ge.2.1 (Or.inr rfl) _ _, ha⟩, blk_far r3 (by show R ≠ V; exact h.ge.2.2) _, by simpa using l4, Kd.R_set hR l3 (fun q hq => by rw [List.mem_singleton.mp hq]; decide) _ _, i3.far l3 rfl _ _, h.ge, h.kp.1, fun b cs hb0 => (by have hl := blk_lt hb0; have hv := h.kp.1; exact blk_far (blk_grown (h.kp.2 b cs hb0) hg (Kd.R_ne h.out (h.kp.2 b cs hb0) (by decide))) (p := ⟨V, 6, none⟩) (by show b ≠ V; omega) _)⟩
end
theorem tA_odd : ∀ t ∈ [tA], 1 ≤ t.f6.length ∧ t.f6.length ≤ 8 ∧ t.f6.any oddTime = false := fun t ht => by rw [List.mem_singleton.mp ht]; decide
theorem tA_U : ∀ t ∈ [tA], (0 ≤ t.f7 ∧ t.f7 < 18446744073709551616) ∧ (0 ≤ t.f8 ∧ t.f8 < 18446744073709551616) := fun t ht => by rw [List.mem_singleton.mp ht]; decide
theorem tick_one {w0 wS W : World} {x g R V bi bd bn : Nat} {A : Option Addr} {c : Nat} {L : KL} {v : Value} {outs : List S43} (hTw : ∀ W, Below w0.heap.size w0 W → TabW W) (h : TK w0 wS x g R V bi bd bn A c L v outs (newA [tA]) W) :
    Calls Tryz.prog 27 #[.pointer (some ⟨g, 0, none⟩), .agg #[.int .u64 1, .slice (some ⟨bd, 0, none⟩) 1 1, .int .u64 0]] W fun e w2 => ∃ ev, e = .returned ev ∧ TS w0 wS x g R V bi bd bn A c L v outs kA1.evs kA1 W.heap.size w2 ev := by
  obtain ⟨K, ev, hk, ha⟩ := h.inv
  have hle := h.xi.hB.size
  have hm : midA [tA] [[2]] 1 K.abs = kM1 := by rw [ha, mid1]
  have htk : K.tick = 0 := congrArg KA.tick ha
  have H := step_calls (bsN w0.heap.size) ⟨w0.heap.size, W.heap.size, hle⟩ W g 0 [tA] L K ev 1 (some ⟨bd, 0, none⟩) 1 [[2]] 0 (fun W' hW => hTw W' (h.xi.hB.trans (hW.below hle))) hk rfl (Nat.le_refl _) (by decide) (by decide) (fun W' hW => (h.inp.kpt hW).dem) (by omega) (by omega) tA_odd tA_U (by
    intro i hi hp
    rw [hm]
    obtain rfl : i = 0 := by simp at hi; omega
    unfold JRdy; decide)
  rw [hm] at H
  refine H.mono ?_
  rintro e w2 ⟨r, x', hcr, hwho, ⟨K2, ev2, rfl, hk2, ha2⟩, hkt⟩
  rw [cho1] at hcr
  obtain rfl := Option.some.inj hcr
  rw [go1] at ha2
  exact ⟨ev2, rfl, ts_of h hle hk2 ha2 hkt⟩
theorem tick_two {w0 wS W : World} {x g R V bi bd bn : Nat} {A : Option Addr} {c : Nat} {L : KL} {v : Value} {outs : List S43} (hTw : ∀ W, Below w0.heap.size w0 W → TabW W) (h : TK w0 wS x g R V bi bd bn A c L v outs kA1 W) :
    Calls Tryz.prog 27 #[.pointer (some ⟨g, 0, none⟩), .agg #[.int .u64 0, .slice none 0 0, .int .u64 0]] W fun e w2 => ∃ ev, e = .returned ev ∧ TS w0 wS x g R V bi bd bn A c L v outs kA2.evs kA2 W.heap.size w2 ev := by
  obtain ⟨K, ev, hk, ha⟩ := h.inv
  have hle := h.xi.hB.size
  have hm : midA [tA] [] 0 K.abs = kM2 := by rw [ha, mid2]
  have htk : K.tick = 1 := congrArg KA.tick ha
  have H := step_calls (bsN w0.heap.size) ⟨w0.heap.size, W.heap.size, hle⟩ W g 0 [tA] L K ev 0 none 0 [] 0 (fun W' hW => hTw W' (h.xi.hB.trans (hW.below hle))) hk rfl (Nat.le_refl _) (by decide) (by decide) (fun W' hW => Kd.C_nil _ _) (by omega) (by omega) tA_odd tA_U (by
    intro i hi hp
    rw [hm]
    obtain rfl : i = 0 := by simp at hi; omega
    unfold JRdy; decide)
  rw [hm] at H
  refine H.mono ?_
  rintro e w2 ⟨r, x', hcr, hwho, ⟨K2, ev2, rfl, hk2, ha2⟩, hkt⟩
  rw [cho2] at hcr
  obtain rfl := Option.some.inj hcr
  rw [go2] at ha2
  exact ⟨ev2, rfl, ts_of h hle hk2 ha2 hkt⟩
set_option maxHeartbeats 16000000 in
set_option maxRecDepth 100000 in
theorem ticks_calls {w0 w : World} {x g bi bd bn : Nat} {A : Option Addr} {c cI : Nat} {L : KL} {K : KS} {ev : Value} (hTw : ∀ W, Below w0.heap.size w0 W → TabW W) (h : XI w0 x 0 (.slice A 1 c) true (some ⟨g, 0, none⟩) w) (hk : KInv (bsN w0.heap.size) w g 0 [tA] L K ev none) (ha : K.abs = newA [tA]) (hi : IN2 bi bd bn w) :
    Calls Tryz.prog 44 #[.pointer (some ⟨x, 0, none⟩), .slice (some ⟨bi, 0, none⟩) 2 cI] w fun e w' => ∃ A5 c5, e = .returned (.agg #[.int .i64 0, .int .i64 0, .int .i64 0, .int .i64 0, .slice none 0 0, .string ⟨#[]⟩, .slice A5 4 c5]) ∧ Below w0.heap.size w0 w' ∧ Kd.R k43 43 w' w0.heap.size (fun _ => True) (.slice A5 4 c5) (kA1.evs ++ kA2.evs) ∧ ∀ (b : Nat) (cs : Array Value), w.heap[b]? = some (.cells cs 61 (0, 0)) → w'.heap[b]? = some (.cells cs 61 (0, 0)) := by
  have hu52 := Tryz.underlying52
  have hu61 := Tryz.underlying61
  have hb0 : Below w.heap.size w ((w.alloc (.cells z61 61)).alloc (.cells z61 61)) := Below.alloc (Below.alloc (Below.refl _ _) (Nat.le_refl _) _) (by simp) _
  have k3 : w.cell? ⟨x, 3, none⟩ = some (.pointer (some ⟨g, 0, none⟩)) := blk_cell h.blk 3
  have hx := blk_lt h.blk
  have HT := Aside0.mk (show TK w0 w x g w.heap.size (w.heap.size + 1) bi bd bn A c L (.slice none 0 0) [] (newA [tA]) ((w.alloc (.cells z61 61)).alloc (.cells z61 61)) by
    have hs := h.hB.size
    refine ⟨h.below hb0, ⟨K, ev, hk.below hb0, ha⟩, ?_, ?_, Kd.R_nil _ _ _ _ _, hi.below hb0, ⟨hs, by omega, by omega⟩, Nat.le_succ _, fun b cs hb1 => (hb0.block _ (blk_lt hb1)).trans hb1⟩
    · exact blk_alloc (heap_alloc_new w _) _
    · have := heap_alloc_new (w.alloc (.cells z61 61)) (.cells z61 61)
      simpa using this)
  have HTw := Aside0.mk hTw
  have HH := Aside0.mk (And.intro h.hB.size h.hB)
  have hnp : ∀ (g : Nat) (w : World), (binOp .eql 65 (.pointer (some ⟨g, 0, none⟩)) (.pointer none)).run Tryz.prog w = .ok (.bool false) w := fun g w => by kernel_rfl
  clear h hk ha hi hTw hb0
  go_enter Tryz.func44, Tryz.ntmps44
  go_upto_region 7 with fail
  generalize w.heap.size + 1 = V at HT ⊢
  have HRw := Aside0.mk (Nat.le_refl w.heap.size)
  generalize hRw : w.heap.size = R at HT ⊢
  replace HRw := Aside0.mk hRw
  clear hRw
  go_loopg [20] 3 (fun kq v20 w' => (∃ v, kq = 3 ∧ v20 = .int .i64 0 ∧ TK w0 w x g R V bi bd bn A c L v [] (newA [tA]) w') ∨ (∃ v, kq = 2 ∧ v20 = .int .i64 1 ∧ TK w0 w x g R V bi bd bn A c L v kA1.evs kA1 w') ∨ (∃ v, kq = 1 ∧ v20 = .int .i64 2 ∧ TK w0 w x g R V bi bd bn A c L v (kA1.evs ++ kA2.evs) kA2 w'))
  case atStart => exact Or.inl ⟨_, rfl, rfl, HT.out⟩
  case round =>
    clear HT k3
    rcases hrel with ⟨v, rfl, rfl, HT0⟩ | ⟨v, rfl, rfl, HT0⟩ | ⟨v, rfl, rfl, HT0⟩
    · have H := Aside0.mk HT0
      clear HT0
      have y0 := (blk_cell H.out.inp.i 0).trans rfl
      have y1 := (blk_cell H.out.inp.i 1).trans rfl
      have y2 := (blk_cell H.out.inp.i 2).trans rfl
      obtain ⟨Ao, co, rfl⟩ := Kd.R_slice H.out.out
      go_upto_region 9 with fail
      have hal : Below wr.heap.size wr (wr.alloc (.cells #[.int .u64 1, .slice (some ⟨bd, 0, none⟩) 1 1, .int .u64 0] 52)) := Below.alloc (Below.refl _ _) (Nat.le_refl _) _
      have H1 := Aside0.mk (H.out.below hal)
      have l1 := heap_alloc_new wr (.cells #[.int .u64 1, .slice (some ⟨bd, 0, none⟩) 1 1, .int .u64 0] 52)
      clear H hal y0 y1 y2
      generalize (wr.alloc (.cells #[.int .u64 1, .slice (some ⟨bd, 0, none⟩) 1 1, .int .u64 0] 52)) = W1 at H1 l1 ⊢
      generalize wr.heap.size = ib at l1 ⊢
      have y0 := (blk_cell l1 0).trans rfl
      have y1 := (blk_cell l1 1).trans rfl
      have y2 := (blk_cell l1 2).trans rfl
      have z6 := (blk_cell H1.out.loc 6).trans rfl
      have k3 := (blk_cell H1.out.xi.blk 3).trans rfl
      have hV := blk_lt H1.out.loc
      clear l1
      have HD := Aside0.mk (H1.out.below (below_drew (Below.refl _ _)))
      go_region_law (first | (refine Kd.R_append_rows_step k43 (Rr := k43.K w5) (w0 := w5) w0.heap.size (by rfl) _ _ 37 43 (.agg #[.int .i64 0, .int .i64 0, .int .i64 0, .int .i64 0]) 32 (by rfl) Tryz.underlying37 info43k rfl (by decide) (by omega) (.slice Ao (([] : List S43)).length co) ([] : List S43) kA1.evs A3 kA1.evs.length c3 (fun _ => True) (fun _ => False) (by rfl) (by rfl) ?aO ?aR ?aK (fun _ hk => hk.elim) (fun _ _ => trivial) ?aB ?aS ?aL ?_; (case aO => exact HS5.out.out); (case aR => exact HR3.out); (case aK => intro x cs h; obtain rfl := k43_open h; exact k43_mkM _ _ _ _); (case aB => exact Below.refl _ _); (case aS => exact HS5.out.xi.hB.size); (case aL => decide); intro v9 w9 hR9 hB9 hg9 hat9; obtain ⟨A9, c9, rfl⟩ := Kd.R_slice hR9; have H9 := Aside0.mk (TS.next HS5.out hR9 hB9 hg9); have z69 := (blk_cell H9.out.1 6).trans rfl; have q69 := blk_frozen H9.out.1 6; clear hR9 hB9 hg9 hat9) | (go_simp; go_at_call 27; (with_reducible refine (tick_one HTw.out HD.out).mono ?_); rintro e w5 ⟨ev5, rfl, hs5⟩; have HS5 := Aside0.mk hs5; obtain ⟨K5, ⟨hle5, hk5⟩, ha5, he5⟩ := hs5.inv; obtain ⟨A3, c3, rfl⟩ := Kd.R_slice hk5.evs; have HR3 := Aside0.mk (Kd.R_reads' hk5.evs).2.2; rw [he5] at HR3 ⊢; have z65 := (blk_cell hs5.loc 6).trans rfl; have hV5 := blk_lt hs5.loc; clear hs5 hk5 ha5))
      all_goals
        go_wp2
        go_roundg 2
        case measure => exact Nat.lt_succ_self _
        case rel => exact Or.inr (Or.inl ⟨_, rfl, rfl, H9.out.2⟩)
    · have H := Aside0.mk HT0
      clear HT0
      have y0 := (blk_cell H.out.inp.i 3).trans rfl
      have y1 := (blk_cell H.out.inp.i 4).trans rfl
      have y2 := (blk_cell H.out.inp.i 5).trans rfl
      obtain ⟨Ao, co, rfl⟩ := Kd.R_slice H.out.out
      go_upto_region 9 with fail
      have hal : Below wr.heap.size wr (wr.alloc (.cells #[.int .u64 0, .slice none 0 0, .int .u64 0] 52)) := Below.alloc (Below.refl _ _) (Nat.le_refl _) _
      have H1 := Aside0.mk (H.out.below hal)
      have l1 := heap_alloc_new wr (.cells #[.int .u64 0, .slice none 0 0, .int .u64 0] 52)
      clear H hal y0 y1 y2
      generalize (wr.alloc (.cells #[.int .u64 0, .slice none 0 0, .int .u64 0] 52)) = W1 at H1 l1 ⊢
      generalize wr.heap.size = ib at l1 ⊢
      have y0 := (blk_cell l1 0).trans rfl
      have y1 := (blk_cell l1 1).trans rfl
      have y2 := (blk_cell l1 2).trans rfl
      have z6 := (blk_cell H1.out.loc 6).trans rfl
      have k3 := (blk_cell H1.out.xi.blk 3).trans rfl
      have hV := blk_lt H1.out.loc
      clear l1
      have HD := Aside0.mk (H1.out.below (below_drew (Below.refl _ _)))
      go_region_law (first | (refine Kd.R_append_rows_step k43 (Rr := k43.K w5) (w0 := w5) w0.heap.size (by rfl) _ _ 37 43 (.agg #[.int .i64 0, .int .i64 0, .int .i64 0, .int .i64 0]) 32 (by rfl) Tryz.underlying37 info43k rfl (by decide) (by omega) (.slice Ao (kA1.evs).length co) kA1.evs kA2.evs A3 kA2.evs.length c3 (fun _ => True) (fun _ => False) (by rfl) (by rfl) ?aO ?aR ?aK (fun _ hk => hk.elim) (fun _ _ => trivial) ?aB ?aS ?aL ?_; (case aO => exact HS5.out.out); (case aR => exact HR3.out); (case aK => intro x cs h; obtain rfl := k43_open h; exact k43_mkM _ _ _ _); (case aB => exact Below.refl _ _); (case aS => exact HS5.out.xi.hB.size); (case aL => decide); intro v9 w9 hR9 hB9 hg9 hat9; obtain ⟨A9, c9, rfl⟩ := Kd.R_slice hR9; have H9 := Aside0.mk (TS.next HS5.out hR9 hB9 hg9); have z69 := (blk_cell H9.out.1 6).trans rfl; have q69 := blk_frozen H9.out.1 6; clear hR9 hB9 hg9 hat9) | (go_simp; go_at_call 27; (with_reducible refine (tick_two HTw.out HD.out).mono ?_); rintro e w5 ⟨ev5, rfl, hs5⟩; have HS5 := Aside0.mk hs5; obtain ⟨K5, ⟨hle5, hk5⟩, ha5, he5⟩ := hs5.inv; obtain ⟨A3, c3, rfl⟩ := Kd.R_slice hk5.evs; have HR3 := Aside0.mk (Kd.R_reads' hk5.evs).2.2; rw [he5] at HR3 ⊢; have z65 := (blk_cell hs5.loc 6).trans rfl; have hV5 := blk_lt hs5.loc; clear hs5 hk5 ha5))
      all_goals
        go_wp2
        go_roundg 1
        case measure => exact Nat.lt_succ_self _
        case rel => exact Or.inr (Or.inr ⟨_, rfl, rfl, H9.out.2⟩)
    · have H := Aside0.mk HT0
      clear HT0
      obtain ⟨Ao, co, rfl⟩ := Kd.R_slice H.out.out
      have u0 := (blk_cell H.out.loc 0).trans rfl; have u1 := (blk_cell H.out.loc 1).trans rfl; have u2 := (blk_cell H.out.loc 2).trans rfl; have u3 := (blk_cell H.out.loc 3).trans rfl; have u4 := (blk_cell H.out.loc 4).trans rfl; have u5 := (blk_cell H.out.loc 5).trans rfl; have u6 := (blk_cell H.out.loc 6).trans rfl
      have r0 := (blk_cell H.out.res 0).trans rfl; have r1 := (blk_cell H.out.res 1).trans rfl; have r2 := (blk_cell H.out.res 2).trans rfl; have r3 := (blk_cell H.out.res 3).trans rfl; have r4 := (blk_cell H.out.res 4).trans rfl; have r5 := (blk_cell H.out.res 5).trans rfl; have r6 := (blk_cell H.out.res 6).trans rfl
      have g0 := blk_frozen H.out.res 0; have g1 := blk_frozen H.out.res 1; have g2 := blk_frozen H.out.res 2; have g3 := blk_frozen H.out.res 3; have g4 := blk_frozen H.out.res 4; have g5 := blk_frozen H.out.res 5; have g6 := blk_frozen H.out.res 6
      have G := row7_set H.out.res (.int .i64 0) (.int .i64 0) (.int .i64 0) (.int .i64 0) (.slice none 0 0) (.string ⟨#[]⟩) (.slice Ao (kA1.evs ++ kA2.evs).length co)
      have GR := R_set7 H.out.out H.out.res (fun q hq => by rw [List.mem_singleton.mp hq]; decide) (.int .i64 0) (.int .i64 0) (.int .i64 0) (.int .i64 0) (.slice none 0 0) (.string ⟨#[]⟩) (.slice Ao (kA1.evs ++ kA2.evs).length co)
      have GB : Below w0.heap.size w0 (((((((wr.setCell ⟨R, 0, none⟩ (.int .i64 0)).setCell ⟨R, 1, none⟩ (.int .i64 0)).setCell ⟨R, 2, none⟩ (.int .i64 0)).setCell ⟨R, 3, none⟩ (.int .i64 0)).setCell ⟨R, 4, none⟩ (.slice none 0 0)).setCell ⟨R, 5, none⟩ (.string ⟨#[]⟩)).setCell ⟨R, 6, none⟩ (.slice Ao (kA1.evs ++ kA2.evs).length co)) := below_set7 H.out.xi.hB H.out.ge.1 _ _ _ _ _ _ _
      obtain ⟨n4, hn4⟩ : ∃ n4, n4 = (kA1.evs ++ kA2.evs).length := ⟨_, rfl⟩
      have h4 : n4 = 4 := hn4.trans (by decide)
      rw [← hn4] at u6 G GR GB
      subst h4
      replace G := Aside0.mk G
      replace GR := Aside0.mk GR
      replace GB := Aside0.mk GB
      clear hn4
      go_wp2
      refine bodyPost_ret (results_cell_row rfl _ _ R 61 _ (0, 0) _ rfl G.out Tryz.underlying61 rfl (by kernel_rfl)) rfl ?_
      exact ⟨Ao, co, rfl, GB.out, GR.out, fun b cs hb0 => (by have hl := blk_lt hb0; have hw := HRw.out; have hne : b ≠ R := (by omega); exact blk_far (blk_far (blk_far (blk_far (blk_far (blk_far (blk_far (H.out.kp.2 b cs hb0) (p := ⟨R, 0, none⟩) hne _) (p := ⟨R, 1, none⟩) hne _) (p := ⟨R, 2, none⟩) hne _) (p := ⟨R, 3, none⟩) hne _) (p := ⟨R, 4, none⟩) hne _) (p := ⟨R, 5, none⟩) hne _) (p := ⟨R, 6, none⟩) hne _)⟩
theorem do_start {w : World} (cs : Array Value) : Below w.heap.size w ((w.alloc (.cells cs 64)).alloc (.cells z61 61)) ∧ ((w.alloc (.cells cs 64)).alloc (.cells z61 61)).heap[w.heap.size]? = some (.cells cs 64 (0, 0)) ∧ ((w.alloc (.cells cs 64)).alloc (.cells z61 61)).heap[w.heap.size + 1]? = some (.cells z61 61 (0, 0)) := by
  refine ⟨Below.alloc (Below.alloc (Below.refl _ _) (Nat.le_refl _) _) (by simp) _, blk_alloc (heap_alloc_new w _) _, ?_⟩
  have := heap_alloc_new (w.alloc (.cells cs 64)) (.cells z61 61)
  simpa using this
theorem hnp58 : ∀ (g : Nat) (w : World), (binOp .eql 58 (.pointer (some ⟨g, 0, none⟩)) (.pointer none)).run Tryz.prog w = .ok (.bool false) w := fun g w => by kernel_rfl
set_option maxHeartbeats 8000000 in
set_option maxRecDepth 100000 in
theorem do_load {w0 w : World} {x : Nat} (s : ByteArray) (rl m : Int) (T : List S46) (h : XI w0 x 0 (.slice none 0 0) false none w) (hT1 : T.length = 1)
    (hP : ∀ W, Below w.heap.size w W → Calls Tryz.prog 74 #[.string s] W fun e w' => ∃ A c, e = .returned (.tuple #[.agg #[.int .i64 rl, .slice A 1 c], .int .i64 m, .int .i64 0]) ∧ Kd.R k46 46 w' W.heap.size (fun _ => True) (.slice A 1 c) T ∧ Below W.heap.size W w') :
    Calls Tryz.prog 25 #[.pointer (some ⟨x, 0, none⟩), .agg #[.int .i64 1, .string s, .bool false, .slice none 0 0]] w fun e w' => ∃ A c, e = .returned (.agg #[.int .i64 0, .int .i64 m, .int .i64 0, .int .i64 0, .slice none 0 0, .string ⟨#[]⟩, .slice none 0 0]) ∧ XI w0 x rl (.slice A 1 c) true none w' ∧ Kd.R k46 46 w' w0.heap.size (fun _ => True) (.slice A 1 c) T := by
  have hu61 := Tryz.underlying61
  have hu64 := Tryz.underlying64
  have hnp := hnp58
  have hx := blk_lt h.blk
  obtain ⟨b1, b2, b3⟩ := do_start (w := w) #[.int .i64 1, .string s, .bool false, .slice none 0 0]
  have HL := Aside0.mk (load_calls s rl m T (h.below b1) hT1 (fun W hW => hP W (b1.trans (hW.mono b1.size))))
  have HX := Aside0.mk (h.below b1)
  have HR := Aside0.mk b3
  have HG := Aside0.mk (show w0.heap.size ≤ w.heap.size + 1 from Nat.le_trans h.hB.size (Nat.le_succ _))
  clear h hP
  go_enter Tryz.func25, Tryz.ntmps25
  go_upto_region 1 with fail
  have hxR : x < w.heap.size + 1 := by omega
  generalize ((w.alloc (.cells #[.int .i64 1, .string s, .bool false, .slice none 0 0] 64)).alloc (.cells z61 61)) = W1 at HL HX HR b2 ⊢
  generalize w.heap.size + 1 = R at HR HG hxR ⊢
  have k0 := (blk_cell b2 0).trans rfl
  have k1 := (blk_cell b2 1).trans rfl
  have kx := blk_lt HX.out.blk
  have hRl := blk_lt HR.out
  go_wp2_with (go_at_call 40; (with_reducible refine HL.out.mono ?_); rintro e w2 ⟨A, c, rfl, hx2, hr2, hk2⟩; have HR2 := Aside0.mk (hk2.blk HR.out (fun e => by omega)); have HX2 := Aside0.mk hx2; have HT2 := Aside0.mk hr2; have r0 := (blk_cell HR2.out 0).trans rfl; have g0 := blk_frozen HR2.out 0; have r1 := (blk_cell HR2.out 1).trans rfl; have g1 := blk_frozen HR2.out 1; have r2 := (blk_cell HR2.out 2).trans rfl; have g2 := blk_frozen HR2.out 2; have r3 := (blk_cell HR2.out 3).trans rfl; have g3 := blk_frozen HR2.out 3; have r4 := (blk_cell HR2.out 4).trans rfl; have g4 := blk_frozen HR2.out 4; have r5 := (blk_cell HR2.out 5).trans rfl; have g5 := blk_frozen HR2.out 5; have r6 := (blk_cell HR2.out 6).trans rfl; have g6 := blk_frozen HR2.out 6; clear hx2 hr2 hk2)
  have G := row7_set HR2.out (.int .i64 0) (.int .i64 m) (.int .i64 0) (.int .i64 0) (.slice none 0 0) (.string ⟨#[]⟩) (.slice none 0 0)
  refine bodyPost_ret (results_cell_row rfl _ _ R 61 _ (0, 0) _ rfl G Tryz.underlying61 rfl (by kernel_rfl)) rfl ?_
  exact ⟨A, c, rfl, HX2.out.far7 hxR _ _ _ _ _ _ _, R_set7 HT2.out HR2.out (fun q hq => by rcases k46_E q hq with rfl | rfl <;> decide) _ _ _ _ _ _ _⟩
set_option maxHeartbeats 8000000 in
set_option maxRecDepth 100000 in
theorem do_start5 {w0 w : World} {x : Nat} {rl tk : Int} {A : Option Addr} {c : Nat} {T : List S46} (h : XI w0 x rl (.slice A T.length c) true none w)
    (hJ : ∀ W, Below w.heap.size w W → Calls Tryz.prog 9 #[.agg #[.int .i64 rl, .slice A T.length c]] W fun e w' => ∃ A5 n5 c5, e = .returned (.tuple #[.agg #[.int .i64 1, .int .i64 tk, .slice A5 n5 c5], .int .i64 0]) ∧ Below W.heap.size W w')
    (hN : ∀ W, Below w.heap.size w W → Calls Tryz.prog 26 #[.agg #[.int .i64 rl, .slice A T.length c]] W fun e w' => ∃ g L K ev, e = .returned (.tuple #[.pointer (some ⟨g, 0, none⟩), .int .i64 0]) ∧ KInv (bsN W.heap.size) w' g rl T L K ev none ∧ K.abs = newA T ∧ Below W.heap.size W w') :
    Calls Tryz.prog 25 #[.pointer (some ⟨x, 0, none⟩), .agg #[.int .i64 5, .string ⟨#[]⟩, .bool false, .slice none 0 0]] w fun e w' => ∃ A5 n5 c5 g L K ev, e = .returned (.agg #[.int .i64 0, .int .i64 0, .int .i64 1, .int .i64 tk, .slice A5 n5 c5, .string ⟨#[]⟩, .slice none 0 0]) ∧ XI w0 x rl (.slice A T.length c) true (some ⟨g, 0, none⟩) w' ∧ KInv (bsN w0.heap.size) w' g rl T L K ev none ∧ K.abs = newA T := by
  have hu61 := Tryz.underlying61
  have hu64 := Tryz.underlying64
  have hnp := hnp58
  have hx := blk_lt h.blk
  obtain ⟨b1, b2, b3⟩ := do_start (w := w) #[.int .i64 5, .string ⟨#[]⟩, .bool false, .slice none 0 0]
  have HL := Aside0.mk (start_calls (tk := tk) false (h.below b1) (fun W hW => hJ W (b1.trans (hW.mono b1.size))) (fun W hW => hN W (b1.trans (hW.mono b1.size))))
  have HX := Aside0.mk (h.below b1)
  have HR := Aside0.mk b3
  have HG := Aside0.mk (show w0.heap.size ≤ w.heap.size + 1 from Nat.le_trans h.hB.size (Nat.le_succ _))
  clear h hJ hN
  go_enter Tryz.func25, Tryz.ntmps25
  go_upto_region 1 with fail
  have hxR : x < w.heap.size + 1 := by omega
  generalize ((w.alloc (.cells #[.int .i64 5, .string ⟨#[]⟩, .bool false, .slice none 0 0] 64)).alloc (.cells z61 61)) = W1 at HL HX HR b2 ⊢
  generalize w.heap.size + 1 = R at HR HG hxR ⊢
  have k0 := (blk_cell b2 0).trans rfl
  have k2 := (blk_cell b2 2).trans rfl
  have kx := blk_lt HX.out.blk
  have hRl := blk_lt HR.out
  go_wp2_with (go_at_call 43; (with_reducible refine HL.out.mono ?_); rintro e w2 ⟨A5, n5, c5, g, L, K, ev, rfl, hx2, hr2, ha2, hk2⟩; have HR2 := Aside0.mk (hk2.blk HR.out (fun e => by omega)); have HX2 := Aside0.mk hx2; have HT2 := Aside0.mk hr2; replace ha2 := Aside0.mk ha2; have r0 := (blk_cell HR2.out 0).trans rfl; have g0 := blk_frozen HR2.out 0; have r1 := (blk_cell HR2.out 1).trans rfl; have g1 := blk_frozen HR2.out 1; have r2 := (blk_cell HR2.out 2).trans rfl; have g2 := blk_frozen HR2.out 2; have r3 := (blk_cell HR2.out 3).trans rfl; have g3 := blk_frozen HR2.out 3; have r4 := (blk_cell HR2.out 4).trans rfl; have g4 := blk_frozen HR2.out 4; have r5 := (blk_cell HR2.out 5).trans rfl; have g5 := blk_frozen HR2.out 5; have r6 := (blk_cell HR2.out 6).trans rfl; have g6 := blk_frozen HR2.out 6; clear hx2 hr2 hk2)
  have G := row7_set HR2.out (.int .i64 0) (.int .i64 0) (.int .i64 1) (.int .i64 tk) (.slice A5 n5 c5) (.string ⟨#[]⟩) (.slice none 0 0)
  refine bodyPost_ret (results_cell_row rfl _ _ R 61 _ (0, 0) _ rfl G Tryz.underlying61 rfl (by kernel_rfl)) rfl ?_
  exact ⟨A5, n5, c5, g, L, K, ev, rfl, HX2.out.far7 hxR _ _ _ _ _ _ _, HT2.out.far7 HR2.out HG.out _ _ _ _ _ _ _, ha2.out⟩
set_option maxHeartbeats 8000000 in
set_option maxRecDepth 100000 in
theorem do_ticks {w0 w : World} {x g bi bd bn : Nat} {A : Option Addr} {c cI : Nat} {L : KL} {K : KS} {ev : Value} (hTw : ∀ W, Below w0.heap.size w0 W → TabW W) (h : XI w0 x 0 (.slice A 1 c) true (some ⟨g, 0, none⟩) w) (hk : KInv (bsN w0.heap.size) w g 0 [tA] L K ev none) (ha : K.abs = newA [tA]) (hi : IN2 bi bd bn w) :
    Calls Tryz.prog 25 #[.pointer (some ⟨x, 0, none⟩), .agg #[.int .i64 6, .string ⟨#[]⟩, .bool false, .slice (some ⟨bi, 0, none⟩) 2 cI]] w fun e w' => ∃ A5 c5, e = .returned (.agg #[.int .i64 0, .int .i64 0, .int .i64 0, .int .i64 0, .slice none 0 0, .string ⟨#[]⟩, .slice A5 4 c5]) ∧ Below w0.heap.size w0 w' ∧ Kd.R k43 43 w' w0.heap.size (fun _ => True) (.slice A5 4 c5) (kA1.evs ++ kA2.evs) := by
  have hu61 := Tryz.underlying61
  have hu64 := Tryz.underlying64
  have hnp := hnp58
  have hx := blk_lt h.blk
  obtain ⟨b1, b2, b3⟩ := do_start (w := w) #[.int .i64 6, .string ⟨#[]⟩, .bool false, .slice (some ⟨bi, 0, none⟩) 2 cI]
  have HL := Aside0.mk (ticks_calls (cI := cI) hTw (h.below b1) (hk.below b1) ha (hi.below b1))
  have HR := Aside0.mk b3
  have HG := Aside0.mk (show w0.heap.size ≤ w.heap.size + 1 from Nat.le_trans h.hB.size (Nat.le_succ _))
  clear h hk ha hi hTw
  go_enter Tryz.func25, Tryz.ntmps25
  go_upto_region 1 with fail
  generalize ((w.alloc (.cells #[.int .i64 6, .string ⟨#[]⟩, .bool false, .slice (some ⟨bi, 0, none⟩) 2 cI] 64)).alloc (.cells z61 61)) = W1 at HL HR b2 ⊢
  generalize w.heap.size + 1 = R at HR HG ⊢
  have k0 := (blk_cell b2 0).trans rfl
  have k3 := (blk_cell b2 3).trans rfl
  go_wp2_with (go_at_call 44; (with_reducible refine HL.out.mono ?_); rintro e w2 ⟨A5, c5, rfl, hb2, hc2, hk2⟩; have HR2 := Aside0.mk (hk2 _ _ HR.out); have HB2 := Aside0.mk hb2; have HC2 := Aside0.mk hc2; have r0 := (blk_cell HR2.out 0).trans rfl; have g0 := blk_frozen HR2.out 0; have r1 := (blk_cell HR2.out 1).trans rfl; have g1 := blk_frozen HR2.out 1; have r2 := (blk_cell HR2.out 2).trans rfl; have g2 := blk_frozen HR2.out 2; have r3 := (blk_cell HR2.out 3).trans rfl; have g3 := blk_frozen HR2.out 3; have r4 := (blk_cell HR2.out 4).trans rfl; have g4 := blk_frozen HR2.out 4; have r5 := (blk_cell HR2.out 5).trans rfl; have g5 := blk_frozen HR2.out 5; have r6 := (blk_cell HR2.out 6).trans rfl; have g6 := blk_frozen HR2.out 6; clear hb2 hc2 hk2)
  have G := row7_set HR2.out (.int .i64 0) (.int .i64 0) (.int .i64 0) (.int .i64 0) (.slice none 0 0) (.string ⟨#[]⟩) (.slice A5 4 c5)
  have GB := below_set7 HB2.out HG.out (.int .i64 0) (.int .i64 0) (.int .i64 0) (.int .i64 0) (.slice none 0 0) (.string ⟨#[]⟩) (.slice A5 4 c5)
  have GC := R_set7 HC2.out HR2.out (fun q hq => by rw [List.mem_singleton.mp hq]; decide) (.int .i64 0) (.int .i64 0) (.int .i64 0) (.int .i64 0) (.slice none 0 0) (.string ⟨#[]⟩) (.slice A5 4 c5)
  replace G := Aside0.mk G
  replace GB := Aside0.mk GB
  replace GC := Aside0.mk GC
  clear r0 r1 r2 r3 r4 r5 r6 g0 g1 g2 g3 g4 g5 g6 HR2 HC2 HB2 HL HG
  refine bodyPost_ret (results_cell_row rfl _ _ R 61 _ (0, 0) _ rfl G.out Tryz.underlying61 rfl (by kernel_rfl)) rfl ?_
  exact ⟨A5, c5, rfl, GB.out, GC.out⟩
abbrev kText : ByteArray := ⟨#[114, 101, 108, 111, 97, 100, 32, 48, 59, 32, 116, 97, 115, 107, 32, 97, 32, 112, 101, 114, 105, 111, 100, 32, 53, 32, 100, 101, 97, 100, 108, 105, 110, 101, 32, 53, 32, 102, 105, 120, 101, 100, 32, 114, 101, 103, 105, 111, 110, 115, 32, 50, 59]⟩
def kToks : List S155 := [⟨3, ⟨#[114, 101, 108, 111, 97, 100]⟩, 0, 0⟩, ⟨2, ⟨#[]⟩, 0, 7⟩, ⟨3, ⟨#[59]⟩, 0, 8⟩, ⟨3, ⟨#[116, 97, 115, 107]⟩, 0, 10⟩, ⟨1, ⟨#[97]⟩, 0, 15⟩, ⟨3, ⟨#[112, 101, 114, 105, 111, 100]⟩, 0, 17⟩, ⟨2, ⟨#[]⟩, 5, 24⟩, ⟨3, ⟨#[100, 101, 97, 100, 108, 105, 110, 101]⟩, 0, 26⟩, ⟨2, ⟨#[]⟩, 5, 35⟩, ⟨3, ⟨#[102, 105, 120, 101, 100]⟩, 0, 37⟩, ⟨3, ⟨#[114, 101, 103, 105, 111, 110, 115]⟩, 0, 43⟩, ⟨2, ⟨#[]⟩, 2, 51⟩, ⟨3, ⟨#[59]⟩, 0, 52⟩, ⟨4, ⟨#[]⟩, 0, 53⟩]
set_option maxRecDepth 100000 in
theorem kLex1 : lex_Tokens.f 30 ⟨#[97]⟩ = some ([⟨1, ⟨#[97]⟩, 0, 0⟩, ⟨4, ⟨#[]⟩, 0, 1⟩], 1, 0) := by kernel_rfl
set_option maxRecDepth 100000 in
theorem kLex : lex_Tokens.f 30 kText = some (kToks, 53, 0) := by kernel_rfl
theorem kWork : task_Work.f 30 ⟨#[97]⟩ 5 5 0 0 0 [2] 0 0 = some 2 := by kernel_rfl
theorem numIs_some (a : Int) : ∃ r, num_Is.f a = some r := by unfold num_Is.f; split <;> exact ⟨_, rfl⟩
theorem floor_some (a b : Int) : ∃ r, num_Floor.f a b = some r := by
  unfold num_Floor.f
  obtain ⟨r, hr⟩ := numIs_some a
  obtain ⟨q, hq⟩ := numIs_some b
  rw [hr, hq, Option.bind_some, Option.bind_some]
  repeat (first | exact ⟨_, rfl⟩ | split)
theorem ceil_some (a b : Int) : ∃ r, num_Ceil.f a b = some r := by
  unfold num_Ceil.f
  obtain ⟨r, hr⟩ := floor_some a b
  rw [hr, Option.bind_some]
  repeat (first | exact ⟨_, rfl⟩ | split)
theorem kSum1 (v : Int) : ∃ r, fix_sum.f 30 0 [⟨5, 2⟩] v = some r := by
  obtain ⟨r, hr⟩ := ceil_some v 5
  refine ⟨wrap64 (0 + wrap64 (2 * r.1)), ?_⟩
  · show ((num_Ceil.f v 5).bind fun bt => fix_sum.l0 29 (wrap64 (0 + wrap64 (2 * bt.1))) v [⟨5, 2⟩] 1 (wrap64 (0 + 1))) = _
    rw [hr, show wrap64 (0 + 1) = 1 from wrap64_id (by decide) (by decide), Option.bind_some]
    unfold fix_sum.l0
    rw [if_neg (by decide)]
def kS (v : Int) : Int := (fix_sum.f 30 0 [⟨5, 2⟩] v).getD 0
theorem kS_eq (v : Int) : fix_sum.f 30 0 [⟨5, 2⟩] v = some (kS v) := by
  obtain ⟨r, hr⟩ := kSum1 v
  unfold kS; rw [hr]; rfl
theorem kLeast : leastG kS 1000001 1 = (2, true) := by
  have h1 : kS 1 = 2 := by kernel_rfl
  have h2 : kS 2 = 2 := by kernel_rfl
  show (if kS 1 = 1 then ((1 : Int), true) else if kS 1 < 1 ∨ kS 1 > 1000000 then (0, false) else leastG kS (999999 + 1) (kS 1)) = _
  rw [h1, if_neg (by decide), if_neg (by decide)]
  show (if kS 2 = 2 then ((2 : Int), true) else if kS 2 < 2 ∨ kS 2 > 1000000 then (0, false) else leastG kS 999999 (kS 2)) = _
  rw [h2, if_pos rfl]
def kF (q f : Int) : Int := doneG (fun _ => 0 + (q + 1) * 2) 1000002 f
theorem doneG_two (a f : Int) (n : Nat) : doneG (fun _ => a) (n + 1 + 1) f = if a ≤ f then f else a := by
  unfold doneG
  by_cases h : a ≤ f
  · rw [if_pos h, if_pos h]
  · rw [if_neg h, if_neg h]
    unfold doneG
    rw [if_pos (Int.le_refl _)]
theorem kF_eq (q f : Int) : kF q f = if 0 + (q + 1) * 2 ≤ f then f else 0 + (q + 1) * 2 := doneG_two _ f 1000000
theorem kWith : withG kF 5 2 3 0 1 0 = 2 := by
  unfold withG
  rw [if_pos (by decide), kF_eq, if_neg (by decide)]
  unfold withG
  rw [if_neg (by decide)]
  decide
theorem kToksOk : TextToks kToks 0 ⟨#[97]⟩ 5 5 2 :=
  ⟨_, _, _, kToks.drop 3 |>.take 10, _, rfl, by kernel_rfl, rfl, rfl, by kernel_rfl, ⟨_, _, _, _, _, _, _, _, _, _, rfl, by kernel_rfl, rfl, rfl, by kernel_rfl, rfl, rfl, by kernel_rfl, rfl, rfl, by kernel_rfl, by kernel_rfl, rfl, rfl, by decide, by kernel_rfl, by kernel_rfl, by kernel_rfl⟩, rfl⟩
theorem kIsOk : IsOk 30 tA 0 where
  name := ⟨0, 0, 1, _, kLex1⟩
  reg := by kernel_rfl
  work := ⟨2, kWork, by decide⟩
  le := by decide
  time := by kernel_rfl
  mode := by kernel_rfl
  sets := by kernel_rfl
theorem allA (W : World) (A : Option Addr) (c : Nat) (hT : TabW W) (hC : Kd.C k46 W A 1 [tA]) (hc : 1 ≤ c) : Calls Tryz.prog 20 #[.agg #[.int .i64 0, .slice A 1 c]] W fun e w' => e = .returned (.bool true) ∧ Below W.heap.size W w' :=
  have h0 : ∀ j : Nat, j < [tA].length → j = 0 := fun j hj => by simp at hj; omega
  All_yes 30 0 A c [tA] W hT hC hc (by kernel_rfl) (Nat.le_refl _) (by decide) (fun j hj => (h0 j hj) ▸ kIsOk) (fun j hj x hx => (by rw [h0 j hj] at hx; cases hx)) (fun j hj => (by rw [h0 j hj]; decide))
theorem ofA (W : World) (A : Option Addr) (c : Nat) (hC : Kd.C k46 W A 1 [tA]) (hc : 1 ≤ c) : Calls Tryz.prog 21 #[.agg #[.int .i64 0, .slice A 1 c], .int .i64 0] W (Gives W (.tuple #[.int .i64 2, .int .i64 1])) := by
  have hlo : ∀ W', Below W.heap.size W W' → Calls Tryz.prog 66 #[.agg #[.int .i64 0, .slice A [tA].length c], .int .i64 ((0 : Nat) : Int)] W' fun e w' => ∃ v, e = .returned v ∧ Kd.R k165 165 w' W'.heap.size (fun _ => True) v [] ∧ Below W'.heap.size W' w' :=
    fun W' _ => (loads_zero W' 0 A c 1 (Nat.le_refl _) hc).mono fun e w' h => ⟨_, h.1, Kd.R_nil _ _ _ _ _, h.2⟩
  refine respOf_calls W 0 A c 1 0 0 2 1 (fun W' _ => most_one W' 0 A c) (fun W' hW => ?_)
  have hC' := Kd.C_below hC hW
  have hlo' : ∀ W2, Below W'.heap.size W' W2 → Calls Tryz.prog 66 #[.agg #[.int .i64 0, .slice A [tA].length c], .int .i64 ((0 : Nat) : Int)] W2 fun e w' => ∃ v, e = .returned v ∧ Kd.R k165 165 w' W2.heap.size (fun _ => True) v [] ∧ Below W2.heap.size W2 w' := fun W2 h2 => hlo W2 (hW.trans (h2.mono hW.size))
  have hO : ∀ W2, Below W'.heap.size W' W2 → Calls Tryz.prog 65 #[.agg #[.int .i64 0, .slice A [tA].length c], .int .i64 ((0 : Nat) : Int), .int .i64 0] W2 (Gives W2 (.tuple #[.int .i64 2, .bool true])) := fun W2 h2 =>
    activeOf_calls W2 0 A c [tA] 0 0 [] 2 2 true (Kd.C_below hC' h2) hc (by decide) (by decide) (fun W3 h3 => hlo' W3 (h2.trans (h3.mono h2.size))) 30 kWork (fun W3 A1 c1 hr hc1 => by
      have h := least_calls 0 A1 c1 [⟨5, 2⟩] W3 hr hc1 (by decide) ⟨by decide, by decide⟩ kS 30 (fun v _ _ => kS_eq v)
      rw [kLeast] at h
      exact h)
  have H := with_calls W' 0 A c [tA] 0 0 [] 2 2 hC' hc (by decide) hlo' 30 kWork hO (by decide) (by decide) (by decide) (by decide) kF (fun q f hq hlt h0 h1 => by
    have hq0 : q = 0 := by
      have h5 : q * 5 < 2 := hlt
      omega
    subst hq0
    rw [kF_eq]
    refine ⟨by split <;> omega, by split <;> omega, fun W2 A1 c1 hr hc1 => ?_⟩
    have h := done_calls (0 + (0 + 1) * 2) A1 c1 [] W2 hr hc1 (by decide) ⟨by decide, by decide⟩ (fun _ => 0 + (0 + 1) * 2) 30 (fun v _ _ => rfl) 1000000 (by decide) (fun _ _ _ => by decide) f h0 h1 1000002 (by omega)
    rw [show doneG (fun _ => 0 + (0 + 1) * 2) 1000002 f = kF 0 f from rfl, kF_eq] at h
    exact h) 3 (by decide)
  rw [show (rd_T46 [tA] ((0 : Nat) : Int)).f1 = 5 from rfl, show (rd_T46 [tA] ((0 : Nat) : Int)).f2 = 5 from rfl, kWith] at H
  exact H
theorem judgeA (W : World) (A : Option Addr) (c : Nat) (hTw : ∀ W', Below W.heap.size W W' → TabW W') (hC : Kd.C k46 W A 1 [tA]) (hc : 1 ≤ c) : Calls Tryz.prog 9 #[.agg #[.int .i64 0, .slice A 1 c]] W fun e w' => ∃ A5 n5 c5, e = .returned (.tuple #[.agg #[.int .i64 1, .int .i64 0, .slice A5 n5 c5], .int .i64 0]) ∧ Below W.heap.size W w' := by
  refine (judge_calls W 0 A c 1 [(2, 1)] rfl (by decide) (fun W' h => allA W' A c (hTw W' h) (Kd.C_below hC h) hc) (fun W' i h hi => ?_)).mono ?_
  · obtain rfl : i = 0 := by omega
    exact ofA W' A c (Kd.C_below hC h) hc
  · rintro e w' ⟨v, rfl, hr, hb⟩
    obtain ⟨A5, c5, rfl⟩ := Kd.R_slice hr
    exact ⟨A5, _, c5, rfl, hb⟩
theorem newE_calls (w : World) : Calls Tryz.prog 24 #[] w fun e w' => e = .returned (.pointer (some ⟨w.heap.size, 0, none⟩)) ∧ w' = w.alloc (.cells #[.int .i64 0, .slice none 0 0, .bool false, .pointer none] 82) := by
  have hu82 := Tryz.underlying82
  go_enter Tryz.func24, Tryz.ntmps24
  go_wp2
  go_ret
  exact ⟨rfl, rfl⟩
theorem fld61_0 (a b c d e f g : Value) (w : World) : Sem.run Tryz.prog (Instr.field 61 (Value.agg #[a, b, c, d, e, f, g]) 0) w = Result.ok a w := by kernel_rfl
attribute [local go_sem] fld61_0
set_option maxHeartbeats 16000000 in
set_option maxRecDepth 100000 in
theorem known_calls (w : World) (hT : TabW w) : Calls Tryz.prog 12 #[] w fun e w' => e = .returned (.bool true) ∧ Below w.heap.size w w' := by
  have HTw := Aside0.mk (fun W (hW : Below w.heap.size w W) => hT.below hW)
  have hal : Below w.heap.size w (w.alloc (.cells #[.int .i64 0, .slice none 0 0, .bool false, .pointer none] 82)) := Below.alloc (Below.refl _ _) (Nat.le_refl _) _
  have HX1 := Aside0.mk (show XI w w.heap.size 0 (.slice none 0 0) false none (w.alloc (.cells #[.int .i64 0, .slice none 0 0, .bool false, .pointer none] 82)) from ⟨heap_alloc_new w _, hal, Nat.le_refl _⟩)
  have HP := Aside0.mk (fun W (hW : Below w.heap.size w W) => parse_calls W 30 kText kToks 53 0 ⟨#[97]⟩ 5 5 2 (HTw.out W hW) kLex kToksOk (fun W' A c hb hC hc => allA W' A c (HTw.out W' (hW.trans (hb.mono hW.size))) hC hc))
  have HE := Aside0.mk (newE_calls w)
  have HDL := Aside0.mk (do_load kText 0 53 [tA] HX1.out rfl (fun W hW => (HP.out W (hal.trans (hW.mono hal.size)))))
  clear hT hal
  have hnp := hnp58
  have hu61 := Tryz.underlying61
  go_enter Tryz.func12, Tryz.ntmps12
  go_upto_region 2 with (go_at_call 24; (with_reducible refine HE.out.mono ?_); rintro e w1 ⟨rfl, rfl⟩)
  generalize (w.alloc (.cells #[.int .i64 0, .slice none 0 0, .bool false, .pointer none] 82)) = W1 at HX1 HDL ⊢
  obtain ⟨x, hx⟩ : ∃ x, x = w.heap.size := ⟨_, rfl⟩
  rw [← hx] at HX1 HDL ⊢
  replace hx := Aside0.mk hx
  clear HP HE
  go_upto_region 4 with (first | (go_at_call 25; (with_reducible refine HDL.out.mono ?_); rintro e w2 ⟨A, c, rfl, hx2, hr2⟩; have HC2 := Aside0.mk (show Kd.C k46 w2 A 1 [tA] ∧ 1 ≤ c from ⟨(Kd.R_reads' hr2).2.2, (Kd.R_reads' hr2).2.1⟩); have HX2 := Aside0.mk hx2; have HD5 := Aside0.mk (do_start5 (tk := 0) (T := [tA]) hx2 (fun W hW => judgeA W A c (fun W' hW' => HTw.out W' ((hx2.hB.trans (hW.mono hx2.hB.size)).trans (hW'.mono (Nat.le_trans hx2.hB.size hW.size)))) (Kd.C_below HC2.out.1 hW) HC2.out.2) (fun W hW => kNew_calls W 0 A c [tA] (Kd.C_below HC2.out.1 hW) HC2.out.2 (Nat.le_refl _) (by decide) (fun W' hW' => allA W' A c (HTw.out W' ((hx2.hB.trans (hW.mono hx2.hB.size)).trans (hW'.mono (Nat.le_trans hx2.hB.size hW.size)))) (Kd.C_below (Kd.C_below HC2.out.1 hW) hW') HC2.out.2) (fun t ht => ⟨(tA_odd t ht).1, (tA_odd t ht).2.1⟩) (by decide))); clear hx2 hr2) | (go_at_call 25; (with_reducible refine HD5.out.mono ?_); rintro e w3 ⟨A5, n5, c5, g, L, K, ev, rfl, hx3, hk3, ha3⟩; have HX3 := Aside0.mk hx3; have HK3 := Aside0.mk hk3; replace ha3 := Aside0.mk ha3; clear hx3 hk3))
  have hbL : Below w3.heap.size w3 (((w3.alloc (.cells #[.int .i64 2] 2)).alloc (.cells #[.slice (some ⟨w3.heap.size, 0, none⟩) 1 1] 28)).alloc (.cells #[.int .u64 1, .slice (some ⟨w3.heap.size + 1, 0, none⟩) 1 1, .int .u64 0, .int .u64 0, .slice none 0 0, .int .u64 0] 52)) := Below.alloc (Below.alloc (Below.alloc (Below.refl _ _) (Nat.le_refl _) _) (by simp) _) (by simp; omega) _
  have HIN : IN2 (w3.heap.size + 1 + 1) (w3.heap.size + 1) w3.heap.size (((w3.alloc (.cells #[.int .i64 2] 2)).alloc (.cells #[.slice (some ⟨w3.heap.size, 0, none⟩) 1 1] 28)).alloc (.cells #[.int .u64 1, .slice (some ⟨w3.heap.size + 1, 0, none⟩) 1 1, .int .u64 0, .int .u64 0, .slice none 0 0, .int .u64 0] 52)) := by
    refine ⟨?_, ?_, ?_⟩
    · have := heap_alloc_new ((w3.alloc (.cells #[.int .i64 2] 2)).alloc (.cells #[.slice (some ⟨w3.heap.size, 0, none⟩) 1 1] 28)) (.cells #[.int .u64 1, .slice (some ⟨w3.heap.size + 1, 0, none⟩) 1 1, .int .u64 0, .int .u64 0, .slice none 0 0, .int .u64 0] 52)
      simpa using this
    · have := heap_alloc_new (w3.alloc (.cells #[.int .i64 2] 2)) (.cells #[.slice (some ⟨w3.heap.size, 0, none⟩) 1 1] 28)
      exact blk_alloc (by simpa using this) _
    · exact blk_alloc (blk_alloc (heap_alloc_new w3 _) _) _
  have HDT := Aside0.mk (do_ticks (cI := 2) HTw.out (HX3.out.below hbL) (HK3.out.below hbL) ha3.out HIN)
  clear HIN hbL HD5 HDL HX2 HX1
  go_upto_region 5 with (go_at_call 25; (with_reducible refine HDT.out.mono ?_); rintro e w4 ⟨A6, c6, rfl, hb4, hr4⟩; have HB4 := Aside0.mk hb4; obtain ⟨ad, rfl, y0, y1, y2, y3⟩ := at_T43 (Kd.R_reads' hr4).2.2 3 (by decide) (by decide); clear hb4 hr4 y0 y2)
  have y1 : w4.cell? ⟨ad.block, ad.off + 12 + 1, none⟩ = some (.int .i64 8) := y1
  have y3 : w4.cell? ⟨ad.block, ad.off + 12 + 3, none⟩ = some (.int .i64 2) := y3
  have hal : Below w4.heap.size w4 (w4.alloc (.cells #[.int .i64 0, .int .i64 0, .int .i64 0, .int .i64 0, .slice none 0 0, .string ⟨#[]⟩, .slice (some ad) 4 c6] 61)) := Below.alloc (Below.refl _ _) (Nat.le_refl _) _
  have HB5 := Aside0.mk (HB4.out.trans (hal.mono HB4.out.size))
  replace y1 := pw_cell_below hal y1
  replace y3 := pw_cell_below hal y3
  have z6 := (blk_cell (heap_alloc_new w4 (.cells #[.int .i64 0, .int .i64 0, .int .i64 0, .int .i64 0, .slice none 0 0, .string ⟨#[]⟩, .slice (some ad) 4 c6] 61)) 6).trans rfl
  clear hal HB4
  generalize (w4.alloc (.cells #[.int .i64 0, .int .i64 0, .int .i64 0, .int .i64 0, .slice none 0 0, .string ⟨#[]⟩, .slice (some ad) 4 c6] 61)) = W5 at HB5 y1 y3 z6 ⊢
  go_wp2
  go_ret
  exact ⟨rfl, HB5.out⟩
end Go.Proofs.YtaofmmnfenlofaaGreatDoor.QTc
namespace Go.Proofs.YtaofmmnfenlofaaGreatDoor.QTc
open Go.RowKit Go.Proofs.YtaofmmnfenlofaaGreatDoorW.PrintWords Go.Proofs.YtaofmmnfenlofaaGreatDoorW.PrintLast Go.Proofs.YtaofmmnfenlofaaGreatDoorW.PrintMore
attribute [local go_sem] max2_int min2_int max_two min_two max_three min_three max_four min_four
set_option linter.unusedVariables false
set_option linter.unusedSimpArgs false
def taskmasterref5_in.f (a0 : Int) (a1 : Int) (a2 : Int) : Option (Bool) := if a0 ≥ a1 then (some (decide (a0 ≤ a2))) else (some false)
set_option maxHeartbeats 8000000 in
set_option maxRecDepth 100000 in
theorem taskmasterref5_in.calls (a0 : Int) (a1 : Int) (a2 : Int) (r : Bool) (w : World) (h : taskmasterref5_in.f a0 a1 a2 = some r) :
  Calls Tryz.prog 28 #[.int .i64 a0, .int .i64 a1, .int .i64 a2] w fun e w' => e = .returned (.bool r) ∧ Drawn0 w w' := by
 have H : (if a0 ≥ a1 then (some (decide (a0 ≤ a2))) else (some false)) = some r := h
 clear h
 by_cases c4 : a0 ≥ a1
 ·rw [if_pos c4] at H
  have c4b0 : decide (a1 ≤ a0) = true := decide_eq_true c4
  clear c4
  obtain rfl := Option.some.inj H
  go_enter Tryz.func28, Tryz.ntmps28
  go_wp2
  go_ret
  exact ⟨by first | rfl | (simp; done) | (simp [*]; done), by repeat (first | exact Drawn0.refl _ | apply Drawn0.step)⟩
 ·rw [if_neg c4] at H
  have c4b0 : decide (a1 ≤ a0) = false := decide_eq_false c4
  clear c4
  obtain rfl := Option.some.inj H
  go_enter Tryz.func28, Tryz.ntmps28
  go_wp2
  go_ret
  exact ⟨by first | rfl | (simp; done) | (simp [*]; done), by repeat (first | exact Drawn0.refl _ | apply Drawn0.step)⟩
def taskmasterref4_small.f (a0 : Int) : Option (Bool) := if a0 ≥ 97 then (some (decide (a0 ≤ 122))) else (some false)
set_option maxHeartbeats 8000000 in
set_option maxRecDepth 100000 in
theorem taskmasterref4_small.calls (a0 : Int) (r : Bool) (w : World) (h : taskmasterref4_small.f a0 = some r) :
  Calls Tryz.prog 98 #[.int .u8 a0] w fun e w' => e = .returned (.bool r) ∧ Drawn0 w w' := by
 have H : (if a0 ≥ 97 then (some (decide (a0 ≤ 122))) else (some false)) = some r := h
 clear h
 by_cases c2 : a0 ≥ 97
 ·rw [if_pos c2] at H
  have c2b0 : decide (97 ≤ a0) = true := decide_eq_true c2
  clear c2
  obtain rfl := Option.some.inj H
  go_enter Tryz.func98, Tryz.ntmps98
  go_wp2
  go_ret
  exact ⟨by first | rfl | (simp; done) | (simp [*]; done), by repeat (first | exact Drawn0.refl _ | apply Drawn0.step)⟩
 ·rw [if_neg c2] at H
  have c2b0 : decide (97 ≤ a0) = false := decide_eq_false c2
  clear c2
  obtain rfl := Option.some.inj H
  go_enter Tryz.func98, Tryz.ntmps98
  go_wp2
  go_ret
  exact ⟨by first | rfl | (simp; done) | (simp [*]; done), by repeat (first | exact Drawn0.refl _ | apply Drawn0.step)⟩
def taskmasterref4_digit.f (a0 : Int) : Option (Bool) := if a0 ≥ 48 then (some (decide (a0 ≤ 57))) else (some false)
set_option maxHeartbeats 8000000 in
set_option maxRecDepth 100000 in
theorem taskmasterref4_digit.calls (a0 : Int) (r : Bool) (w : World) (h : taskmasterref4_digit.f a0 = some r) :
  Calls Tryz.prog 131 #[.int .u8 a0] w fun e w' => e = .returned (.bool r) ∧ Drawn0 w w' := by
 have H : (if a0 ≥ 48 then (some (decide (a0 ≤ 57))) else (some false)) = some r := h
 clear h
 by_cases c2 : a0 ≥ 48
 ·rw [if_pos c2] at H
  have c2b0 : decide (48 ≤ a0) = true := decide_eq_true c2
  clear c2
  obtain rfl := Option.some.inj H
  go_enter Tryz.func131, Tryz.ntmps131
  go_wp2
  go_ret
  exact ⟨by first | rfl | (simp; done) | (simp [*]; done), by repeat (first | exact Drawn0.refl _ | apply Drawn0.step)⟩
 ·rw [if_neg c2] at H
  have c2b0 : decide (48 ≤ a0) = false := decide_eq_false c2
  clear c2
  obtain rfl := Option.some.inj H
  go_enter Tryz.func131, Tryz.ntmps131
  go_wp2
  go_ret
  exact ⟨by first | rfl | (simp; done) | (simp [*]; done), by repeat (first | exact Drawn0.refl _ | apply Drawn0.step)⟩
def taskmasterref4_Words.f  : Option (List ByteArray) := some (([(⟨#[114, 101, 108, 111, 97, 100]⟩ : ByteArray), (⟨#[116, 97, 115, 107]⟩ : ByteArray), (⟨#[112, 101, 114, 105, 111, 100]⟩ : ByteArray), (⟨#[100, 101, 97, 100, 108, 105, 110, 101]⟩ : ByteArray), (⟨#[102, 105, 120, 101, 100]⟩ : ByteArray), (⟨#[102, 108, 111, 97, 116]⟩ : ByteArray), (⟨#[116, 104, 114, 101, 115, 104]⟩ : ByteArray), (⟨#[114, 101, 103, 105, 111, 110, 115]⟩ : ByteArray), (⟨#[101, 99, 98]⟩ : ByteArray), (⟨#[117, 99, 98]⟩ : ByteArray)] : List ByteArray))
set_option maxHeartbeats 8000000 in
set_option maxRecDepth 100000 in
theorem taskmasterref4_Words.calls  (r : List ByteArray) (w : World) (h : taskmasterref4_Words.f  = some r) :
  Calls Tryz.prog 157 #[] w fun e w' => ∃ v0_ : Value, e = .returned (v0_) ∧ Kd.R Kd.string 9 w' w.heap.size (fun _ => True) v0_ r ∧ Below w.heap.size w w' := by
 have HB := Aside0.mk (Below.refl w.heap.size w)
 have H : (some (([(⟨#[114, 101, 108, 111, 97, 100]⟩ : ByteArray), (⟨#[116, 97, 115, 107]⟩ : ByteArray), (⟨#[112, 101, 114, 105, 111, 100]⟩ : ByteArray), (⟨#[100, 101, 97, 100, 108, 105, 110, 101]⟩ : ByteArray), (⟨#[102, 105, 120, 101, 100]⟩ : ByteArray), (⟨#[102, 108, 111, 97, 116]⟩ : ByteArray), (⟨#[116, 104, 114, 101, 115, 104]⟩ : ByteArray), (⟨#[114, 101, 103, 105, 111, 110, 115]⟩ : ByteArray), (⟨#[101, 99, 98]⟩ : ByteArray), (⟨#[117, 99, 98]⟩ : ByteArray)] : List ByteArray))) = some r := h
 clear h
 obtain ⟨y353, hy353⟩ : ∃ y_ : List ByteArray, y_ = (([(⟨#[114, 101, 108, 111, 97, 100]⟩ : ByteArray), (⟨#[116, 97, 115, 107]⟩ : ByteArray), (⟨#[112, 101, 114, 105, 111, 100]⟩ : ByteArray), (⟨#[100, 101, 97, 100, 108, 105, 110, 101]⟩ : ByteArray), (⟨#[102, 105, 120, 101, 100]⟩ : ByteArray), (⟨#[102, 108, 111, 97, 116]⟩ : ByteArray), (⟨#[116, 104, 114, 101, 115, 104]⟩ : ByteArray), (⟨#[114, 101, 103, 105, 111, 110, 115]⟩ : ByteArray), (⟨#[101, 99, 98]⟩ : ByteArray), (⟨#[117, 99, 98]⟩ : ByteArray)] : List ByteArray)) := ⟨_, rfl⟩
 replace H : (some y353) = some r := by first | (rw [hy353]; with_reducible exact H) | (have H2_ := (Option.bind_some _ _).symm.trans H; rw [hy353]; with_reducible exact H2_) | (have H2_ := (Option.bind_some _ _).symm.trans H; with_reducible exact H2_) | with_reducible exact H | (rw [hy353]; exact H) | exact H
 have Ny353 := Aside0.mk hy353
 clear hy353
 obtain rfl := Option.some.inj H
 go_enter Tryz.func157, Tryz.ntmps157
 go_wp2_with (first | ((with_reducible refine gate_dst (N := 1) rfl ?_); refine Kd.R_lit Kd.string _ 9 ?hg (N := 1) ?hd (xs := ([(⟨#[114, 101, 108, 111, 97, 100]⟩ : ByteArray), (⟨#[116, 97, 115, 107]⟩ : ByteArray), (⟨#[112, 101, 114, 105, 111, 100]⟩ : ByteArray), (⟨#[100, 101, 97, 100, 108, 105, 110, 101]⟩ : ByteArray), (⟨#[102, 105, 120, 101, 100]⟩ : ByteArray), (⟨#[102, 108, 111, 97, 116]⟩ : ByteArray), (⟨#[116, 104, 114, 101, 115, 104]⟩ : ByteArray), (⟨#[114, 101, 103, 105, 111, 110, 115]⟩ : ByteArray), (⟨#[101, 99, 98]⟩ : ByteArray), (⟨#[117, 99, 98]⟩ : ByteArray)] : List ByteArray)) (inner := [.string (⟨#[114, 101, 108, 111, 97, 100]⟩ : ByteArray), .string (⟨#[116, 97, 115, 107]⟩ : ByteArray), .string (⟨#[112, 101, 114, 105, 111, 100]⟩ : ByteArray), .string (⟨#[100, 101, 97, 100, 108, 105, 110, 101]⟩ : ByteArray), .string (⟨#[102, 105, 120, 101, 100]⟩ : ByteArray), .string (⟨#[102, 108, 111, 97, 116]⟩ : ByteArray), .string (⟨#[116, 104, 114, 101, 115, 104]⟩ : ByteArray), .string (⟨#[114, 101, 103, 105, 111, 110, 115]⟩ : ByteArray), .string (⟨#[101, 99, 98]⟩ : ByteArray), .string (⟨#[117, 99, 98]⟩ : ByteArray)]) (ok := fun _ => True) (okp := fun _ => True) ?hr ?hp (fun _ hk => hk) trivial (Below.refl _ _) (Nat.le_refl _) (by simp) ?_; (case hd => rfl); (case hg => rfl); (case hr => first | (go_simp; done) | (go_simp; rfl)); (case hp => exact (Reps.one (show Kd.M Kd.string _ _ _ (⟨#[114, 101, 108, 111, 97, 100]⟩ : ByteArray) [.string (⟨#[114, 101, 108, 111, 97, 100]⟩ : ByteArray)] from rfl) (Reps.one (show Kd.M Kd.string _ _ _ (⟨#[116, 97, 115, 107]⟩ : ByteArray) [.string (⟨#[116, 97, 115, 107]⟩ : ByteArray)] from rfl) (Reps.one (show Kd.M Kd.string _ _ _ (⟨#[112, 101, 114, 105, 111, 100]⟩ : ByteArray) [.string (⟨#[112, 101, 114, 105, 111, 100]⟩ : ByteArray)] from rfl) (Reps.one (show Kd.M Kd.string _ _ _ (⟨#[100, 101, 97, 100, 108, 105, 110, 101]⟩ : ByteArray) [.string (⟨#[100, 101, 97, 100, 108, 105, 110, 101]⟩ : ByteArray)] from rfl) (Reps.one (show Kd.M Kd.string _ _ _ (⟨#[102, 105, 120, 101, 100]⟩ : ByteArray) [.string (⟨#[102, 105, 120, 101, 100]⟩ : ByteArray)] from rfl) (Reps.one (show Kd.M Kd.string _ _ _ (⟨#[102, 108, 111, 97, 116]⟩ : ByteArray) [.string (⟨#[102, 108, 111, 97, 116]⟩ : ByteArray)] from rfl) (Reps.one (show Kd.M Kd.string _ _ _ (⟨#[116, 104, 114, 101, 115, 104]⟩ : ByteArray) [.string (⟨#[116, 104, 114, 101, 115, 104]⟩ : ByteArray)] from rfl) (Reps.one (show Kd.M Kd.string _ _ _ (⟨#[114, 101, 103, 105, 111, 110, 115]⟩ : ByteArray) [.string (⟨#[114, 101, 103, 105, 111, 110, 115]⟩ : ByteArray)] from rfl) (Reps.one (show Kd.M Kd.string _ _ _ (⟨#[101, 99, 98]⟩ : ByteArray) [.string (⟨#[101, 99, 98]⟩ : ByteArray)] from rfl) (Reps.one (show Kd.M Kd.string _ _ _ (⟨#[117, 99, 98]⟩ : ByteArray) [.string (⟨#[117, 99, 98]⟩ : ByteArray)] from rfl) (Reps.none _ _)))))))))))); intro v354 w1 ho2 hb hg_ hnew_; clear hg_ hnew_; (first | rw [← Ny353.out] at ho2 | (simp only [Int.reduceToNat] at ho2; rw [← Ny353.out] at ho2)); have n0_ := Aside0.mk (Kd.R_lower ho2 (below_size (by repeat (first | (with_reducible first | exact HB.out | apply below_alloc | apply pw_below_drewN | apply below_drew1) | exact HB.out)))); have n1_ := Aside0.mk (below_step (by repeat (first | (with_reducible first | exact HB.out | apply below_alloc | apply pw_below_drewN | apply below_drew1) | exact HB.out)) hb); clear HB; have HO355 := n0_; have HB := n1_; clear n0_ n1_; clear hb ho2))
 go_ret
 exact ⟨_, by first | rfl | (simp [errW_none, errW_some] <;> rfl) | (simp [*, errW_none, errW_some] <;> rfl), by (with_reducible repeat (first | apply Kd.R_alloc | apply Kd.R_drewN | apply Kd.R_drew)); exact HO355.out, by repeat (first | (with_reducible first | exact HB.out | apply below_alloc | apply pw_below_drewN | apply below_drew1) | exact HB.out)⟩
def taskmasterref4_word.l0 : Nat → ByteArray → List ByteArray → Int → Option (Bool)
 | 0, _, _, _ => none
 | k + 1, x0, x3, x4 => if x4 < (x3.length : Int) then (if 0 ≤ x4 then (if (rdOf ByteArray.empty x3 x4).toList = x0.toList then (some true) else (taskmasterref4_word.l0 k x0 x3 (wrap64 (x4 + 1)))) else (none)) else (some false)
def taskmasterref4_word.f (k : Nat) (a0 : ByteArray) : Option (Bool) := (taskmasterref4_Words.f).bind fun t356 => (taskmasterref4_word.l0 k a0 t356 0)
set_option maxHeartbeats 8000000 in
set_option maxRecDepth 100000 in
theorem taskmasterref4_word.calls (k : Nat) (a0 : ByteArray) (r : Bool) (w : World) (h : taskmasterref4_word.f k a0 = some r) :
  Calls Tryz.prog 132 #[.string a0] w fun e w' => e = .returned (.bool r) ∧ Below w.heap.size w w' := by
 have HB := Aside0.mk (Below.refl w.heap.size w)
 have H : ((taskmasterref4_Words.f).bind fun t356 => (taskmasterref4_word.l0 k a0 t356 0)) = some r := h
 clear h
 replace H := Option.bind_eq_some_iff.mp H
 obtain ⟨t356, A20, H⟩ := H
 replace H : (taskmasterref4_word.l0 k a0 t356 0) = some r := H
 have A2 := Aside0.mk A20
 clear A20
 have H' := Aside0.mk H
 clear H
 go_enter Tryz.func132, Tryz.ntmps132
 go_wp2_with (first | ((with_reducible refine gate_callee (f := 157) rfl ?_); refine goesL_ (some 5) rfl rfl Tryz.func157 (by kernel_rfl) rfl #[] rfl (by (try simp only [List.map_toArray, List.map_cons, List.map_nil]); first | done | rfl | (simp only [List.length_drop, List.length_take]; rfl)) ?_; (with_reducible refine (taskmasterref4_Words.calls  t356 _ A2.out).mono ?_); rintro e w3 ⟨v357, rfl, ho0, hb⟩; refine ⟨_, rfl, ?_⟩; have n0_ := Aside0.mk (Kd.R_lower ho0 (below_size (by repeat (first | (with_reducible first | exact HB.out | apply below_alloc | apply pw_below_drewN | apply below_drew1) | exact HB.out)))); have n1_ := Aside0.mk (below_step (by repeat (first | (with_reducible first | exact HB.out | apply below_alloc | apply pw_below_drewN | apply below_drew1) | exact HB.out)) hb); clear HB; have HO358 := n0_; have HB := n1_; clear n0_ n1_; (try clear hb); (try clear hb2); (try clear hk); (try clear hi); (try clear ho0)))
 go_loopg [4] k (fun kq v4 w' => ∃ (x4_1 : Int), v4 = .int .i64 x4_1 ∧ Aside0 (taskmasterref4_word.l0 kq a0 t356 x4_1 = some r) ∧ Aside0 (kq ≤ k) ∧ Aside0 (Kd.R Kd.string 9 w' w.heap.size (fun _ => True) v357 t356) ∧ Aside0 (Below w.heap.size w w'))
 case atStart => exact ⟨(0), (by first | rfl | (simp; done) | (simp [*]; done)), H', ⟨Nat.le_refl _⟩, ⟨by (with_reducible repeat (first | apply Kd.R_alloc | apply Kd.R_drewN | apply Kd.R_drew)); exact HO358.out⟩, ⟨by repeat (first | (with_reducible first | exact HB.out | apply below_alloc | apply pw_below_drewN | apply below_drew1) | exact HB.out)⟩⟩
 case round =>
  clear H'
  try clear c1
  try clear p2
  obtain ⟨x4_1, rfl, HA, HK1, HO_3, HB⟩ := hrel
  cases gk with
  | zero => exact absurd HA.out (by simp [taskmasterref4_word.l0])
  | succ k1 =>
   have H := HA.out
   clear HA
   simp only [taskmasterref4_word.l0] at H
   by_cases c4 : x4_1 < (t356.length : Int)
   ·rw [if_pos c4] at H
    have c4b0 : decide (x4_1 < (t356.length : Int)) = true := decide_eq_true c4
    clear c4
    by_cases c5 : 0 ≤ x4_1
    ·rw [if_pos c5] at H
     have c5b0 : decide (0 ≤ x4_1) = true := decide_eq_true c5
     clear c5
     by_cases c6 : (rdOf ByteArray.empty t356 x4_1).toList = a0.toList
     ·rw [if_pos c6] at H
      have c6b0 : ((rdOf ByteArray.empty t356 x4_1).toList == a0.toList) = true := beq_iff_eq.mpr c6
      have c6b1 : ((rdOf ByteArray.empty t356 x4_1).toList != a0.toList) = false := bne_eq_false_iff_eq.mpr c6
      clear c6
      obtain rfl := Option.some.inj H
      obtain ⟨Ao7, co7, eo7⟩ := Kd.R_slice HO_3.out
      subst eo7
      have p359 : 0 ≤ (x4_1 : Int) := of_decide_eq_true (by first | (with_reducible assumption) | assumption)
      have q359 : x4_1 < (t356.length : Int) := of_decide_eq_true (by first | (with_reducible assumption) | assumption)
      obtain ⟨ad359, e359, hx359_0⟩ := Kd.at_string (Kd.R_reads' HO_3.out).2.2 x4_1 p359 q359
      cases e359
      replace p359 := eq_true p359
      replace q359 := eq_true q359
      go_wp2
      go_ret
      exact ⟨by first | rfl | (simp [errW_none, errW_some] <;> rfl) | (simp [*, errW_none, errW_some] <;> rfl), by repeat (first | (with_reducible first | exact HB.out | apply below_alloc | apply pw_below_drewN | apply below_drew1) | exact HB.out)⟩
     ·rw [if_neg c6] at H
      have c6b0 : ((rdOf ByteArray.empty t356 x4_1).toList == a0.toList) = false := beq_eq_false_iff_ne.mpr c6
      have c6b1 : ((rdOf ByteArray.empty t356 x4_1).toList != a0.toList) = true := bne_iff_ne.mpr c6
      have H' := Aside0.mk H
      clear H
      obtain ⟨Ao8, co8, eo8⟩ := Kd.R_slice HO_3.out
      subst eo8
      have p359 : 0 ≤ (x4_1 : Int) := of_decide_eq_true (by first | (with_reducible assumption) | assumption)
      have q359 : x4_1 < (t356.length : Int) := of_decide_eq_true (by first | (with_reducible assumption) | assumption)
      obtain ⟨ad359, e359, hx359_0⟩ := Kd.at_string (Kd.R_reads' HO_3.out).2.2 x4_1 p359 q359
      cases e359
      replace p359 := eq_true p359
      replace q359 := eq_true q359
      go_wp2
      go_roundg k1
      case measure => have := HK1.out; omega
      case rel => exact ⟨(wrap64 (x4_1 + 1)), (by first | rfl | (simp; done) | (simp [*]; done)), H', ⟨by have := HK1.out; omega⟩, ⟨by (with_reducible repeat (first | apply Kd.R_alloc | apply Kd.R_drewN | apply Kd.R_drew)); exact HO_3.out⟩, ⟨by repeat (first | (with_reducible first | exact HB.out | apply below_alloc | apply pw_below_drewN | apply below_drew1) | exact HB.out)⟩⟩
    ·rw [if_neg c5] at H
     exact absurd H (by simp)
   ·rw [if_neg c4] at H
    have c4b0 : decide (x4_1 < (t356.length : Int)) = false := decide_eq_false c4
    clear c4
    obtain rfl := Option.some.inj H
    obtain ⟨Ao9, co9, eo9⟩ := Kd.R_slice HO_3.out
    subst eo9
    go_wp2
    go_ret
    exact ⟨by first | rfl | (simp [errW_none, errW_some] <;> rfl) | (simp [*, errW_none, errW_some] <;> rfl), by repeat (first | (with_reducible first | exact HB.out | apply below_alloc | apply pw_below_drewN | apply below_drew1) | exact HB.out)⟩
mutual
def taskmasterref4_one.l0 : Nat → ByteArray → Int → Int → Option (Int × ByteArray × Int × Int × Int)
 | 0, _, _, _ => none
 | k + 1, x0, x4, x5 => if x4 < (x0.size : Int) then (if 0 ≤ x4 then ((taskmasterref4_digit.f (bt x0 x4)).bind fun t362 => (taskmasterref4_one.j1 k x0 x4 x5 t362)) else (none)) else (taskmasterref4_one.j1 k x0 x4 x5 false)
def taskmasterref4_one.j1 : Nat → ByteArray → Int → Int → Bool → Option (Int × ByteArray × Int × Int × Int)
 | 0, _, _, _, _ => none
 | k + 1, x0, x4, x5, x24 => if x24 = true then (if x4 < 9 then (if 0 ≤ x4 then (if x4 < (x0.size : Int) then (taskmasterref4_one.l0 k x0 (wrap64 (x4 + 1)) (wrap64 ((wrap64 (10 * x5)) + (((bt x0 x4) - 48) % 256)))) else (none)) else (none)) else (taskmasterref4_one.l0 k x0 (wrap64 (x4 + 1)) x5)) else (if x4 > 9 then (some (0, (⟨#[]⟩ : ByteArray), 0, 0, 0)) else (if x4 > 1 then (if 0 < (x0.size : Int) then (if (bt x0 0) = 48 then (some (0, (⟨#[]⟩ : ByteArray), 0, 0, 0)) else (some (2, (⟨#[]⟩ : ByteArray), x5, 0, x4))) else (none)) else (some (2, (⟨#[]⟩ : ByteArray), x5, 0, x4))))
def taskmasterref4_one.j3 : Nat → ByteArray → Int → Option (Int × ByteArray × Int × Int × Int)
 | 0, _, _ => none
 | k + 1, x0, x4 => if 0 ≤ x4 then (if x4 ≤ (x0.size : Int) then ((taskmasterref4_word.f k (x0.extract 0 (x4 : Int).toNat)).bind fun t366 => (if t366 = true then (some (3, x0.extract 0 (x4 : Int).toNat, 0, 0, x4)) else (if x4 > 12 then (some (0, (⟨#[]⟩ : ByteArray), 0, 0, 0)) else (some (1, x0.extract 0 (x4 : Int).toNat, 0, 0, x4))))) else (none)) else (none)
def taskmasterref4_one.l1 : Nat → ByteArray → Int → Option (Int × ByteArray × Int × Int × Int)
 | 0, _, _ => none
 | k + 1, x0, x4 => if x4 < (x0.size : Int) then (if 0 ≤ x4 then ((taskmasterref4_small.f (bt x0 x4)).bind fun t364 => (if t364 = true then (taskmasterref4_one.l1 k x0 (wrap64 (x4 + 1))) else ((taskmasterref4_digit.f (bt x0 x4)).bind fun t365 => (if t365 = true then (taskmasterref4_one.l1 k x0 (wrap64 (x4 + 1))) else (if (bt x0 x4) = 95 then (taskmasterref4_one.l1 k x0 (wrap64 (x4 + 1))) else (taskmasterref4_one.j3 k x0 x4)))))) else (none)) else (taskmasterref4_one.j3 k x0 x4)
end
def taskmasterref4_one.f (k : Nat) (a0 : ByteArray) : Option (Int × ByteArray × Int × Int × Int) := if 0 < (a0.size : Int) then (if (bt a0 0) = 59 then (some (3, (⟨#[59]⟩ : ByteArray), 0, 0, 1)) else ((taskmasterref4_digit.f (bt a0 0)).bind fun t361 => (if t361 = true then (taskmasterref4_one.l0 k a0 0 0) else ((taskmasterref4_small.f (bt a0 0)).bind fun t363 => (if t363 = true then (taskmasterref4_one.l1 k a0 0) else (some (0, (⟨#[]⟩ : ByteArray), 0, 0, 0))))))) else (none)
set_option maxHeartbeats 8000000 in
set_option maxRecDepth 100000 in
theorem taskmasterref4_one.calls (k : Nat) (a0 : ByteArray) (r1 : Int) (r2 : ByteArray) (r3 : Int) (r4 : Int) (r5 : Int) (w : World) (h : taskmasterref4_one.f k a0 = some (r1, r2, r3, r4, r5)) :
  Calls Tryz.prog 99 #[.string a0] w fun e w' => e = .returned (.tuple #[.agg #[.int .i64 r1, .string r2, .int .i64 r3, .int .i64 r4], .int .i64 r5]) ∧ Below w.heap.size w w' := by
 have hu155 := Tryz.underlying155
 have HB := Aside0.mk (Below.refl w.heap.size w)
 have H : (if 0 < (a0.size : Int) then (if (bt a0 0) = 59 then (some (3, (⟨#[59]⟩ : ByteArray), 0, 0, 1)) else ((taskmasterref4_digit.f (bt a0 0)).bind fun t361 => (if t361 = true then (taskmasterref4_one.l0 k a0 0 0) else ((taskmasterref4_small.f (bt a0 0)).bind fun t363 => (if t363 = true then (taskmasterref4_one.l1 k a0 0) else (some (0, (⟨#[]⟩ : ByteArray), 0, 0, 0))))))) else (none)) = some (r1, r2, r3, r4, r5) := h
 clear h
 by_cases c2 : 0 < (a0.size : Int)
 ·rw [if_pos c2] at H
  have c2b0 : decide (0 < (a0.size : Int)) = true := decide_eq_true c2
  have c2b1 : decide (0 < a0.size) = true := decide_eq_true (by omega)
  clear c2
  by_cases c4 : (bt a0 0) = 59
  ·rw [if_pos c4] at H
   have c4b0 : ((bt a0 0) == 59) = true := beq_iff_eq.mpr c4
   have c4b1 : ((bt a0 0) != 59) = false := bne_eq_false_iff_eq.mpr c4
   clear c4
   simp only [Option.some.injEq, Prod.mk.injEq] at H
   obtain ⟨rfl, rfl, rfl, rfl, rfl⟩ := H
   go_enter Tryz.func99, Tryz.ntmps99
   go_wp2_with (first | ((with_reducible refine gate_dst (N := 2) rfl ?_); refine box_event ?hg (N := 2) ?hd (cs := #[.int .i64 0, .string (⟨#[]⟩ : ByteArray), .int .i64 0, .int .i64 0]) (t := 155) ?hr ?_; (case hd => rfl); (case hg => rfl); (case hr => first | (go_simp; done) | (go_simp; rfl)); intro gb360 hg w5 hbox hb; have n0_ := Aside0.mk (below_step (by repeat (first | (with_reducible first | exact HB.out | apply below_alloc | apply pw_below_drewN | apply below_drew1) | exact HB.out)) hb); have n1_ := Aside0.mk (hbox); have n2_ := Aside0.mk ((by rw [hg]; exact (below_size (by repeat (first | (with_reducible first | exact HB.out | apply below_alloc | apply pw_below_drewN | apply below_drew1) | exact HB.out))) : w.heap.size ≤ gb360)); have n3_ := Aside0.mk ((by rw [hg]; exact (below_size (by repeat (first | (with_reducible first | exact HB.out | apply below_alloc | apply pw_below_drewN | apply below_drew1) | exact HB.out))) : w.heap.size ≤ gb360)); clear HB; have HB := n0_; have BK360 := n1_; have GW360 := n2_; have GE360 := n3_; clear n0_ n1_ n2_ n3_; clear hb hbox hg; have p3 : 0 ≤ (0 : Int) := (by omega); have q3 : 0 < a0.size := (by have : (0 : Int) < (a0.size : Int) := of_decide_eq_true (by first | (with_reducible assumption) | assumption); omega); have hx3 : ∀ h : 0 < a0.size, ((a0[0]'h).toNat : Int) = bt a0 0 := bt_at a0 0; clear p3; have qi3 : (0 < (a0.size : Int)) = True := eq_true (of_decide_eq_true (by first | (with_reducible assumption) | assumption)); replace q3 := eq_true q3; have hcz6_0 : w5.cell? ⟨gb360, 0, none⟩ = some (.int .i64 0) := (blk_cell BK360.out 0).trans rfl; have hcz6_1 : w5.cell? ⟨gb360, 1, none⟩ = some (.string (⟨#[]⟩ : ByteArray)) := (blk_cell BK360.out 1).trans rfl; have hcz6_2 : w5.cell? ⟨gb360, 2, none⟩ = some (.int .i64 0) := (blk_cell BK360.out 2).trans rfl; have hcz6_3 : w5.cell? ⟨gb360, 3, none⟩ = some (.int .i64 0) := (blk_cell BK360.out 3).trans rfl; have hfz6_0 := blk_frozen BK360.out 0; have hfz6_1 := blk_frozen BK360.out 1; have hfz6_2 := blk_frozen BK360.out 2; have hfz6_3 := blk_frozen BK360.out 3))
   refine bodyPost_ret (results_ct rfl _ _ gb360 155 #[.int .i64 3, .string (⟨#[59]⟩ : ByteArray), .int .i64 0, .int .i64 0] (0, 0) _ rfl (by (with_reducible repeat (first | refine blk_drewN ?_ _ | refine blk_drew ?_ | refine blk_alloc ?_ _)); refine blk_put (cs := #[.int .i64 3, .string (⟨#[59]⟩ : ByteArray), .int .i64 0, .int .i64 0]) ?_ 3 _ rfl; (with_reducible repeat (first | refine blk_drewN ?_ _ | refine blk_drew ?_ | refine blk_alloc ?_ _)); refine blk_put (cs := #[.int .i64 3, .string (⟨#[59]⟩ : ByteArray), .int .i64 0, .int .i64 0]) ?_ 2 _ rfl; (with_reducible repeat (first | refine blk_drewN ?_ _ | refine blk_drew ?_ | refine blk_alloc ?_ _)); refine blk_put (cs := #[.int .i64 3, .string (⟨#[]⟩ : ByteArray), .int .i64 0, .int .i64 0]) ?_ 1 _ rfl; (with_reducible repeat (first | refine blk_drewN ?_ _ | refine blk_drew ?_ | refine blk_alloc ?_ _)); refine blk_put (cs := #[.int .i64 0, .string (⟨#[]⟩ : ByteArray), .int .i64 0, .int .i64 0]) ?_ 0 _ rfl; (with_reducible repeat (first | refine blk_drewN ?_ _ | refine blk_drew ?_ | refine blk_alloc ?_ _)); exact BK360.out) Tryz.underlying155 rfl (by kernel_rfl)) rfl ?_
   exact ⟨by first | rfl | (simp [errW_none, errW_some] <;> rfl) | (simp [*, errW_none, errW_some] <;> rfl), by repeat (first | (with_reducible first | exact HB.out | apply below_alloc | apply pw_below_drewN | apply below_drew1 | refine below_set ?_ GE360.out) | exact HB.out)⟩
  ·rw [if_neg c4] at H
   have c4b0 : ((bt a0 0) == 59) = false := beq_eq_false_iff_ne.mpr c4
   have c4b1 : ((bt a0 0) != 59) = true := bne_iff_ne.mpr c4
   replace H := Option.bind_eq_some_iff.mp H
   obtain ⟨t361, A80, H⟩ := H
   replace H : (if t361 = true then (taskmasterref4_one.l0 k a0 0 0) else ((taskmasterref4_small.f (bt a0 0)).bind fun t363 => (if t363 = true then (taskmasterref4_one.l1 k a0 0) else (some (0, (⟨#[]⟩ : ByteArray), 0, 0, 0))))) = some (r1, r2, r3, r4, r5) := H
   have A8 := Aside0.mk A80
   clear A80
   by_cases c9 : t361 = true
   ·subst c9
    have H1 : (taskmasterref4_one.l0 k a0 0 0) = some (r1, r2, r3, r4, r5) := by rw [if_pos rfl] at H; exact H
    clear H
    have H := H1
    clear H1
    have H' := Aside0.mk H
    clear H
    go_enter Tryz.func99, Tryz.ntmps99
    go_wp2_with (first | ((with_reducible refine gate_dst (N := 2) rfl ?_); refine box_event ?hg (N := 2) ?hd (cs := #[.int .i64 0, .string (⟨#[]⟩ : ByteArray), .int .i64 0, .int .i64 0]) (t := 155) ?hr ?_; (case hd => rfl); (case hg => rfl); (case hr => first | (go_simp; done) | (go_simp; rfl)); intro gb360 hg w10 hbox hb; have n0_ := Aside0.mk (below_step (by repeat (first | (with_reducible first | exact HB.out | apply below_alloc | apply pw_below_drewN | apply below_drew1) | exact HB.out)) hb); have n1_ := Aside0.mk (hbox); have n2_ := Aside0.mk ((by rw [hg]; exact (below_size (by repeat (first | (with_reducible first | exact HB.out | apply below_alloc | apply pw_below_drewN | apply below_drew1) | exact HB.out))) : w.heap.size ≤ gb360)); have n3_ := Aside0.mk ((by rw [hg]; exact (below_size (by repeat (first | (with_reducible first | exact HB.out | apply below_alloc | apply pw_below_drewN | apply below_drew1) | exact HB.out))) : w.heap.size ≤ gb360)); clear HB; have HB := n0_; have BK360 := n1_; have GW360 := n2_; have GE360 := n3_; clear n0_ n1_ n2_ n3_; clear hb hbox hg; have p3 : 0 ≤ (0 : Int) := (by omega); have q3 : 0 < a0.size := (by have : (0 : Int) < (a0.size : Int) := of_decide_eq_true (by first | (with_reducible assumption) | assumption); omega); have hx3 : ∀ h : 0 < a0.size, ((a0[0]'h).toNat : Int) = bt a0 0 := bt_at a0 0; clear p3; have qi3 : (0 < (a0.size : Int)) = True := eq_true (of_decide_eq_true (by first | (with_reducible assumption) | assumption)); replace q3 := eq_true q3; have p7 : 0 ≤ (0 : Int) := (by omega); have q7 : 0 < a0.size := (by have : (0 : Int) < (a0.size : Int) := of_decide_eq_true (by first | (with_reducible assumption) | assumption); omega); have hx7 : ∀ h : 0 < a0.size, ((a0[0]'h).toNat : Int) = bt a0 0 := bt_at a0 0; clear p7; have qi7 : (0 < (a0.size : Int)) = True := eq_true (of_decide_eq_true (by first | (with_reducible assumption) | assumption)); replace q7 := eq_true q7) | ((with_reducible refine gate_callee (f := 131) rfl ?_); refine goesL_ (some 14) rfl rfl Tryz.func131 (by kernel_rfl) rfl #[.int .u8 (bt a0 0)] rfl (by (try simp only [List.map_toArray, List.map_cons, List.map_nil]); first | done | rfl | (simp only [List.length_drop, List.length_take]; rfl)) ?_; (with_reducible refine (taskmasterref4_digit.calls (bt a0 0) true _ A8.out).mono ?_); rintro e w' ⟨rfl, ⟨nd, rfl⟩⟩; refine ⟨_, rfl, ?_⟩))
    go_loopg [4, 5] k (fun kq v4 v5 w' => ∃ (x4_1 : Int) (x5_1 : Int), v4 = .int .i64 x4_1 ∧ v5 = .int .i64 x5_1 ∧ Aside0 (taskmasterref4_one.l0 kq a0 x4_1 x5_1 = some (r1, r2, r3, r4, r5)) ∧ Aside0 (kq ≤ k) ∧ Aside0 (w'.heap[gb360]? = some (.cells #[.int .i64 0, .string (⟨#[]⟩ : ByteArray), .int .i64 0, .int .i64 0] 155 (0, 0))) ∧ Aside0 (Below w.heap.size w w'))
    case atStart => exact ⟨(0), (0), (by first | rfl | (simp; done) | (simp [*]; done)), (by first | rfl | (simp; done) | (simp [*]; done)), H', ⟨Nat.le_refl _⟩, ⟨by (with_reducible repeat (first | refine blk_drewN ?_ _ | refine blk_drew ?_ | refine blk_alloc ?_ _)); exact BK360.out⟩, ⟨by repeat (first | (with_reducible first | exact HB.out | apply below_alloc | apply pw_below_drewN | apply below_drew1 | refine below_set ?_ GE360.out) | exact HB.out)⟩⟩
    case round =>
     clear H'
     try clear c1
     try clear c2
     try clear c2b0
     try clear c2b1
     try clear p2
     try clear p3
     try clear q3
     try clear hx3
     try clear qi3
     try clear c4
     try clear c4b0
     try clear c4b1
     try clear p7
     try clear q7
     try clear hx7
     try clear qi7
     try clear c9
     try clear hcz6_0
     try clear hcz6_1
     try clear hcz6_2
     try clear hcz6_3
     try clear hfz6_0
     try clear hfz6_1
     try clear hfz6_2
     try clear hfz6_3
     try clear p3
     try clear p7
     try clear q3
     try clear q7
     obtain ⟨x4_1, x5_1, rfl, rfl, HA, HK1, BK360, HB⟩ := hrel
     cases gk with
     | zero => exact absurd HA.out (by simp [taskmasterref4_one.l0])
     | succ k1 =>
      have H := HA.out
      clear HA
      simp only [taskmasterref4_one.l0] at H
      have HC11 := Aside0.mk H
      clear H
      go_upto_region 6 with (fail)
      go_cut [24] (fun v24 wc => ∃ (kq : Nat) (x24_10 : Bool), v24 = .bool x24_10 ∧ Aside0 (taskmasterref4_one.j1 kq a0 x4_1 x5_1 x24_10 = some (r1, r2, r3, r4, r5)) ∧ Aside0 (kq ≤ k1) ∧ Aside0 (wc.heap[gb360]? = some (.cells #[.int .i64 0, .string (⟨#[]⟩ : ByteArray), .int .i64 0, .int .i64 0] 155 (0, 0))) ∧ Aside0 (Below w.heap.size w wc))
      case first =>
       have H := HC11.out
       clear HC11
       by_cases c12 : x4_1 < (a0.size : Int)
       ·rw [if_pos c12] at H
        have c12b0 : decide (x4_1 < (a0.size : Int)) = true := decide_eq_true c12
        clear c12
        (first | rw [c12b0] | (simp only [i64_w, i32_w]; rw [c12b0]) | skip)
        by_cases c13 : 0 ≤ x4_1
        ·rw [if_pos c13] at H
         have c13b0 : decide (0 ≤ x4_1) = true := decide_eq_true c13
         clear c13
         replace H := Option.bind_eq_some_iff.mp H
         obtain ⟨t362, A150, H⟩ := H
         replace H : (taskmasterref4_one.j1 k1 a0 x4_1 x5_1 t362) = some (r1, r2, r3, r4, r5) := H
         have A15 := Aside0.mk A150
         clear A150
         have H' := Aside0.mk H
         clear H
         have p14 : 0 ≤ (x4_1 : Int) := of_decide_eq_true (by first | (with_reducible assumption) | assumption)
         have q14 : x4_1 < (a0.size : Int) := of_decide_eq_true (by first | (with_reducible assumption) | assumption)
         have hx14 := bt_at a0 x4_1
         replace p14 := eq_true p14
         replace q14 := eq_true q14
         go_wp2_with (first | (go_at_call 131; (with_reducible refine (taskmasterref4_digit.calls (bt a0 x4_1) t362 _ A15.out).mono ?_); rintro e w' ⟨rfl, ⟨nd, rfl⟩⟩))
         go_meet
         case rel => exact ⟨_, (t362), (by first | rfl | (simp; done) | (simp [*]; done)), H', ⟨by have := HK1.out; first | omega | exact Nat.le_refl _⟩, ⟨by (with_reducible repeat (first | refine blk_drewN ?_ _ | refine blk_drew ?_ | refine blk_alloc ?_ _)); exact BK360.out⟩, ⟨by repeat (first | (with_reducible first | exact HB.out | apply below_alloc | apply pw_below_drewN | apply below_drew1 | refine below_set ?_ GE360.out) | exact HB.out)⟩⟩
        ·rw [if_neg c13] at H
         exact absurd H (by simp)
       ·rw [if_neg c12] at H
        have c12b0 : decide (x4_1 < (a0.size : Int)) = false := decide_eq_false c12
        clear c12
        (first | rw [c12b0] | (simp only [i64_w, i32_w]; rw [c12b0]) | skip)
        have H' := Aside0.mk H
        clear H
        go_wp2
        go_meet
        case rel => exact ⟨_, (false), (by first | rfl | (simp; done) | (simp [*]; done)), H', ⟨by have := HK1.out; first | omega | exact Nat.le_refl _⟩, ⟨by (with_reducible repeat (first | refine blk_drewN ?_ _ | refine blk_drew ?_ | refine blk_alloc ?_ _)); exact BK360.out⟩, ⟨by repeat (first | (with_reducible first | exact HB.out | apply below_alloc | apply pw_below_drewN | apply below_drew1 | refine below_set ?_ GE360.out) | exact HB.out)⟩⟩
      case rest =>
       clear HC11
       try clear c1
       try clear p1
       try clear q1
       try clear hx1
       try clear c2
       try clear c2b0
       try clear c2b1
       try clear p2
       try clear p3
       try clear q3
       try clear hx3
       try clear qi3
       try clear c4
       try clear c4b0
       try clear c4b1
       try clear p7
       try clear q7
       try clear hx7
       try clear qi7
       try clear c9
       try clear c12
       try clear c12b0
       try clear c13
       try clear c13b0
       try clear p14
       try clear q14
       try clear hx14
       try clear hcz6_0
       try clear hcz6_1
       try clear hcz6_2
       try clear hcz6_3
       try clear hfz6_0
       try clear hfz6_1
       try clear hfz6_2
       try clear hfz6_3
       try clear p14
       try clear p2
       try clear p3
       try clear p7
       try clear q14
       try clear q3
       try clear q7
       obtain ⟨kq, x24_10, rfl, HA, HJ10, BK360, HB⟩ := hcut
       cases kq with
       | zero => exact absurd HA.out (by simp [taskmasterref4_one.j1])
       | succ kj10 =>
        have H := HA.out
        clear HA
        simp only [taskmasterref4_one.j1] at H
        by_cases c16 : x24_10 = true
        ·subst c16
         have H1 : (if x4_1 < 9 then (if 0 ≤ x4_1 then (if x4_1 < (a0.size : Int) then (taskmasterref4_one.l0 kj10 a0 (wrap64 (x4_1 + 1)) (wrap64 ((wrap64 (10 * x5_1)) + (((bt a0 x4_1) - 48) % 256)))) else (none)) else (none)) else (taskmasterref4_one.l0 kj10 a0 (wrap64 (x4_1 + 1)) x5_1)) = some (r1, r2, r3, r4, r5) := by rw [if_pos rfl] at H; exact H
         clear H
         have H := H1
         clear H1
         by_cases c17 : x4_1 < 9
         ·rw [if_pos c17] at H
          have c17b0 : decide (x4_1 < 9) = true := decide_eq_true c17
          clear c17
          by_cases c18 : 0 ≤ x4_1
          ·rw [if_pos c18] at H
           have c18b0 : decide (0 ≤ x4_1) = true := decide_eq_true c18
           clear c18
           by_cases c19 : x4_1 < (a0.size : Int)
           ·rw [if_pos c19] at H
            have c19b0 : decide (x4_1 < (a0.size : Int)) = true := decide_eq_true c19
            clear c19
            have H' := Aside0.mk H
            clear H
            have p20 : 0 ≤ (x4_1 : Int) := of_decide_eq_true (by first | (with_reducible assumption) | assumption)
            have q20 : x4_1 < (a0.size : Int) := of_decide_eq_true (by first | (with_reducible assumption) | assumption)
            have hx20 := bt_at a0 x4_1
            replace p20 := eq_true p20
            replace q20 := eq_true q20
            go_wp2
            go_roundg kj10
            case measure => have := HK1.out; have := HJ10.out; omega
            case rel => exact ⟨(wrap64 (x4_1 + 1)), (wrap64 ((wrap64 (10 * x5_1)) + (((bt a0 x4_1) - 48) % 256))), (by first | rfl | (simp; done) | (simp [*]; done)), (by first | rfl | (simp; done) | (simp [*]; done)), H', ⟨by have := HK1.out; have := HJ10.out; omega⟩, ⟨by (with_reducible repeat (first | refine blk_drewN ?_ _ | refine blk_drew ?_ | refine blk_alloc ?_ _)); exact BK360.out⟩, ⟨by repeat (first | (with_reducible first | exact HB.out | apply below_alloc | apply pw_below_drewN | apply below_drew1 | refine below_set ?_ GE360.out) | exact HB.out)⟩⟩
           ·rw [if_neg c19] at H
            exact absurd H (by simp)
          ·rw [if_neg c18] at H
           exact absurd H (by simp)
         ·rw [if_neg c17] at H
          have c17b0 : decide (x4_1 < 9) = false := decide_eq_false c17
          clear c17
          have H' := Aside0.mk H
          clear H
          go_wp2
          go_roundg kj10
          case measure => have := HK1.out; have := HJ10.out; omega
          case rel => exact ⟨(wrap64 (x4_1 + 1)), (x5_1), (by first | rfl | (simp; done) | (simp [*]; done)), (by first | rfl | (simp; done) | (simp [*]; done)), H', ⟨by have := HK1.out; have := HJ10.out; omega⟩, ⟨by (with_reducible repeat (first | refine blk_drewN ?_ _ | refine blk_drew ?_ | refine blk_alloc ?_ _)); exact BK360.out⟩, ⟨by repeat (first | (with_reducible first | exact HB.out | apply below_alloc | apply pw_below_drewN | apply below_drew1 | refine below_set ?_ GE360.out) | exact HB.out)⟩⟩
        ·replace c16 := Bool.eq_false_iff.mpr c16
         subst c16
         have H1 : (if x4_1 > 9 then (some (0, (⟨#[]⟩ : ByteArray), 0, 0, 0)) else (if x4_1 > 1 then (if 0 < (a0.size : Int) then (if (bt a0 0) = 48 then (some (0, (⟨#[]⟩ : ByteArray), 0, 0, 0)) else (some (2, (⟨#[]⟩ : ByteArray), x5_1, 0, x4_1))) else (none)) else (some (2, (⟨#[]⟩ : ByteArray), x5_1, 0, x4_1)))) = some (r1, r2, r3, r4, r5) := by rw [if_neg (show ¬ (false = true) by decide)] at H; exact H
         clear H
         have H := H1
         clear H1
         by_cases c21 : x4_1 > 9
         ·rw [if_pos c21] at H
          have c21b0 : decide (9 < x4_1) = true := decide_eq_true c21
          clear c21
          simp only [Option.some.injEq, Prod.mk.injEq] at H
          obtain ⟨rfl, rfl, rfl, rfl, rfl⟩ := H
          have hcz22_0 : wc.cell? ⟨gb360, 0, none⟩ = some (.int .i64 0) := (blk_cell BK360.out 0).trans rfl
          have hcz22_1 : wc.cell? ⟨gb360, 1, none⟩ = some (.string (⟨#[]⟩ : ByteArray)) := (blk_cell BK360.out 1).trans rfl
          have hcz22_2 : wc.cell? ⟨gb360, 2, none⟩ = some (.int .i64 0) := (blk_cell BK360.out 2).trans rfl
          have hcz22_3 : wc.cell? ⟨gb360, 3, none⟩ = some (.int .i64 0) := (blk_cell BK360.out 3).trans rfl
          have hfz22_0 := blk_frozen BK360.out 0
          have hfz22_1 := blk_frozen BK360.out 1
          have hfz22_2 := blk_frozen BK360.out 2
          have hfz22_3 := blk_frozen BK360.out 3
          go_wp2
          refine bodyPost_ret (results_ct rfl _ _ gb360 155 #[.int .i64 0, .string (⟨#[]⟩ : ByteArray), .int .i64 0, .int .i64 0] (0, 0) _ rfl (by (with_reducible repeat (first | refine blk_drewN ?_ _ | refine blk_drew ?_ | refine blk_alloc ?_ _)); refine blk_put (cs := #[.int .i64 0, .string (⟨#[]⟩ : ByteArray), .int .i64 0, .int .i64 0]) ?_ 3 _ rfl; (with_reducible repeat (first | refine blk_drewN ?_ _ | refine blk_drew ?_ | refine blk_alloc ?_ _)); refine blk_put (cs := #[.int .i64 0, .string (⟨#[]⟩ : ByteArray), .int .i64 0, .int .i64 0]) ?_ 2 _ rfl; (with_reducible repeat (first | refine blk_drewN ?_ _ | refine blk_drew ?_ | refine blk_alloc ?_ _)); refine blk_put (cs := #[.int .i64 0, .string (⟨#[]⟩ : ByteArray), .int .i64 0, .int .i64 0]) ?_ 1 _ rfl; (with_reducible repeat (first | refine blk_drewN ?_ _ | refine blk_drew ?_ | refine blk_alloc ?_ _)); refine blk_put (cs := #[.int .i64 0, .string (⟨#[]⟩ : ByteArray), .int .i64 0, .int .i64 0]) ?_ 0 _ rfl; (with_reducible repeat (first | refine blk_drewN ?_ _ | refine blk_drew ?_ | refine blk_alloc ?_ _)); exact BK360.out) Tryz.underlying155 rfl (by kernel_rfl)) rfl ?_
          exact ⟨by first | rfl | (simp [errW_none, errW_some] <;> rfl) | (simp [*, errW_none, errW_some] <;> rfl), by repeat (first | (with_reducible first | exact HB.out | apply below_alloc | apply pw_below_drewN | apply below_drew1 | refine below_set ?_ GE360.out) | exact HB.out)⟩
         ·rw [if_neg c21] at H
          have c21b0 : decide (9 < x4_1) = false := decide_eq_false c21
          clear c21
          by_cases c23 : x4_1 > 1
          ·rw [if_pos c23] at H
           have c23b0 : decide (1 < x4_1) = true := decide_eq_true c23
           clear c23
           by_cases c24 : 0 < (a0.size : Int)
           ·rw [if_pos c24] at H
            have c24b0 : decide (0 < (a0.size : Int)) = true := decide_eq_true c24
            have c24b1 : decide (0 < a0.size) = true := decide_eq_true (by omega)
            clear c24
            by_cases c26 : (bt a0 0) = 48
            ·rw [if_pos c26] at H
             have c26b0 : ((bt a0 0) == 48) = true := beq_iff_eq.mpr c26
             have c26b1 : ((bt a0 0) != 48) = false := bne_eq_false_iff_eq.mpr c26
             clear c26
             simp only [Option.some.injEq, Prod.mk.injEq] at H
             obtain ⟨rfl, rfl, rfl, rfl, rfl⟩ := H
             have p25 : 0 ≤ (0 : Int) := (by omega)
             have q25 : 0 < a0.size := (by have : (0 : Int) < (a0.size : Int) := of_decide_eq_true (by first | (with_reducible assumption) | assumption); omega)
             have hx25 : ∀ h : 0 < a0.size, ((a0[0]'h).toNat : Int) = bt a0 0 := bt_at a0 0
             clear p25
             have qi25 : (0 < (a0.size : Int)) = True := eq_true (of_decide_eq_true (by first | (with_reducible assumption) | assumption))
             replace q25 := eq_true q25
             have hcz27_0 : wc.cell? ⟨gb360, 0, none⟩ = some (.int .i64 0) := (blk_cell BK360.out 0).trans rfl
             have hcz27_1 : wc.cell? ⟨gb360, 1, none⟩ = some (.string (⟨#[]⟩ : ByteArray)) := (blk_cell BK360.out 1).trans rfl
             have hcz27_2 : wc.cell? ⟨gb360, 2, none⟩ = some (.int .i64 0) := (blk_cell BK360.out 2).trans rfl
             have hcz27_3 : wc.cell? ⟨gb360, 3, none⟩ = some (.int .i64 0) := (blk_cell BK360.out 3).trans rfl
             have hfz27_0 := blk_frozen BK360.out 0
             have hfz27_1 := blk_frozen BK360.out 1
             have hfz27_2 := blk_frozen BK360.out 2
             have hfz27_3 := blk_frozen BK360.out 3
             go_wp2
             refine bodyPost_ret (results_ct rfl _ _ gb360 155 #[.int .i64 0, .string (⟨#[]⟩ : ByteArray), .int .i64 0, .int .i64 0] (0, 0) _ rfl (by (with_reducible repeat (first | refine blk_drewN ?_ _ | refine blk_drew ?_ | refine blk_alloc ?_ _)); refine blk_put (cs := #[.int .i64 0, .string (⟨#[]⟩ : ByteArray), .int .i64 0, .int .i64 0]) ?_ 3 _ rfl; (with_reducible repeat (first | refine blk_drewN ?_ _ | refine blk_drew ?_ | refine blk_alloc ?_ _)); refine blk_put (cs := #[.int .i64 0, .string (⟨#[]⟩ : ByteArray), .int .i64 0, .int .i64 0]) ?_ 2 _ rfl; (with_reducible repeat (first | refine blk_drewN ?_ _ | refine blk_drew ?_ | refine blk_alloc ?_ _)); refine blk_put (cs := #[.int .i64 0, .string (⟨#[]⟩ : ByteArray), .int .i64 0, .int .i64 0]) ?_ 1 _ rfl; (with_reducible repeat (first | refine blk_drewN ?_ _ | refine blk_drew ?_ | refine blk_alloc ?_ _)); refine blk_put (cs := #[.int .i64 0, .string (⟨#[]⟩ : ByteArray), .int .i64 0, .int .i64 0]) ?_ 0 _ rfl; (with_reducible repeat (first | refine blk_drewN ?_ _ | refine blk_drew ?_ | refine blk_alloc ?_ _)); exact BK360.out) Tryz.underlying155 rfl (by kernel_rfl)) rfl ?_
             exact ⟨by first | rfl | (simp [errW_none, errW_some] <;> rfl) | (simp [*, errW_none, errW_some] <;> rfl), by repeat (first | (with_reducible first | exact HB.out | apply below_alloc | apply pw_below_drewN | apply below_drew1 | refine below_set ?_ GE360.out) | exact HB.out)⟩
            ·rw [if_neg c26] at H
             have c26b0 : ((bt a0 0) == 48) = false := beq_eq_false_iff_ne.mpr c26
             have c26b1 : ((bt a0 0) != 48) = true := bne_iff_ne.mpr c26
             simp only [Option.some.injEq, Prod.mk.injEq] at H
             obtain ⟨rfl, rfl, rfl, rfl, rfl⟩ := H
             have p25 : 0 ≤ (0 : Int) := (by omega)
             have q25 : 0 < a0.size := (by have : (0 : Int) < (a0.size : Int) := of_decide_eq_true (by first | (with_reducible assumption) | assumption); omega)
             have hx25 : ∀ h : 0 < a0.size, ((a0[0]'h).toNat : Int) = bt a0 0 := bt_at a0 0
             clear p25
             have qi25 : (0 < (a0.size : Int)) = True := eq_true (of_decide_eq_true (by first | (with_reducible assumption) | assumption))
             replace q25 := eq_true q25
             have hcz28_0 : wc.cell? ⟨gb360, 0, none⟩ = some (.int .i64 0) := (blk_cell BK360.out 0).trans rfl
             have hcz28_1 : wc.cell? ⟨gb360, 1, none⟩ = some (.string (⟨#[]⟩ : ByteArray)) := (blk_cell BK360.out 1).trans rfl
             have hcz28_2 : wc.cell? ⟨gb360, 2, none⟩ = some (.int .i64 0) := (blk_cell BK360.out 2).trans rfl
             have hcz28_3 : wc.cell? ⟨gb360, 3, none⟩ = some (.int .i64 0) := (blk_cell BK360.out 3).trans rfl
             have hfz28_0 := blk_frozen BK360.out 0
             have hfz28_1 := blk_frozen BK360.out 1
             have hfz28_2 := blk_frozen BK360.out 2
             have hfz28_3 := blk_frozen BK360.out 3
             go_wp2
             refine bodyPost_ret (results_ct rfl _ _ gb360 155 #[.int .i64 2, .string (⟨#[]⟩ : ByteArray), .int .i64 x5_1, .int .i64 0] (0, 0) _ rfl (by (with_reducible repeat (first | refine blk_drewN ?_ _ | refine blk_drew ?_ | refine blk_alloc ?_ _)); refine blk_put (cs := #[.int .i64 2, .string (⟨#[]⟩ : ByteArray), .int .i64 x5_1, .int .i64 0]) ?_ 3 _ rfl; (with_reducible repeat (first | refine blk_drewN ?_ _ | refine blk_drew ?_ | refine blk_alloc ?_ _)); refine blk_put (cs := #[.int .i64 2, .string (⟨#[]⟩ : ByteArray), .int .i64 0, .int .i64 0]) ?_ 2 _ rfl; (with_reducible repeat (first | refine blk_drewN ?_ _ | refine blk_drew ?_ | refine blk_alloc ?_ _)); refine blk_put (cs := #[.int .i64 2, .string (⟨#[]⟩ : ByteArray), .int .i64 0, .int .i64 0]) ?_ 1 _ rfl; (with_reducible repeat (first | refine blk_drewN ?_ _ | refine blk_drew ?_ | refine blk_alloc ?_ _)); refine blk_put (cs := #[.int .i64 0, .string (⟨#[]⟩ : ByteArray), .int .i64 0, .int .i64 0]) ?_ 0 _ rfl; (with_reducible repeat (first | refine blk_drewN ?_ _ | refine blk_drew ?_ | refine blk_alloc ?_ _)); exact BK360.out) Tryz.underlying155 rfl (by kernel_rfl)) rfl ?_
             exact ⟨by first | rfl | (simp [errW_none, errW_some] <;> rfl) | (simp [*, errW_none, errW_some] <;> rfl), by repeat (first | (with_reducible first | exact HB.out | apply below_alloc | apply pw_below_drewN | apply below_drew1 | refine below_set ?_ GE360.out) | exact HB.out)⟩
           ·rw [if_neg c24] at H
            exact absurd H (by simp)
          ·rw [if_neg c23] at H
           have c23b0 : decide (1 < x4_1) = false := decide_eq_false c23
           clear c23
           simp only [Option.some.injEq, Prod.mk.injEq] at H
           obtain ⟨rfl, rfl, rfl, rfl, rfl⟩ := H
           have hcz29_0 : wc.cell? ⟨gb360, 0, none⟩ = some (.int .i64 0) := (blk_cell BK360.out 0).trans rfl
           have hcz29_1 : wc.cell? ⟨gb360, 1, none⟩ = some (.string (⟨#[]⟩ : ByteArray)) := (blk_cell BK360.out 1).trans rfl
           have hcz29_2 : wc.cell? ⟨gb360, 2, none⟩ = some (.int .i64 0) := (blk_cell BK360.out 2).trans rfl
           have hcz29_3 : wc.cell? ⟨gb360, 3, none⟩ = some (.int .i64 0) := (blk_cell BK360.out 3).trans rfl
           have hfz29_0 := blk_frozen BK360.out 0
           have hfz29_1 := blk_frozen BK360.out 1
           have hfz29_2 := blk_frozen BK360.out 2
           have hfz29_3 := blk_frozen BK360.out 3
           go_wp2
           refine bodyPost_ret (results_ct rfl _ _ gb360 155 #[.int .i64 2, .string (⟨#[]⟩ : ByteArray), .int .i64 x5_1, .int .i64 0] (0, 0) _ rfl (by (with_reducible repeat (first | refine blk_drewN ?_ _ | refine blk_drew ?_ | refine blk_alloc ?_ _)); refine blk_put (cs := #[.int .i64 2, .string (⟨#[]⟩ : ByteArray), .int .i64 x5_1, .int .i64 0]) ?_ 3 _ rfl; (with_reducible repeat (first | refine blk_drewN ?_ _ | refine blk_drew ?_ | refine blk_alloc ?_ _)); refine blk_put (cs := #[.int .i64 2, .string (⟨#[]⟩ : ByteArray), .int .i64 0, .int .i64 0]) ?_ 2 _ rfl; (with_reducible repeat (first | refine blk_drewN ?_ _ | refine blk_drew ?_ | refine blk_alloc ?_ _)); refine blk_put (cs := #[.int .i64 2, .string (⟨#[]⟩ : ByteArray), .int .i64 0, .int .i64 0]) ?_ 1 _ rfl; (with_reducible repeat (first | refine blk_drewN ?_ _ | refine blk_drew ?_ | refine blk_alloc ?_ _)); refine blk_put (cs := #[.int .i64 0, .string (⟨#[]⟩ : ByteArray), .int .i64 0, .int .i64 0]) ?_ 0 _ rfl; (with_reducible repeat (first | refine blk_drewN ?_ _ | refine blk_drew ?_ | refine blk_alloc ?_ _)); exact BK360.out) Tryz.underlying155 rfl (by kernel_rfl)) rfl ?_
           exact ⟨by first | rfl | (simp [errW_none, errW_some] <;> rfl) | (simp [*, errW_none, errW_some] <;> rfl), by repeat (first | (with_reducible first | exact HB.out | apply below_alloc | apply pw_below_drewN | apply below_drew1 | refine below_set ?_ GE360.out) | exact HB.out)⟩
   ·replace c9 := Bool.eq_false_iff.mpr c9
    subst c9
    have H1 : ((taskmasterref4_small.f (bt a0 0)).bind fun t363 => (if t363 = true then (taskmasterref4_one.l1 k a0 0) else (some (0, (⟨#[]⟩ : ByteArray), 0, 0, 0)))) = some (r1, r2, r3, r4, r5) := by rw [if_neg (show ¬ (false = true) by decide)] at H; exact H
    clear H
    have H := H1
    clear H1
    replace H := Option.bind_eq_some_iff.mp H
    obtain ⟨t363, A310, H⟩ := H
    replace H : (if t363 = true then (taskmasterref4_one.l1 k a0 0) else (some (0, (⟨#[]⟩ : ByteArray), 0, 0, 0))) = some (r1, r2, r3, r4, r5) := H
    have A31 := Aside0.mk A310
    clear A310
    by_cases c32 : t363 = true
    ·subst c32
     have H1 : (taskmasterref4_one.l1 k a0 0) = some (r1, r2, r3, r4, r5) := by rw [if_pos rfl] at H; exact H
     clear H
     have H := H1
     clear H1
     have HC33 := Aside0.mk H
     clear H
     go_enter Tryz.func99, Tryz.ntmps99
     go_upto_block 3 with (first | ((with_reducible refine gate_dst (N := 2) rfl ?_); refine box_event ?hg (N := 2) ?hd (cs := #[.int .i64 0, .string (⟨#[]⟩ : ByteArray), .int .i64 0, .int .i64 0]) (t := 155) ?hr ?_; (case hd => rfl); (case hg => rfl); (case hr => first | (go_simp; done) | (go_simp; rfl)); intro gb360 hg w34 hbox hb; have n0_ := Aside0.mk (below_step (by repeat (first | (with_reducible first | exact HB.out | apply below_alloc | apply pw_below_drewN | apply below_drew1) | exact HB.out)) hb); have n1_ := Aside0.mk (hbox); have n2_ := Aside0.mk ((by rw [hg]; exact (below_size (by repeat (first | (with_reducible first | exact HB.out | apply below_alloc | apply pw_below_drewN | apply below_drew1) | exact HB.out))) : w.heap.size ≤ gb360)); have n3_ := Aside0.mk ((by rw [hg]; exact (below_size (by repeat (first | (with_reducible first | exact HB.out | apply below_alloc | apply pw_below_drewN | apply below_drew1) | exact HB.out))) : w.heap.size ≤ gb360)); clear HB; have HB := n0_; have BK360 := n1_; have GW360 := n2_; have GE360 := n3_; clear n0_ n1_ n2_ n3_; clear hb hbox hg; have p3 : 0 ≤ (0 : Int) := (by omega); have q3 : 0 < a0.size := (by have : (0 : Int) < (a0.size : Int) := of_decide_eq_true (by first | (with_reducible assumption) | assumption); omega); have hx3 : ∀ h : 0 < a0.size, ((a0[0]'h).toNat : Int) = bt a0 0 := bt_at a0 0; clear p3; have qi3 : (0 < (a0.size : Int)) = True := eq_true (of_decide_eq_true (by first | (with_reducible assumption) | assumption)); replace q3 := eq_true q3; have p7 : 0 ≤ (0 : Int) := (by omega); have q7 : 0 < a0.size := (by have : (0 : Int) < (a0.size : Int) := of_decide_eq_true (by first | (with_reducible assumption) | assumption); omega); have hx7 : ∀ h : 0 < a0.size, ((a0[0]'h).toNat : Int) = bt a0 0 := bt_at a0 0; clear p7; have qi7 : (0 < (a0.size : Int)) = True := eq_true (of_decide_eq_true (by first | (with_reducible assumption) | assumption)); replace q7 := eq_true q7) | ((with_reducible refine gate_callee (f := 131) rfl ?_); refine goesL_ (some 14) rfl rfl Tryz.func131 (by kernel_rfl) rfl #[.int .u8 (bt a0 0)] rfl (by (try simp only [List.map_toArray, List.map_cons, List.map_nil]); first | done | rfl | (simp only [List.length_drop, List.length_take]; rfl)) ?_; (with_reducible refine (taskmasterref4_digit.calls (bt a0 0) false _ A8.out).mono ?_); rintro e w' ⟨rfl, ⟨nd, rfl⟩⟩; refine ⟨_, rfl, ?_⟩; have p30 : 0 ≤ (0 : Int) := (by omega); have q30 : 0 < a0.size := (by have : (0 : Int) < (a0.size : Int) := of_decide_eq_true (by first | (with_reducible assumption) | assumption); omega); have hx30 : ∀ h : 0 < a0.size, ((a0[0]'h).toNat : Int) = bt a0 0 := bt_at a0 0; clear p30; have qi30 : (0 < (a0.size : Int)) = True := eq_true (of_decide_eq_true (by first | (with_reducible assumption) | assumption)); replace q30 := eq_true q30) | ((with_reducible refine gate_callee (f := 98) rfl ?_); refine goesL_ (some 55) rfl rfl Tryz.func98 (by kernel_rfl) rfl #[.int .u8 (bt a0 0)] rfl (by (try simp only [List.map_toArray, List.map_cons, List.map_nil]); first | done | rfl | (simp only [List.length_drop, List.length_take]; rfl)) ?_; (with_reducible refine (taskmasterref4_small.calls (bt a0 0) true _ A31.out).mono ?_); rintro e w' ⟨rfl, ⟨nd, rfl⟩⟩; refine ⟨_, rfl, ?_⟩))
     (try simp only [Act.put, List.setIfInBounds_toArray, List.set_cons_zero, List.set_cons_succ])
     go_cut [4] (fun v4 wc => ∃ (kq : Nat) (x4_32 : Int), v4 = .int .i64 x4_32 ∧ Aside0 (taskmasterref4_one.j3 kq a0 x4_32 = some (r1, r2, r3, r4, r5)) ∧ Aside0 (kq ≤ k) ∧ Aside0 (wc.heap[gb360]? = some (.cells #[.int .i64 0, .string (⟨#[]⟩ : ByteArray), .int .i64 0, .int .i64 0] 155 (0, 0))) ∧ Aside0 (Below w.heap.size w wc))
     case first =>
      have H := HC33.out
      clear HC33
      have H' := Aside0.mk H
      clear H
      go_wp2
      go_loopg [4] k (fun kq v4 w' => ∃ (x4_1 : Int), v4 = .int .i64 x4_1 ∧ Aside0 (taskmasterref4_one.l1 kq a0 x4_1 = some (r1, r2, r3, r4, r5)) ∧ Aside0 (kq ≤ k) ∧ Aside0 (w'.heap[gb360]? = some (.cells #[.int .i64 0, .string (⟨#[]⟩ : ByteArray), .int .i64 0, .int .i64 0] 155 (0, 0))) ∧ Aside0 (Below w.heap.size w w'))
      case atStart => exact ⟨(0), (by first | rfl | (simp; done) | (simp [*]; done)), H', ⟨Nat.le_refl _⟩, ⟨by (with_reducible repeat (first | refine blk_drewN ?_ _ | refine blk_drew ?_ | refine blk_alloc ?_ _)); exact BK360.out⟩, ⟨by repeat (first | (with_reducible first | exact HB.out | apply below_alloc | apply pw_below_drewN | apply below_drew1 | refine below_set ?_ GE360.out) | exact HB.out)⟩⟩
      case round =>
       clear H'
       try clear c1
       try clear p1
       try clear q1
       try clear hx1
       try clear c2
       try clear c2b0
       try clear c2b1
       try clear p2
       try clear q2
       try clear hx2
       try clear qi2
       try clear c3
       try clear p3
       try clear q3
       try clear hx3
       try clear qi3
       try clear c4
       try clear c4b0
       try clear c4b1
       try clear p6
       try clear p7
       try clear q7
       try clear hx7
       try clear qi7
       try clear c9
       try clear c12
       try clear c12b0
       try clear c13
       try clear c13b0
       try clear p14
       try clear q14
       try clear hx14
       try clear c16
       try clear c17
       try clear c17b0
       try clear c18
       try clear c18b0
       try clear c19
       try clear c19b0
       try clear p20
       try clear q20
       try clear hx20
       try clear c21
       try clear c21b0
       try clear c23
       try clear c23b0
       try clear c24
       try clear c24b0
       try clear c24b1
       try clear p25
       try clear q25
       try clear hx25
       try clear qi25
       try clear c26
       try clear c26b0
       try clear c26b1
       try clear p30
       try clear q30
       try clear hx30
       try clear qi30
       try clear c32
       try clear hcz22_0
       try clear hcz22_1
       try clear hcz22_2
       try clear hcz22_3
       try clear hcz27_0
       try clear hcz27_1
       try clear hcz27_2
       try clear hcz27_3
       try clear hcz28_0
       try clear hcz28_1
       try clear hcz28_2
       try clear hcz28_3
       try clear hcz29_0
       try clear hcz29_1
       try clear hcz29_2
       try clear hcz29_3
       try clear hcz6_0
       try clear hcz6_1
       try clear hcz6_2
       try clear hcz6_3
       try clear hfz22_0
       try clear hfz22_1
       try clear hfz22_2
       try clear hfz22_3
       try clear hfz27_0
       try clear hfz27_1
       try clear hfz27_2
       try clear hfz27_3
       try clear hfz28_0
       try clear hfz28_1
       try clear hfz28_2
       try clear hfz28_3
       try clear hfz29_0
       try clear hfz29_1
       try clear hfz29_2
       try clear hfz29_3
       try clear hfz6_0
       try clear hfz6_1
       try clear hfz6_2
       try clear hfz6_3
       try clear p1
       try clear p14
       try clear p2
       try clear p20
       try clear p25
       try clear p3
       try clear p30
       try clear p7
       try clear q1
       try clear q14
       try clear q20
       try clear q25
       try clear q3
       try clear q30
       try clear q7
       obtain ⟨x4_1, rfl, HA, HK1, BK360, HB⟩ := hrel
       cases gk with
       | zero => exact absurd HA.out (by simp [taskmasterref4_one.l1])
       | succ k1 =>
        have H := HA.out
        clear HA
        simp only [taskmasterref4_one.l1] at H
        by_cases c35 : x4_1 < (a0.size : Int)
        ·rw [if_pos c35] at H
         have c35b0 : decide (x4_1 < (a0.size : Int)) = true := decide_eq_true c35
         clear c35
         (first | rw [c35b0] | (simp only [i64_w, i32_w]; rw [c35b0]) | skip)
         by_cases c36 : 0 ≤ x4_1
         ·rw [if_pos c36] at H
          have c36b0 : decide (0 ≤ x4_1) = true := decide_eq_true c36
          clear c36
          replace H := Option.bind_eq_some_iff.mp H
          obtain ⟨t364, A380, H⟩ := H
          replace H : (if t364 = true then (taskmasterref4_one.l1 k1 a0 (wrap64 (x4_1 + 1))) else ((taskmasterref4_digit.f (bt a0 x4_1)).bind fun t365 => (if t365 = true then (taskmasterref4_one.l1 k1 a0 (wrap64 (x4_1 + 1))) else (if (bt a0 x4_1) = 95 then (taskmasterref4_one.l1 k1 a0 (wrap64 (x4_1 + 1))) else (taskmasterref4_one.j3 k1 a0 x4_1))))) = some (r1, r2, r3, r4, r5) := H
          have A38 := Aside0.mk A380
          clear A380
          by_cases c39 : t364 = true
          ·subst c39
           have H1 : (taskmasterref4_one.l1 k1 a0 (wrap64 (x4_1 + 1))) = some (r1, r2, r3, r4, r5) := by rw [if_pos rfl] at H; exact H
           clear H
           have H := H1
           clear H1
           have H' := Aside0.mk H
           clear H
           have p37 : 0 ≤ (x4_1 : Int) := of_decide_eq_true (by first | (with_reducible assumption) | assumption)
           have q37 : x4_1 < (a0.size : Int) := of_decide_eq_true (by first | (with_reducible assumption) | assumption)
           have hx37 := bt_at a0 x4_1
           replace p37 := eq_true p37
           replace q37 := eq_true q37
           go_wp2_with (first | (go_at_call 98; (with_reducible refine (taskmasterref4_small.calls (bt a0 x4_1) true _ A38.out).mono ?_); rintro e w' ⟨rfl, ⟨nd, rfl⟩⟩))
           go_roundg k1
           case measure => have := HK1.out; omega
           case rel => exact ⟨(wrap64 (x4_1 + 1)), (by first | rfl | (simp; done) | (simp [*]; done)), H', ⟨by have := HK1.out; omega⟩, ⟨by (with_reducible repeat (first | refine blk_drewN ?_ _ | refine blk_drew ?_ | refine blk_alloc ?_ _)); exact BK360.out⟩, ⟨by repeat (first | (with_reducible first | exact HB.out | apply below_alloc | apply pw_below_drewN | apply below_drew1 | refine below_set ?_ GE360.out) | exact HB.out)⟩⟩
          ·replace c39 := Bool.eq_false_iff.mpr c39
           subst c39
           have H1 : ((taskmasterref4_digit.f (bt a0 x4_1)).bind fun t365 => (if t365 = true then (taskmasterref4_one.l1 k1 a0 (wrap64 (x4_1 + 1))) else (if (bt a0 x4_1) = 95 then (taskmasterref4_one.l1 k1 a0 (wrap64 (x4_1 + 1))) else (taskmasterref4_one.j3 k1 a0 x4_1)))) = some (r1, r2, r3, r4, r5) := by rw [if_neg (show ¬ (false = true) by decide)] at H; exact H
           clear H
           have H := H1
           clear H1
           replace H := Option.bind_eq_some_iff.mp H
           obtain ⟨t365, A410, H⟩ := H
           replace H : (if t365 = true then (taskmasterref4_one.l1 k1 a0 (wrap64 (x4_1 + 1))) else (if (bt a0 x4_1) = 95 then (taskmasterref4_one.l1 k1 a0 (wrap64 (x4_1 + 1))) else (taskmasterref4_one.j3 k1 a0 x4_1))) = some (r1, r2, r3, r4, r5) := H
           have A41 := Aside0.mk A410
           clear A410
           by_cases c42 : t365 = true
           ·subst c42
            have H1 : (taskmasterref4_one.l1 k1 a0 (wrap64 (x4_1 + 1))) = some (r1, r2, r3, r4, r5) := by rw [if_pos rfl] at H; exact H
            clear H
            have H := H1
            clear H1
            have H' := Aside0.mk H
            clear H
            have p37 : 0 ≤ (x4_1 : Int) := of_decide_eq_true (by first | (with_reducible assumption) | assumption)
            have q37 : x4_1 < (a0.size : Int) := of_decide_eq_true (by first | (with_reducible assumption) | assumption)
            have hx37 := bt_at a0 x4_1
            replace p37 := eq_true p37
            replace q37 := eq_true q37
            go_wp2_with (first | (go_at_call 98; (with_reducible refine (taskmasterref4_small.calls (bt a0 x4_1) false _ A38.out).mono ?_); rintro e w' ⟨rfl, ⟨nd, rfl⟩⟩; have p40 : 0 ≤ (x4_1 : Int) := of_decide_eq_true (by first | (with_reducible assumption) | assumption); have q40 : x4_1 < (a0.size : Int) := of_decide_eq_true (by first | (with_reducible assumption) | assumption); have hx40 := bt_at a0 x4_1; replace p40 := eq_true p40; replace q40 := eq_true q40) | (go_at_call 131; (with_reducible refine (taskmasterref4_digit.calls (bt a0 x4_1) true _ A41.out).mono ?_); rintro e w' ⟨rfl, ⟨nd, rfl⟩⟩))
            go_roundg k1
            case measure => have := HK1.out; omega
            case rel => exact ⟨(wrap64 (x4_1 + 1)), (by first | rfl | (simp; done) | (simp [*]; done)), H', ⟨by have := HK1.out; omega⟩, ⟨by (with_reducible repeat (first | refine blk_drewN ?_ _ | refine blk_drew ?_ | refine blk_alloc ?_ _)); exact BK360.out⟩, ⟨by repeat (first | (with_reducible first | exact HB.out | apply below_alloc | apply pw_below_drewN | apply below_drew1 | refine below_set ?_ GE360.out) | exact HB.out)⟩⟩
           ·replace c42 := Bool.eq_false_iff.mpr c42
            subst c42
            have H1 : (if (bt a0 x4_1) = 95 then (taskmasterref4_one.l1 k1 a0 (wrap64 (x4_1 + 1))) else (taskmasterref4_one.j3 k1 a0 x4_1)) = some (r1, r2, r3, r4, r5) := by rw [if_neg (show ¬ (false = true) by decide)] at H; exact H
            clear H
            have H := H1
            clear H1
            by_cases c44 : (bt a0 x4_1) = 95
            ·rw [if_pos c44] at H
             have c44b0 : ((bt a0 x4_1) == 95) = true := beq_iff_eq.mpr c44
             have c44b1 : ((bt a0 x4_1) != 95) = false := bne_eq_false_iff_eq.mpr c44
             clear c44
             have H' := Aside0.mk H
             clear H
             have p37 : 0 ≤ (x4_1 : Int) := of_decide_eq_true (by first | (with_reducible assumption) | assumption)
             have q37 : x4_1 < (a0.size : Int) := of_decide_eq_true (by first | (with_reducible assumption) | assumption)
             have hx37 := bt_at a0 x4_1
             replace p37 := eq_true p37
             replace q37 := eq_true q37
             go_wp2_with (first | (go_at_call 98; (with_reducible refine (taskmasterref4_small.calls (bt a0 x4_1) false _ A38.out).mono ?_); rintro e w' ⟨rfl, ⟨nd, rfl⟩⟩; have p40 : 0 ≤ (x4_1 : Int) := of_decide_eq_true (by first | (with_reducible assumption) | assumption); have q40 : x4_1 < (a0.size : Int) := of_decide_eq_true (by first | (with_reducible assumption) | assumption); have hx40 := bt_at a0 x4_1; replace p40 := eq_true p40; replace q40 := eq_true q40) | (go_at_call 131; (with_reducible refine (taskmasterref4_digit.calls (bt a0 x4_1) false _ A41.out).mono ?_); rintro e w' ⟨rfl, ⟨nd, rfl⟩⟩; have p43 : 0 ≤ (x4_1 : Int) := of_decide_eq_true (by first | (with_reducible assumption) | assumption); have q43 : x4_1 < (a0.size : Int) := of_decide_eq_true (by first | (with_reducible assumption) | assumption); have hx43 := bt_at a0 x4_1; replace p43 := eq_true p43; replace q43 := eq_true q43))
             go_roundg k1
             case measure => have := HK1.out; omega
             case rel => exact ⟨(wrap64 (x4_1 + 1)), (by first | rfl | (simp; done) | (simp [*]; done)), H', ⟨by have := HK1.out; omega⟩, ⟨by (with_reducible repeat (first | refine blk_drewN ?_ _ | refine blk_drew ?_ | refine blk_alloc ?_ _)); exact BK360.out⟩, ⟨by repeat (first | (with_reducible first | exact HB.out | apply below_alloc | apply pw_below_drewN | apply below_drew1 | refine below_set ?_ GE360.out) | exact HB.out)⟩⟩
            ·rw [if_neg c44] at H
             have c44b0 : ((bt a0 x4_1) == 95) = false := beq_eq_false_iff_ne.mpr c44
             have c44b1 : ((bt a0 x4_1) != 95) = true := bne_iff_ne.mpr c44
             have H' := Aside0.mk H
             clear H
             have p37 : 0 ≤ (x4_1 : Int) := of_decide_eq_true (by first | (with_reducible assumption) | assumption)
             have q37 : x4_1 < (a0.size : Int) := of_decide_eq_true (by first | (with_reducible assumption) | assumption)
             have hx37 := bt_at a0 x4_1
             replace p37 := eq_true p37
             replace q37 := eq_true q37
             go_wp2_with (first | (go_at_call 98; (with_reducible refine (taskmasterref4_small.calls (bt a0 x4_1) false _ A38.out).mono ?_); rintro e w' ⟨rfl, ⟨nd, rfl⟩⟩; have p40 : 0 ≤ (x4_1 : Int) := of_decide_eq_true (by first | (with_reducible assumption) | assumption); have q40 : x4_1 < (a0.size : Int) := of_decide_eq_true (by first | (with_reducible assumption) | assumption); have hx40 := bt_at a0 x4_1; replace p40 := eq_true p40; replace q40 := eq_true q40) | (go_at_call 131; (with_reducible refine (taskmasterref4_digit.calls (bt a0 x4_1) false _ A41.out).mono ?_); rintro e w' ⟨rfl, ⟨nd, rfl⟩⟩; have p43 : 0 ≤ (x4_1 : Int) := of_decide_eq_true (by first | (with_reducible assumption) | assumption); have q43 : x4_1 < (a0.size : Int) := of_decide_eq_true (by first | (with_reducible assumption) | assumption); have hx43 := bt_at a0 x4_1; replace p43 := eq_true p43; replace q43 := eq_true q43))
             go_meet
             case rel => exact ⟨_, (x4_1), (by first | rfl | (simp; done) | (simp [*]; done)), H', ⟨by have := HK1.out; first | omega | exact Nat.le_refl _⟩, ⟨by (with_reducible repeat (first | refine blk_drewN ?_ _ | refine blk_drew ?_ | refine blk_alloc ?_ _)); exact BK360.out⟩, ⟨by repeat (first | (with_reducible first | exact HB.out | apply below_alloc | apply pw_below_drewN | apply below_drew1 | refine below_set ?_ GE360.out) | exact HB.out)⟩⟩
         ·rw [if_neg c36] at H
          exact absurd H (by simp)
        ·rw [if_neg c35] at H
         have c35b0 : decide (x4_1 < (a0.size : Int)) = false := decide_eq_false c35
         clear c35
         (first | rw [c35b0] | (simp only [i64_w, i32_w]; rw [c35b0]) | skip)
         have H' := Aside0.mk H
         clear H
         go_wp2
         go_meet
         case rel => exact ⟨_, (x4_1), (by first | rfl | (simp; done) | (simp [*]; done)), H', ⟨by have := HK1.out; first | omega | exact Nat.le_refl _⟩, ⟨by (with_reducible repeat (first | refine blk_drewN ?_ _ | refine blk_drew ?_ | refine blk_alloc ?_ _)); exact BK360.out⟩, ⟨by repeat (first | (with_reducible first | exact HB.out | apply below_alloc | apply pw_below_drewN | apply below_drew1 | refine below_set ?_ GE360.out) | exact HB.out)⟩⟩
     case rest =>
      clear HC33
      try clear c1
      try clear p1
      try clear q1
      try clear hx1
      try clear c2
      try clear c2b0
      try clear c2b1
      try clear p2
      try clear q2
      try clear hx2
      try clear qi2
      try clear c3
      try clear p3
      try clear q3
      try clear hx3
      try clear qi3
      try clear c4
      try clear c4b0
      try clear c4b1
      try clear p4
      try clear q4
      try clear hx4
      try clear p6
      try clear p7
      try clear q7
      try clear hx7
      try clear qi7
      try clear c9
      try clear c12
      try clear c12b0
      try clear c13
      try clear c13b0
      try clear p14
      try clear q14
      try clear hx14
      try clear c16
      try clear c17
      try clear c17b0
      try clear c18
      try clear c18b0
      try clear c19
      try clear c19b0
      try clear p20
      try clear q20
      try clear hx20
      try clear c21
      try clear c21b0
      try clear c23
      try clear c23b0
      try clear c24
      try clear c24b0
      try clear c24b1
      try clear p25
      try clear q25
      try clear hx25
      try clear qi25
      try clear c26
      try clear c26b0
      try clear c26b1
      try clear p30
      try clear q30
      try clear hx30
      try clear qi30
      try clear c32
      try clear c35
      try clear c35b0
      try clear c36
      try clear c36b0
      try clear p37
      try clear q37
      try clear hx37
      try clear c39
      try clear p40
      try clear q40
      try clear hx40
      try clear c42
      try clear p43
      try clear q43
      try clear hx43
      try clear c44
      try clear c44b0
      try clear c44b1
      try clear hcz22_0
      try clear hcz22_1
      try clear hcz22_2
      try clear hcz22_3
      try clear hcz27_0
      try clear hcz27_1
      try clear hcz27_2
      try clear hcz27_3
      try clear hcz28_0
      try clear hcz28_1
      try clear hcz28_2
      try clear hcz28_3
      try clear hcz29_0
      try clear hcz29_1
      try clear hcz29_2
      try clear hcz29_3
      try clear hcz6_0
      try clear hcz6_1
      try clear hcz6_2
      try clear hcz6_3
      try clear hfz22_0
      try clear hfz22_1
      try clear hfz22_2
      try clear hfz22_3
      try clear hfz27_0
      try clear hfz27_1
      try clear hfz27_2
      try clear hfz27_3
      try clear hfz28_0
      try clear hfz28_1
      try clear hfz28_2
      try clear hfz28_3
      try clear hfz29_0
      try clear hfz29_1
      try clear hfz29_2
      try clear hfz29_3
      try clear hfz6_0
      try clear hfz6_1
      try clear hfz6_2
      try clear hfz6_3
      try clear p1
      try clear p14
      try clear p2
      try clear p20
      try clear p25
      try clear p3
      try clear p30
      try clear p37
      try clear p40
      try clear p43
      try clear p6
      try clear p7
      try clear q1
      try clear q14
      try clear q2
      try clear q20
      try clear q25
      try clear q3
      try clear q30
      try clear q37
      try clear q40
      try clear q43
      try clear q7
      obtain ⟨kq, x4_32, rfl, HA, HJ32, BK360, HB⟩ := hcut
      cases kq with
      | zero => exact absurd HA.out (by simp [taskmasterref4_one.j3])
      | succ kj32 =>
       have H := HA.out
       clear HA
       simp only [taskmasterref4_one.j3] at H
       by_cases c45 : 0 ≤ x4_32
       ·rw [if_pos c45] at H
        have c45b0 := eq_true c45
        have c45b1 : decide (0 ≤ x4_32) = true := decide_eq_true c45
        clear c45
        by_cases c46 : x4_32 ≤ (a0.size : Int)
        ·rw [if_pos c46] at H
         have c46b0 := eq_true c46
         have c46b1 : decide (x4_32 ≤ (a0.size : Int)) = true := decide_eq_true c46
         clear c46
         replace H := Option.bind_eq_some_iff.mp H
         obtain ⟨t366, A470, H⟩ := H
         replace H : (if t366 = true then (some (3, a0.extract 0 (x4_32 : Int).toNat, 0, 0, x4_32)) else (if x4_32 > 12 then (some (0, (⟨#[]⟩ : ByteArray), 0, 0, 0)) else (some (1, a0.extract 0 (x4_32 : Int).toNat, 0, 0, x4_32)))) = some (r1, r2, r3, r4, r5) := H
         have A47 := Aside0.mk A470
         clear A470
         by_cases c48 : t366 = true
         ·subst c48
          have H1 : (some (3, a0.extract 0 (x4_32 : Int).toNat, 0, 0, x4_32)) = some (r1, r2, r3, r4, r5) := by rw [if_pos rfl] at H; exact H
          clear H
          have H := H1
          clear H1
          have c49b0 := eq_true (of_decide_eq_true (by first | (with_reducible assumption) | assumption) : 0 ≤ x4_32)
          have c50b0 := eq_true (of_decide_eq_true (by first | (with_reducible assumption) | assumption) : x4_32 ≤ (a0.size : Int))
          simp only [Option.some.injEq, Prod.mk.injEq] at H
          obtain ⟨rfl, rfl, rfl, rfl, rfl⟩ := H
          go_wp2_with (first | ((with_reducible refine gate_callee (f := 132) rfl ?_); refine goesL_ (some 85) rfl rfl Tryz.func132 (by kernel_rfl) rfl #[.string (a0.extract 0 (x4_32 : Int).toNat)] rfl (by (try simp only [List.map_toArray, List.map_cons, List.map_nil]); first | done | rfl | (simp only [List.length_drop, List.length_take]; rfl)) ?_; (with_reducible refine (taskmasterref4_word.calls kj32 (a0.extract 0 (x4_32 : Int).toNat) true _ A47.out).mono ?_); rintro e w51 ⟨rfl, hb⟩; refine ⟨_, rfl, ?_⟩; have n0_ := Aside0.mk (blk_below (g := gb360) (o := .cells #[.int .i64 0, .string (⟨#[]⟩ : ByteArray), .int .i64 0, .int .i64 0] 155 (0, 0)) (by (with_reducible repeat (first | refine blk_drewN ?_ _ | refine blk_drew ?_ | refine blk_alloc ?_ _)); exact BK360.out) hb); have n1_ := Aside0.mk (below_step (by repeat (first | (with_reducible first | exact HB.out | apply below_alloc | apply pw_below_drewN | apply below_drew1 | refine below_set ?_ GE360.out) | exact HB.out)) hb); clear BK360; clear HB; have BK360 := n0_; have HB := n1_; clear n0_ n1_; (try clear hb); (try clear hb2); (try clear hk); (try clear hi); have hcz52_0 : w51.cell? ⟨gb360, 0, none⟩ = some (.int .i64 0) := (blk_cell BK360.out 0).trans rfl; have hcz52_1 : w51.cell? ⟨gb360, 1, none⟩ = some (.string (⟨#[]⟩ : ByteArray)) := (blk_cell BK360.out 1).trans rfl; have hcz52_2 : w51.cell? ⟨gb360, 2, none⟩ = some (.int .i64 0) := (blk_cell BK360.out 2).trans rfl; have hcz52_3 : w51.cell? ⟨gb360, 3, none⟩ = some (.int .i64 0) := (blk_cell BK360.out 3).trans rfl; have hfz52_0 := blk_frozen BK360.out 0; have hfz52_1 := blk_frozen BK360.out 1; have hfz52_2 := blk_frozen BK360.out 2; have hfz52_3 := blk_frozen BK360.out 3))
          refine bodyPost_ret (results_ct rfl _ _ gb360 155 #[.int .i64 3, .string (a0.extract 0 (x4_32 : Int).toNat), .int .i64 0, .int .i64 0] (0, 0) _ rfl (by (with_reducible repeat (first | refine blk_drewN ?_ _ | refine blk_drew ?_ | refine blk_alloc ?_ _)); refine blk_put (cs := #[.int .i64 3, .string (a0.extract 0 (x4_32 : Int).toNat), .int .i64 0, .int .i64 0]) ?_ 3 _ rfl; (with_reducible repeat (first | refine blk_drewN ?_ _ | refine blk_drew ?_ | refine blk_alloc ?_ _)); refine blk_put (cs := #[.int .i64 3, .string (a0.extract 0 (x4_32 : Int).toNat), .int .i64 0, .int .i64 0]) ?_ 2 _ rfl; (with_reducible repeat (first | refine blk_drewN ?_ _ | refine blk_drew ?_ | refine blk_alloc ?_ _)); refine blk_put (cs := #[.int .i64 3, .string (⟨#[]⟩ : ByteArray), .int .i64 0, .int .i64 0]) ?_ 1 _ rfl; (with_reducible repeat (first | refine blk_drewN ?_ _ | refine blk_drew ?_ | refine blk_alloc ?_ _)); refine blk_put (cs := #[.int .i64 0, .string (⟨#[]⟩ : ByteArray), .int .i64 0, .int .i64 0]) ?_ 0 _ rfl; (with_reducible repeat (first | refine blk_drewN ?_ _ | refine blk_drew ?_ | refine blk_alloc ?_ _)); exact BK360.out) Tryz.underlying155 rfl (by kernel_rfl)) rfl ?_
          exact ⟨by first | rfl | (simp [errW_none, errW_some] <;> rfl) | (simp [*, errW_none, errW_some] <;> rfl), by repeat (first | (with_reducible first | exact HB.out | apply below_alloc | apply pw_below_drewN | apply below_drew1 | refine below_set ?_ GE360.out) | exact HB.out)⟩
         ·replace c48 := Bool.eq_false_iff.mpr c48
          subst c48
          have H1 : (if x4_32 > 12 then (some (0, (⟨#[]⟩ : ByteArray), 0, 0, 0)) else (some (1, a0.extract 0 (x4_32 : Int).toNat, 0, 0, x4_32))) = some (r1, r2, r3, r4, r5) := by rw [if_neg (show ¬ (false = true) by decide)] at H; exact H
          clear H
          have H := H1
          clear H1
          by_cases c53 : x4_32 > 12
          ·rw [if_pos c53] at H
           have c53b0 : decide (12 < x4_32) = true := decide_eq_true c53
           clear c53
           simp only [Option.some.injEq, Prod.mk.injEq] at H
           obtain ⟨rfl, rfl, rfl, rfl, rfl⟩ := H
           go_wp2_with (first | ((with_reducible refine gate_callee (f := 132) rfl ?_); refine goesL_ (some 85) rfl rfl Tryz.func132 (by kernel_rfl) rfl #[.string (a0.extract 0 (x4_32 : Int).toNat)] rfl (by (try simp only [List.map_toArray, List.map_cons, List.map_nil]); first | done | rfl | (simp only [List.length_drop, List.length_take]; rfl)) ?_; (with_reducible refine (taskmasterref4_word.calls kj32 (a0.extract 0 (x4_32 : Int).toNat) false _ A47.out).mono ?_); rintro e w54 ⟨rfl, hb⟩; refine ⟨_, rfl, ?_⟩; have n0_ := Aside0.mk (blk_below (g := gb360) (o := .cells #[.int .i64 0, .string (⟨#[]⟩ : ByteArray), .int .i64 0, .int .i64 0] 155 (0, 0)) (by (with_reducible repeat (first | refine blk_drewN ?_ _ | refine blk_drew ?_ | refine blk_alloc ?_ _)); exact BK360.out) hb); have n1_ := Aside0.mk (below_step (by repeat (first | (with_reducible first | exact HB.out | apply below_alloc | apply pw_below_drewN | apply below_drew1 | refine below_set ?_ GE360.out) | exact HB.out)) hb); clear BK360; clear HB; have BK360 := n0_; have HB := n1_; clear n0_ n1_; (try clear hb); (try clear hb2); (try clear hk); (try clear hi); have hcz55_0 : w54.cell? ⟨gb360, 0, none⟩ = some (.int .i64 0) := (blk_cell BK360.out 0).trans rfl; have hcz55_1 : w54.cell? ⟨gb360, 1, none⟩ = some (.string (⟨#[]⟩ : ByteArray)) := (blk_cell BK360.out 1).trans rfl; have hcz55_2 : w54.cell? ⟨gb360, 2, none⟩ = some (.int .i64 0) := (blk_cell BK360.out 2).trans rfl; have hcz55_3 : w54.cell? ⟨gb360, 3, none⟩ = some (.int .i64 0) := (blk_cell BK360.out 3).trans rfl; have hfz55_0 := blk_frozen BK360.out 0; have hfz55_1 := blk_frozen BK360.out 1; have hfz55_2 := blk_frozen BK360.out 2; have hfz55_3 := blk_frozen BK360.out 3))
           refine bodyPost_ret (results_ct rfl _ _ gb360 155 #[.int .i64 0, .string (⟨#[]⟩ : ByteArray), .int .i64 0, .int .i64 0] (0, 0) _ rfl (by (with_reducible repeat (first | refine blk_drewN ?_ _ | refine blk_drew ?_ | refine blk_alloc ?_ _)); refine blk_put (cs := #[.int .i64 0, .string (⟨#[]⟩ : ByteArray), .int .i64 0, .int .i64 0]) ?_ 3 _ rfl; (with_reducible repeat (first | refine blk_drewN ?_ _ | refine blk_drew ?_ | refine blk_alloc ?_ _)); refine blk_put (cs := #[.int .i64 0, .string (⟨#[]⟩ : ByteArray), .int .i64 0, .int .i64 0]) ?_ 2 _ rfl; (with_reducible repeat (first | refine blk_drewN ?_ _ | refine blk_drew ?_ | refine blk_alloc ?_ _)); refine blk_put (cs := #[.int .i64 0, .string (⟨#[]⟩ : ByteArray), .int .i64 0, .int .i64 0]) ?_ 1 _ rfl; (with_reducible repeat (first | refine blk_drewN ?_ _ | refine blk_drew ?_ | refine blk_alloc ?_ _)); refine blk_put (cs := #[.int .i64 0, .string (⟨#[]⟩ : ByteArray), .int .i64 0, .int .i64 0]) ?_ 0 _ rfl; (with_reducible repeat (first | refine blk_drewN ?_ _ | refine blk_drew ?_ | refine blk_alloc ?_ _)); exact BK360.out) Tryz.underlying155 rfl (by kernel_rfl)) rfl ?_
           exact ⟨by first | rfl | (simp [errW_none, errW_some] <;> rfl) | (simp [*, errW_none, errW_some] <;> rfl), by repeat (first | (with_reducible first | exact HB.out | apply below_alloc | apply pw_below_drewN | apply below_drew1 | refine below_set ?_ GE360.out) | exact HB.out)⟩
          ·rw [if_neg c53] at H
           have c53b0 : decide (12 < x4_32) = false := decide_eq_false c53
           clear c53
           have c56b0 := eq_true (of_decide_eq_true (by first | (with_reducible assumption) | assumption) : 0 ≤ x4_32)
           have c57b0 := eq_true (of_decide_eq_true (by first | (with_reducible assumption) | assumption) : x4_32 ≤ (a0.size : Int))
           simp only [Option.some.injEq, Prod.mk.injEq] at H
           obtain ⟨rfl, rfl, rfl, rfl, rfl⟩ := H
           go_wp2_with (first | ((with_reducible refine gate_callee (f := 132) rfl ?_); refine goesL_ (some 85) rfl rfl Tryz.func132 (by kernel_rfl) rfl #[.string (a0.extract 0 (x4_32 : Int).toNat)] rfl (by (try simp only [List.map_toArray, List.map_cons, List.map_nil]); first | done | rfl | (simp only [List.length_drop, List.length_take]; rfl)) ?_; (with_reducible refine (taskmasterref4_word.calls kj32 (a0.extract 0 (x4_32 : Int).toNat) false _ A47.out).mono ?_); rintro e w58 ⟨rfl, hb⟩; refine ⟨_, rfl, ?_⟩; have n0_ := Aside0.mk (blk_below (g := gb360) (o := .cells #[.int .i64 0, .string (⟨#[]⟩ : ByteArray), .int .i64 0, .int .i64 0] 155 (0, 0)) (by (with_reducible repeat (first | refine blk_drewN ?_ _ | refine blk_drew ?_ | refine blk_alloc ?_ _)); exact BK360.out) hb); have n1_ := Aside0.mk (below_step (by repeat (first | (with_reducible first | exact HB.out | apply below_alloc | apply pw_below_drewN | apply below_drew1 | refine below_set ?_ GE360.out) | exact HB.out)) hb); clear BK360; clear HB; have BK360 := n0_; have HB := n1_; clear n0_ n1_; (try clear hb); (try clear hb2); (try clear hk); (try clear hi); have hcz59_0 : w58.cell? ⟨gb360, 0, none⟩ = some (.int .i64 0) := (blk_cell BK360.out 0).trans rfl; have hcz59_1 : w58.cell? ⟨gb360, 1, none⟩ = some (.string (⟨#[]⟩ : ByteArray)) := (blk_cell BK360.out 1).trans rfl; have hcz59_2 : w58.cell? ⟨gb360, 2, none⟩ = some (.int .i64 0) := (blk_cell BK360.out 2).trans rfl; have hcz59_3 : w58.cell? ⟨gb360, 3, none⟩ = some (.int .i64 0) := (blk_cell BK360.out 3).trans rfl; have hfz59_0 := blk_frozen BK360.out 0; have hfz59_1 := blk_frozen BK360.out 1; have hfz59_2 := blk_frozen BK360.out 2; have hfz59_3 := blk_frozen BK360.out 3))
           refine bodyPost_ret (results_ct rfl _ _ gb360 155 #[.int .i64 1, .string (a0.extract 0 (x4_32 : Int).toNat), .int .i64 0, .int .i64 0] (0, 0) _ rfl (by (with_reducible repeat (first | refine blk_drewN ?_ _ | refine blk_drew ?_ | refine blk_alloc ?_ _)); refine blk_put (cs := #[.int .i64 1, .string (a0.extract 0 (x4_32 : Int).toNat), .int .i64 0, .int .i64 0]) ?_ 3 _ rfl; (with_reducible repeat (first | refine blk_drewN ?_ _ | refine blk_drew ?_ | refine blk_alloc ?_ _)); refine blk_put (cs := #[.int .i64 1, .string (a0.extract 0 (x4_32 : Int).toNat), .int .i64 0, .int .i64 0]) ?_ 2 _ rfl; (with_reducible repeat (first | refine blk_drewN ?_ _ | refine blk_drew ?_ | refine blk_alloc ?_ _)); refine blk_put (cs := #[.int .i64 1, .string (⟨#[]⟩ : ByteArray), .int .i64 0, .int .i64 0]) ?_ 1 _ rfl; (with_reducible repeat (first | refine blk_drewN ?_ _ | refine blk_drew ?_ | refine blk_alloc ?_ _)); refine blk_put (cs := #[.int .i64 0, .string (⟨#[]⟩ : ByteArray), .int .i64 0, .int .i64 0]) ?_ 0 _ rfl; (with_reducible repeat (first | refine blk_drewN ?_ _ | refine blk_drew ?_ | refine blk_alloc ?_ _)); exact BK360.out) Tryz.underlying155 rfl (by kernel_rfl)) rfl ?_
           exact ⟨by first | rfl | (simp [errW_none, errW_some] <;> rfl) | (simp [*, errW_none, errW_some] <;> rfl), by repeat (first | (with_reducible first | exact HB.out | apply below_alloc | apply pw_below_drewN | apply below_drew1 | refine below_set ?_ GE360.out) | exact HB.out)⟩
        ·rw [if_neg c46] at H
         exact absurd H (by simp)
       ·rw [if_neg c45] at H
        exact absurd H (by simp)
    ·replace c32 := Bool.eq_false_iff.mpr c32
     subst c32
     have H1 : (some (0, (⟨#[]⟩ : ByteArray), 0, 0, 0)) = some (r1, r2, r3, r4, r5) := by rw [if_neg (show ¬ (false = true) by decide)] at H; exact H
     clear H
     have H := H1
     clear H1
     simp only [Option.some.injEq, Prod.mk.injEq] at H
     obtain ⟨rfl, rfl, rfl, rfl, rfl⟩ := H
     go_enter Tryz.func99, Tryz.ntmps99
     go_wp2_with (first | ((with_reducible refine gate_dst (N := 2) rfl ?_); refine box_event ?hg (N := 2) ?hd (cs := #[.int .i64 0, .string (⟨#[]⟩ : ByteArray), .int .i64 0, .int .i64 0]) (t := 155) ?hr ?_; (case hd => rfl); (case hg => rfl); (case hr => first | (go_simp; done) | (go_simp; rfl)); intro gb360 hg w60 hbox hb; have n0_ := Aside0.mk (below_step (by repeat (first | (with_reducible first | exact HB.out | apply below_alloc | apply pw_below_drewN | apply below_drew1) | exact HB.out)) hb); have n1_ := Aside0.mk (hbox); have n2_ := Aside0.mk ((by rw [hg]; exact (below_size (by repeat (first | (with_reducible first | exact HB.out | apply below_alloc | apply pw_below_drewN | apply below_drew1) | exact HB.out))) : w.heap.size ≤ gb360)); have n3_ := Aside0.mk ((by rw [hg]; exact (below_size (by repeat (first | (with_reducible first | exact HB.out | apply below_alloc | apply pw_below_drewN | apply below_drew1) | exact HB.out))) : w.heap.size ≤ gb360)); clear HB; have HB := n0_; have BK360 := n1_; have GW360 := n2_; have GE360 := n3_; clear n0_ n1_ n2_ n3_; clear hb hbox hg; have p3 : 0 ≤ (0 : Int) := (by omega); have q3 : 0 < a0.size := (by have : (0 : Int) < (a0.size : Int) := of_decide_eq_true (by first | (with_reducible assumption) | assumption); omega); have hx3 : ∀ h : 0 < a0.size, ((a0[0]'h).toNat : Int) = bt a0 0 := bt_at a0 0; clear p3; have qi3 : (0 < (a0.size : Int)) = True := eq_true (of_decide_eq_true (by first | (with_reducible assumption) | assumption)); replace q3 := eq_true q3; have p7 : 0 ≤ (0 : Int) := (by omega); have q7 : 0 < a0.size := (by have : (0 : Int) < (a0.size : Int) := of_decide_eq_true (by first | (with_reducible assumption) | assumption); omega); have hx7 : ∀ h : 0 < a0.size, ((a0[0]'h).toNat : Int) = bt a0 0 := bt_at a0 0; clear p7; have qi7 : (0 < (a0.size : Int)) = True := eq_true (of_decide_eq_true (by first | (with_reducible assumption) | assumption)); replace q7 := eq_true q7) | ((with_reducible refine gate_callee (f := 131) rfl ?_); refine goesL_ (some 14) rfl rfl Tryz.func131 (by kernel_rfl) rfl #[.int .u8 (bt a0 0)] rfl (by (try simp only [List.map_toArray, List.map_cons, List.map_nil]); first | done | rfl | (simp only [List.length_drop, List.length_take]; rfl)) ?_; (with_reducible refine (taskmasterref4_digit.calls (bt a0 0) false _ A8.out).mono ?_); rintro e w' ⟨rfl, ⟨nd, rfl⟩⟩; refine ⟨_, rfl, ?_⟩; (try (rw [drewN_self w60]; generalize hq_ : World.drewN w60 _ = w60; have n0_ : Aside0 (w60.heap[gb360]? = some (.cells #[.int .i64 0, .string (⟨#[]⟩ : ByteArray), .int .i64 0, .int .i64 0] 155 (0, 0))) := ⟨by rw [← hq_]; exact (by (with_reducible repeat (first | refine blk_drewN ?_ _ | refine blk_drew ?_ | refine blk_alloc ?_ _)); exact BK360.out)⟩; have n1_ : Aside0 (Below w.heap.size w w60) := ⟨by rw [← hq_]; exact (by repeat (first | (with_reducible first | exact HB.out | apply below_alloc | apply pw_below_drewN | apply below_drew1 | refine below_set ?_ GE360.out) | exact HB.out))⟩; clear BK360 HB hq_; have BK360 := n0_; have HB := n1_; clear n0_ n1_)); have p30 : 0 ≤ (0 : Int) := (by omega); have q30 : 0 < a0.size := (by have : (0 : Int) < (a0.size : Int) := of_decide_eq_true (by first | (with_reducible assumption) | assumption); omega); have hx30 : ∀ h : 0 < a0.size, ((a0[0]'h).toNat : Int) = bt a0 0 := bt_at a0 0; clear p30; have qi30 : (0 < (a0.size : Int)) = True := eq_true (of_decide_eq_true (by first | (with_reducible assumption) | assumption)); replace q30 := eq_true q30) | ((with_reducible refine gate_callee (f := 98) rfl ?_); refine goesL_ (some 55) rfl rfl Tryz.func98 (by kernel_rfl) rfl #[.int .u8 (bt a0 0)] rfl (by (try simp only [List.map_toArray, List.map_cons, List.map_nil]); first | done | rfl | (simp only [List.length_drop, List.length_take]; rfl)) ?_; (with_reducible refine (taskmasterref4_small.calls (bt a0 0) false _ A31.out).mono ?_); rintro e w' ⟨rfl, ⟨nd, rfl⟩⟩; refine ⟨_, rfl, ?_⟩; (try (rw [drewN_self w60]; generalize hq_ : World.drewN w60 _ = w60; have n0_ : Aside0 (w60.heap[gb360]? = some (.cells #[.int .i64 0, .string (⟨#[]⟩ : ByteArray), .int .i64 0, .int .i64 0] 155 (0, 0))) := ⟨by rw [← hq_]; exact (by (with_reducible repeat (first | refine blk_drewN ?_ _ | refine blk_drew ?_ | refine blk_alloc ?_ _)); exact BK360.out)⟩; have n1_ : Aside0 (Below w.heap.size w w60) := ⟨by rw [← hq_]; exact (by repeat (first | (with_reducible first | exact HB.out | apply below_alloc | apply pw_below_drewN | apply below_drew1 | refine below_set ?_ GE360.out) | exact HB.out))⟩; clear BK360 HB hq_; have BK360 := n0_; have HB := n1_; clear n0_ n1_)); have hcz61_0 : w60.cell? ⟨gb360, 0, none⟩ = some (.int .i64 0) := (blk_cell BK360.out 0).trans rfl; have hcz61_1 : w60.cell? ⟨gb360, 1, none⟩ = some (.string (⟨#[]⟩ : ByteArray)) := (blk_cell BK360.out 1).trans rfl; have hcz61_2 : w60.cell? ⟨gb360, 2, none⟩ = some (.int .i64 0) := (blk_cell BK360.out 2).trans rfl; have hcz61_3 : w60.cell? ⟨gb360, 3, none⟩ = some (.int .i64 0) := (blk_cell BK360.out 3).trans rfl; have hfz61_0 := blk_frozen BK360.out 0; have hfz61_1 := blk_frozen BK360.out 1; have hfz61_2 := blk_frozen BK360.out 2; have hfz61_3 := blk_frozen BK360.out 3))
     refine bodyPost_ret (results_ct rfl _ _ gb360 155 #[.int .i64 0, .string (⟨#[]⟩ : ByteArray), .int .i64 0, .int .i64 0] (0, 0) _ rfl (by (with_reducible repeat (first | refine blk_drewN ?_ _ | refine blk_drew ?_ | refine blk_alloc ?_ _)); refine blk_put (cs := #[.int .i64 0, .string (⟨#[]⟩ : ByteArray), .int .i64 0, .int .i64 0]) ?_ 3 _ rfl; (with_reducible repeat (first | refine blk_drewN ?_ _ | refine blk_drew ?_ | refine blk_alloc ?_ _)); refine blk_put (cs := #[.int .i64 0, .string (⟨#[]⟩ : ByteArray), .int .i64 0, .int .i64 0]) ?_ 2 _ rfl; (with_reducible repeat (first | refine blk_drewN ?_ _ | refine blk_drew ?_ | refine blk_alloc ?_ _)); refine blk_put (cs := #[.int .i64 0, .string (⟨#[]⟩ : ByteArray), .int .i64 0, .int .i64 0]) ?_ 1 _ rfl; (with_reducible repeat (first | refine blk_drewN ?_ _ | refine blk_drew ?_ | refine blk_alloc ?_ _)); refine blk_put (cs := #[.int .i64 0, .string (⟨#[]⟩ : ByteArray), .int .i64 0, .int .i64 0]) ?_ 0 _ rfl; (with_reducible repeat (first | refine blk_drewN ?_ _ | refine blk_drew ?_ | refine blk_alloc ?_ _)); exact BK360.out) Tryz.underlying155 rfl (by kernel_rfl)) rfl ?_
     exact ⟨by first | rfl | (simp [errW_none, errW_some] <;> rfl) | (simp [*, errW_none, errW_some] <;> rfl), by repeat (first | (with_reducible first | exact HB.out | apply below_alloc | apply pw_below_drewN | apply below_drew1 | refine below_set ?_ GE360.out) | exact HB.out)⟩
 ·rw [if_neg c2] at H
  exact absurd H (by simp)
def taskmasterref4_Name.f (k : Nat) (a0 : ByteArray) : Option (Bool) := if (a0.size : Int) = 0 then (some false) else (if 0 < (a0.size : Int) then ((taskmasterref4_small.f (bt a0 0)).bind fun t367 => (if t367 = true then ((taskmasterref4_one.f k a0).bind fun bt368 => (if bt368.2.2.2.2 = (a0.size : Int) then (some (bt368.1 == 1)) else (some false))) else (some false))) else (none))
set_option maxHeartbeats 8000000 in
set_option maxRecDepth 100000 in
theorem taskmasterref4_Name.calls (k : Nat) (a0 : ByteArray) (r : Bool) (w : World) (h : taskmasterref4_Name.f k a0 = some r) :
  Calls Tryz.prog 56 #[.string a0] w fun e w' => e = .returned (.bool r) ∧ Below w.heap.size w w' := by
 have hu155 := Tryz.underlying155
 have HB := Aside0.mk (Below.refl w.heap.size w)
 have H : (if (a0.size : Int) = 0 then (some false) else (if 0 < (a0.size : Int) then ((taskmasterref4_small.f (bt a0 0)).bind fun t367 => (if t367 = true then ((taskmasterref4_one.f k a0).bind fun bt368 => (if bt368.2.2.2.2 = (a0.size : Int) then (some (bt368.1 == 1)) else (some false))) else (some false))) else (none))) = some r := h
 clear h
 by_cases c2 : (a0.size : Int) = 0
 ·rw [if_pos c2] at H
  have c2b0 : ((a0.size : Int) == 0) = true := beq_iff_eq.mpr c2
  have c2b1 : ((a0.size : Int) != 0) = false := bne_eq_false_iff_eq.mpr c2
  clear c2
  obtain rfl := Option.some.inj H
  go_enter Tryz.func56, Tryz.ntmps56
  go_wp2
  go_ret
  exact ⟨by first | rfl | (simp [errW_none, errW_some] <;> rfl) | (simp [*, errW_none, errW_some] <;> rfl), by repeat (first | (with_reducible first | exact HB.out | apply below_alloc | apply pw_below_drewN | apply below_drew1) | exact HB.out)⟩
 ·rw [if_neg c2] at H
  have c2b0 : ((a0.size : Int) == 0) = false := beq_eq_false_iff_ne.mpr c2
  have c2b1 : ((a0.size : Int) != 0) = true := bne_iff_ne.mpr c2
  by_cases c3 : 0 < (a0.size : Int)
  ·rw [if_pos c3] at H
   have c3b0 : decide (0 < (a0.size : Int)) = true := decide_eq_true c3
   have c3b1 : decide (0 < a0.size) = true := decide_eq_true (by omega)
   clear c3
   replace H := Option.bind_eq_some_iff.mp H
   obtain ⟨t367, A50, H⟩ := H
   replace H : (if t367 = true then ((taskmasterref4_one.f k a0).bind fun bt368 => (if bt368.2.2.2.2 = (a0.size : Int) then (some (bt368.1 == 1)) else (some false))) else (some false)) = some r := H
   have A5 := Aside0.mk A50
   clear A50
   by_cases c6 : t367 = true
   ·subst c6
    have H1 : ((taskmasterref4_one.f k a0).bind fun bt368 => (if bt368.2.2.2.2 = (a0.size : Int) then (some (bt368.1 == 1)) else (some false))) = some r := by rw [if_pos rfl] at H; exact H
    clear H
    have H := H1
    clear H1
    replace H := Option.bind_eq_some_iff.mp H
    obtain ⟨⟨t368, t369, t370, t371, t372⟩, A70, H⟩ := H
    replace H : (if t372 = (a0.size : Int) then (some (t368 == 1)) else (some false)) = some r := H
    have A7 := Aside0.mk A70
    clear A70
    by_cases c8 : t372 = (a0.size : Int)
    ·rw [if_pos c8] at H
     have c8b0 : (t372 == (a0.size : Int)) = true := beq_iff_eq.mpr c8
     have c8b1 : (t372 != (a0.size : Int)) = false := bne_eq_false_iff_eq.mpr c8
     clear c8
     obtain rfl := Option.some.inj H
     have p4 : 0 ≤ (0 : Int) := (by omega)
     have q4 : 0 < a0.size := (by have : (0 : Int) < (a0.size : Int) := of_decide_eq_true (by first | (with_reducible assumption) | assumption); omega)
     have hx4 : ∀ h : 0 < a0.size, ((a0[0]'h).toNat : Int) = bt a0 0 := bt_at a0 0
     clear p4
     have qi4 : (0 < (a0.size : Int)) = True := eq_true (of_decide_eq_true (by first | (with_reducible assumption) | assumption))
     replace q4 := eq_true q4
     go_enter Tryz.func56, Tryz.ntmps56
     go_wp2_with (first | (go_at_call 98; (with_reducible refine (taskmasterref4_small.calls (bt a0 0) true _ A5.out).mono ?_); rintro e w' ⟨rfl, ⟨nd, rfl⟩⟩) | ((with_reducible refine gate_callee (f := 99) rfl ?_); refine goesL_ (some 16) rfl rfl Tryz.func99 (by kernel_rfl) rfl #[.string a0] rfl (by (try simp only [List.map_toArray, List.map_cons, List.map_nil]); first | done | rfl | (simp only [List.length_drop, List.length_take]; rfl)) ?_; (with_reducible refine (taskmasterref4_one.calls k a0 t368 t369 t370 t371 t372 _ A7.out).mono ?_); rintro e w9 ⟨rfl, hb⟩; refine ⟨_, rfl, ?_⟩; have n0_ := Aside0.mk (below_step (by repeat (first | (with_reducible first | exact HB.out | apply below_alloc | apply pw_below_drewN | apply below_drew1) | exact HB.out)) hb); clear HB; have HB := n0_; clear n0_; (try clear hb); (try clear hb2); (try clear hk); (try clear hi)) | ((with_reducible refine gate_dst (N := 3) rfl ?_); refine box_event ?hg (N := 3) ?hd (cs := #[.int .i64 0, .string (⟨#[]⟩ : ByteArray), .int .i64 0, .int .i64 0]) (t := 155) ?hr ?_; (case hd => rfl); (case hg => rfl); (case hr => first | (go_simp; done) | (go_simp; rfl)); intro gb373 hg w10 hbox hb; have n0_ := Aside0.mk (below_step (by repeat (first | (with_reducible first | exact HB.out | apply below_alloc | apply pw_below_drewN | apply below_drew1) | exact HB.out)) hb); have n1_ := Aside0.mk (hbox); have n2_ := Aside0.mk ((by rw [hg]; exact (below_size (by repeat (first | (with_reducible first | exact HB.out | apply below_alloc | apply pw_below_drewN | apply below_drew1) | exact HB.out))) : w.heap.size ≤ gb373)); have n3_ := Aside0.mk ((by rw [hg]; exact (below_size (by repeat (first | (with_reducible first | exact HB.out | apply below_alloc | apply pw_below_drewN | apply below_drew1) | exact HB.out))) : w.heap.size ≤ gb373)); clear HB; have HB := n0_; have BK373 := n1_; have GW373 := n2_; have GE373 := n3_; clear n0_ n1_ n2_ n3_; clear hb hbox hg; have hcz11_0 : w10.cell? ⟨gb373, 0, none⟩ = some (.int .i64 0) := (blk_cell BK373.out 0).trans rfl; have hcz11_1 : w10.cell? ⟨gb373, 1, none⟩ = some (.string (⟨#[]⟩ : ByteArray)) := (blk_cell BK373.out 1).trans rfl; have hcz11_2 : w10.cell? ⟨gb373, 2, none⟩ = some (.int .i64 0) := (blk_cell BK373.out 2).trans rfl; have hcz11_3 : w10.cell? ⟨gb373, 3, none⟩ = some (.int .i64 0) := (blk_cell BK373.out 3).trans rfl; have hfz11_0 := blk_frozen BK373.out 0; have hfz11_1 := blk_frozen BK373.out 1; have hfz11_2 := blk_frozen BK373.out 2; have hfz11_3 := blk_frozen BK373.out 3))
     go_ret
     exact ⟨by first | rfl | (simp [errW_none, errW_some] <;> rfl) | (simp [*, errW_none, errW_some] <;> rfl), by repeat (first | (with_reducible first | exact HB.out | apply below_alloc | apply pw_below_drewN | apply below_drew1 | refine below_set ?_ GE373.out) | exact HB.out)⟩
    ·rw [if_neg c8] at H
     have c8b0 : (t372 == (a0.size : Int)) = false := beq_eq_false_iff_ne.mpr c8
     have c8b1 : (t372 != (a0.size : Int)) = true := bne_iff_ne.mpr c8
     obtain rfl := Option.some.inj H
     have p4 : 0 ≤ (0 : Int) := (by omega)
     have q4 : 0 < a0.size := (by have : (0 : Int) < (a0.size : Int) := of_decide_eq_true (by first | (with_reducible assumption) | assumption); omega)
     have hx4 : ∀ h : 0 < a0.size, ((a0[0]'h).toNat : Int) = bt a0 0 := bt_at a0 0
     clear p4
     have qi4 : (0 < (a0.size : Int)) = True := eq_true (of_decide_eq_true (by first | (with_reducible assumption) | assumption))
     replace q4 := eq_true q4
     go_enter Tryz.func56, Tryz.ntmps56
     go_wp2_with (first | (go_at_call 98; (with_reducible refine (taskmasterref4_small.calls (bt a0 0) true _ A5.out).mono ?_); rintro e w' ⟨rfl, ⟨nd, rfl⟩⟩) | ((with_reducible refine gate_callee (f := 99) rfl ?_); refine goesL_ (some 16) rfl rfl Tryz.func99 (by kernel_rfl) rfl #[.string a0] rfl (by (try simp only [List.map_toArray, List.map_cons, List.map_nil]); first | done | rfl | (simp only [List.length_drop, List.length_take]; rfl)) ?_; (with_reducible refine (taskmasterref4_one.calls k a0 t368 t369 t370 t371 t372 _ A7.out).mono ?_); rintro e w12 ⟨rfl, hb⟩; refine ⟨_, rfl, ?_⟩; have n0_ := Aside0.mk (below_step (by repeat (first | (with_reducible first | exact HB.out | apply below_alloc | apply pw_below_drewN | apply below_drew1) | exact HB.out)) hb); clear HB; have HB := n0_; clear n0_; (try clear hb); (try clear hb2); (try clear hk); (try clear hi)) | ((with_reducible refine gate_dst (N := 3) rfl ?_); refine box_event ?hg (N := 3) ?hd (cs := #[.int .i64 0, .string (⟨#[]⟩ : ByteArray), .int .i64 0, .int .i64 0]) (t := 155) ?hr ?_; (case hd => rfl); (case hg => rfl); (case hr => first | (go_simp; done) | (go_simp; rfl)); intro gb373 hg w13 hbox hb; have n0_ := Aside0.mk (below_step (by repeat (first | (with_reducible first | exact HB.out | apply below_alloc | apply pw_below_drewN | apply below_drew1) | exact HB.out)) hb); have n1_ := Aside0.mk (hbox); have n2_ := Aside0.mk ((by rw [hg]; exact (below_size (by repeat (first | (with_reducible first | exact HB.out | apply below_alloc | apply pw_below_drewN | apply below_drew1) | exact HB.out))) : w.heap.size ≤ gb373)); have n3_ := Aside0.mk ((by rw [hg]; exact (below_size (by repeat (first | (with_reducible first | exact HB.out | apply below_alloc | apply pw_below_drewN | apply below_drew1) | exact HB.out))) : w.heap.size ≤ gb373)); clear HB; have HB := n0_; have BK373 := n1_; have GW373 := n2_; have GE373 := n3_; clear n0_ n1_ n2_ n3_; clear hb hbox hg; have hcz14_0 : w13.cell? ⟨gb373, 0, none⟩ = some (.int .i64 0) := (blk_cell BK373.out 0).trans rfl; have hcz14_1 : w13.cell? ⟨gb373, 1, none⟩ = some (.string (⟨#[]⟩ : ByteArray)) := (blk_cell BK373.out 1).trans rfl; have hcz14_2 : w13.cell? ⟨gb373, 2, none⟩ = some (.int .i64 0) := (blk_cell BK373.out 2).trans rfl; have hcz14_3 : w13.cell? ⟨gb373, 3, none⟩ = some (.int .i64 0) := (blk_cell BK373.out 3).trans rfl; have hfz14_0 := blk_frozen BK373.out 0; have hfz14_1 := blk_frozen BK373.out 1; have hfz14_2 := blk_frozen BK373.out 2; have hfz14_3 := blk_frozen BK373.out 3))
     go_ret
     exact ⟨by first | rfl | (simp [errW_none, errW_some] <;> rfl) | (simp [*, errW_none, errW_some] <;> rfl), by repeat (first | (with_reducible first | exact HB.out | apply below_alloc | apply pw_below_drewN | apply below_drew1 | refine below_set ?_ GE373.out) | exact HB.out)⟩
   ·replace c6 := Bool.eq_false_iff.mpr c6
    subst c6
    have H1 : (some false) = some r := by rw [if_neg (show ¬ (false = true) by decide)] at H; exact H
    clear H
    have H := H1
    clear H1
    obtain rfl := Option.some.inj H
    have p4 : 0 ≤ (0 : Int) := (by omega)
    have q4 : 0 < a0.size := (by have : (0 : Int) < (a0.size : Int) := of_decide_eq_true (by first | (with_reducible assumption) | assumption); omega)
    have hx4 : ∀ h : 0 < a0.size, ((a0[0]'h).toNat : Int) = bt a0 0 := bt_at a0 0
    clear p4
    have qi4 : (0 < (a0.size : Int)) = True := eq_true (of_decide_eq_true (by first | (with_reducible assumption) | assumption))
    replace q4 := eq_true q4
    go_enter Tryz.func56, Tryz.ntmps56
    go_wp2_with (first | (go_at_call 98; (with_reducible refine (taskmasterref4_small.calls (bt a0 0) false _ A5.out).mono ?_); rintro e w' ⟨rfl, ⟨nd, rfl⟩⟩))
    go_ret
    exact ⟨by first | rfl | (simp [errW_none, errW_some] <;> rfl) | (simp [*, errW_none, errW_some] <;> rfl), by repeat (first | (with_reducible first | exact HB.out | apply below_alloc | apply pw_below_drewN | apply below_drew1) | exact HB.out)⟩
  ·rw [if_neg c3] at H
   exact absurd H (by simp)
end Go.Proofs.YtaofmmnfenlofaaGreatDoor.QTc
namespace Go.Proofs.YtaofmmnfenlofaaGreatDoor.QTc
open Go.RowKit Go.Proofs.YtaofmmnfenlofaaGreatDoorW.PrintWords Go.Proofs.YtaofmmnfenlofaaGreatDoorW.PrintLast Go.Proofs.YtaofmmnfenlofaaGreatDoorW.PrintMore
theorem cells9 {W : World} {g : Nat} {t : TypeId} {a b c d e f x y z : Value} (h : W.heap[g]? = some (.cells #[a, b, c, d, e, f, x, y, z] t (0, 0))) :
    W.cell? ⟨g, 0, none⟩ = some a ∧ W.cell? ⟨g, 1, none⟩ = some b ∧ W.cell? ⟨g, 2, none⟩ = some c ∧ W.cell? ⟨g, 3, none⟩ = some d ∧ W.cell? ⟨g, 4, none⟩ = some e ∧ W.cell? ⟨g, 5, none⟩ = some f ∧ W.cell? ⟨g, 6, none⟩ = some x ∧ W.cell? ⟨g, 7, none⟩ = some y ∧ W.cell? ⟨g, 8, none⟩ = some z ∧
    W.frozen? ⟨g, 0, none⟩ = false ∧ W.frozen? ⟨g, 1, none⟩ = false ∧ W.frozen? ⟨g, 2, none⟩ = false ∧ W.frozen? ⟨g, 3, none⟩ = false ∧ W.frozen? ⟨g, 4, none⟩ = false ∧ W.frozen? ⟨g, 5, none⟩ = false ∧ W.frozen? ⟨g, 6, none⟩ = false ∧ W.frozen? ⟨g, 7, none⟩ = false ∧ W.frozen? ⟨g, 8, none⟩ = false :=
  ⟨blk_cell h 0, blk_cell h 1, blk_cell h 2, blk_cell h 3, blk_cell h 4, blk_cell h 5, blk_cell h 6, blk_cell h 7, blk_cell h 8, blk_frozen h 0, blk_frozen h 1, blk_frozen h 2, blk_frozen h 3, blk_frozen h 4, blk_frozen h 5, blk_frozen h 6, blk_frozen h 7, blk_frozen h 8⟩
end Go.Proofs.YtaofmmnfenlofaaGreatDoor.QTc
namespace Go.Proofs.YtaofmmnfenlofaaGreatDoor.QTc
open Go.RowKit Go.Proofs.YtaofmmnfenlofaaGreatDoorW.PrintWords Go.Proofs.YtaofmmnfenlofaaGreatDoorW.PrintLast Go.Proofs.YtaofmmnfenlofaaGreatDoorW.PrintMore
attribute [local go_sem] max2_int min2_int max_two min_two max_three min_three max_four min_four
set_option linter.unusedVariables false
set_option linter.unusedSimpArgs false
def taskmasterref5_Work.l0 : Nat → Int → Int → ByteArray → Int → Int → Int → Int → Int → List Int → Int → Int → Option (Int)
 | 0, _, _, _, _, _, _, _, _, _, _, _ => none
 | k + 1, x3, x4, x375000, x375001, x375002, x375003, x375004, x375005, x375006, x375007, x375008 => if x4 < (x375006.length : Int) then (if 0 ≤ x4 then (taskmasterref5_Work.l0 k (wrap64 (x3 + (rd x375006 x4))) (wrap64 (x4 + 1)) x375000 x375001 x375002 x375003 x375004 x375005 x375006 x375007 x375008) else (none)) else (some x3)
def taskmasterref5_Work.f (k : Nat) (a0_0 : ByteArray) (a0_1 : Int) (a0_2 : Int) (a0_3 : Int) (a0_4 : Int) (a0_5 : Int) (l0_6 : List Int) (a0_7 : Int) (a0_8 : Int) : Option (Int) := taskmasterref5_Work.l0 k 0 0 a0_0 a0_1 a0_2 a0_3 a0_4 a0_5 l0_6 a0_7 a0_8
set_option maxHeartbeats 8000000 in
set_option maxRecDepth 100000 in
theorem taskmasterref5_Work.calls (k : Nat) (a0_0 : ByteArray) (a0_1 : Int) (a0_2 : Int) (a0_3 : Int) (a0_4 : Int) (a0_5 : Int) (A0_6 : Option Addr) (c0_6 : Nat) (l0_6 : List Int) (a0_7 : Int) (a0_8 : Int) (r : Int) (w : World) (hr0_6 : Kd.C (Kd.int .i64) w A0_6 l0_6.length l0_6) (hc0_6 : l0_6.length ≤ c0_6) (h : taskmasterref5_Work.f k a0_0 a0_1 a0_2 a0_3 a0_4 a0_5 l0_6 a0_7 a0_8 = some r) :
  Calls Tryz.prog 57 #[.agg #[.string a0_0, .int .i64 a0_1, .int .i64 a0_2, .int .i64 a0_3, .int .i64 a0_4, .int .i64 a0_5, .slice A0_6 l0_6.length c0_6, .int .u64 a0_7, .int .u64 a0_8]] w fun e w' => e = .returned (.int .i64 r) ∧ Below w.heap.size w w' := by
 have hu46 := Tryz.underlying46
 have HR0_6 := Aside0.mk hr0_6
 have HC0_6 := Aside0.mk hc0_6
 clear hr0_6 hc0_6
 have HB := Aside0.mk (Below.refl w.heap.size w)
 have H : (taskmasterref5_Work.l0 k 0 0 a0_0 a0_1 a0_2 a0_3 a0_4 a0_5 l0_6 a0_7 a0_8) = some r := h
 clear h
 have H' := Aside0.mk H
 clear H
 go_enter Tryz.func57, Tryz.ntmps57
 go_wp2_with (first | ((with_reducible refine gate_dst (N := 1) rfl ?_); refine box_event ?hg (N := 1) ?hd (cs := #[.string a0_0, .int .i64 a0_1, .int .i64 a0_2, .int .i64 a0_3, .int .i64 a0_4, .int .i64 a0_5, .slice A0_6 l0_6.length c0_6, .int .u64 a0_7, .int .u64 a0_8]) (t := 46) ?hr ?_; (case hd => rfl); (case hg => rfl); (case hr => first | (go_simp; done) | (go_simp; rfl)); intro gb374 hg w2 hbox hb; have n0_ := Aside0.mk (below_step (by repeat (first | (with_reducible first | exact HB.out | apply below_alloc | apply pw_below_drewN | apply below_drew1) | exact HB.out)) hb); have n1_ := Aside0.mk (hbox); have n2_ := Aside0.mk ((by rw [hg]; exact (below_size (by repeat (first | (with_reducible first | exact HB.out | apply below_alloc | apply pw_below_drewN | apply below_drew1) | exact HB.out))) : w.heap.size ≤ gb374)); have n3_ := Aside0.mk ((by rw [hg]; exact (below_size (by repeat (first | (with_reducible first | exact HB.out | apply below_alloc | apply pw_below_drewN | apply below_drew1) | exact HB.out))) : w.heap.size ≤ gb374)); clear HB; have HB := n0_; have BK374 := n1_; have GW374 := n2_; have GE374 := n3_; clear n0_ n1_ n2_ n3_; clear hb hbox hg))
 go_loopg [3, 4] k (fun kq v3 v4 w' => ∃ (x3_1 : Int) (x4_1 : Int), v3 = .int .i64 x3_1 ∧ v4 = .int .i64 x4_1 ∧ Aside0 (taskmasterref5_Work.l0 kq x3_1 x4_1 a0_0 a0_1 a0_2 a0_3 a0_4 a0_5 l0_6 a0_7 a0_8 = some r) ∧ Aside0 (kq ≤ k) ∧ Aside0 (w'.heap[gb374]? = some (.cells #[.string a0_0, .int .i64 a0_1, .int .i64 a0_2, .int .i64 a0_3, .int .i64 a0_4, .int .i64 a0_5, (.slice A0_6 l0_6.length c0_6), .int .u64 a0_7, .int .u64 a0_8] 46 (0, 0))) ∧ Aside0 (Below w.heap.size w w'))
 case atStart => exact ⟨(0), (0), (by first | rfl | (simp; done) | (simp [*]; done)), (by first | rfl | (simp; done) | (simp [*]; done)), H', ⟨Nat.le_refl _⟩, ⟨by (with_reducible repeat (first | refine blk_drewN ?_ _ | refine blk_drew ?_ | refine blk_alloc ?_ _)); exact BK374.out⟩, ⟨by repeat (first | (with_reducible first | exact HB.out | apply below_alloc | apply pw_below_drewN | apply below_drew1 | refine below_set ?_ GE374.out) | exact HB.out)⟩⟩
 case round =>
  clear H'
  try clear p2
  obtain ⟨x3_1, x4_1, rfl, rfl, HA, HK1, BK374, HB⟩ := hrel
  cases gk with
  | zero => exact absurd HA.out (by simp [taskmasterref5_Work.l0])
  | succ k1 =>
   have H := HA.out
   clear HA
   simp only [taskmasterref5_Work.l0] at H
   by_cases c3 : x4_1 < (l0_6.length : Int)
   ·rw [if_pos c3] at H
    have c3b0 : decide (x4_1 < (l0_6.length : Int)) = true := decide_eq_true c3
    clear c3
    by_cases c4 : 0 ≤ x4_1
    ·rw [if_pos c4] at H
     have c4b0 : decide (0 ≤ x4_1) = true := decide_eq_true c4
     clear c4
     have H' := Aside0.mk H
     clear H
     obtain ⟨hcz5_0, hcz5_1, hcz5_2, hcz5_3, hcz5_4, hcz5_5, hcz5_6, hcz5_7, hcz5_8, hfz5_0, hfz5_1, hfz5_2, hfz5_3, hfz5_4, hfz5_5, hfz5_6, hfz5_7, hfz5_8⟩ := cells9 BK374.out
     have p375 : 0 ≤ (x4_1 : Int) := of_decide_eq_true (by first | (with_reducible assumption) | assumption)
     have q375 : x4_1 < (l0_6.length : Int) := of_decide_eq_true (by first | (with_reducible assumption) | assumption)
     obtain ⟨ad375, e375, hx375_0⟩ := Kd.at_int HR0_6.out x4_1 p375 q375
     cases e375
     replace hx375_0 := (HB.out.cell (World.block_lt_of_cell? w _ hx375_0)).trans hx375_0
     replace p375 := eq_true p375
     replace q375 := eq_true q375
     go_wp2
     go_roundg k1
     case measure => have := HK1.out; omega
     case rel => exact ⟨(wrap64 (x3_1 + (rd l0_6 x4_1))), (wrap64 (x4_1 + 1)), (by first | rfl | (simp; done) | (simp [*]; done)), (by first | rfl | (simp; done) | (simp [*]; done)), H', ⟨by have := HK1.out; omega⟩, ⟨by (with_reducible repeat (first | refine blk_drewN ?_ _ | refine blk_drew ?_ | refine blk_alloc ?_ _)); exact BK374.out⟩, ⟨by repeat (first | (with_reducible first | exact HB.out | apply below_alloc | apply pw_below_drewN | apply below_drew1 | refine below_set ?_ GE374.out) | exact HB.out)⟩⟩
    ·rw [if_neg c4] at H
     exact absurd H (by simp)
   ·rw [if_neg c3] at H
    have c3b0 : decide (x4_1 < (l0_6.length : Int)) = false := decide_eq_false c3
    clear c3
    obtain rfl := Option.some.inj H
    obtain ⟨hcz6_0, hcz6_1, hcz6_2, hcz6_3, hcz6_4, hcz6_5, hcz6_6, hcz6_7, hcz6_8, hfz6_0, hfz6_1, hfz6_2, hfz6_3, hfz6_4, hfz6_5, hfz6_6, hfz6_7, hfz6_8⟩ := cells9 BK374.out
    go_wp2
    go_ret
    exact ⟨by first | rfl | (simp [errW_none, errW_some] <;> rfl) | (simp [*, errW_none, errW_some] <;> rfl), by repeat (first | (with_reducible first | exact HB.out | apply below_alloc | apply pw_below_drewN | apply below_drew1 | refine below_set ?_ GE374.out) | exact HB.out)⟩
end Go.Proofs.YtaofmmnfenlofaaGreatDoor.QTc

/- What is proved: contracts and plain facts on the way to the row RowTopCut, and, in the last text, the row itself; conditions as each theorem names them. -/
import Derived.Lib.ConvBytes
import Derived.ScopeJumps
import Derived.WalkMore
import Derived.Deep.RegionHeld3
import Derived.Outline
import Derived.OwnWalk
import Derived.Maps.OwnSet
import Derived.Maps.OwnOps
import Derived.Carry
import Derived.Deep.AppendLies
import Derived.Deep.DeepCutAuto
import Derived.Test.YtaofmmnfenlofaaGreatDoorSkCut1
import Derived.Test.YtaofmmnfenlofaaGreatDoorSkCut2
import Derived.Test.YtaofmmnfenlofaaGreatDoorSkCut3
namespace Go.Proofs.YtaofmmnfenlofaaGreatDoor.QTc
open Go.RowKit Go.Proofs.YtaofmmnfenlofaaGreatDoorW.PrintWords Go.Proofs.YtaofmmnfenlofaaGreatDoorW.PrintLast Go.Proofs.YtaofmmnfenlofaaGreatDoorW.PrintMore
set_option linter.unusedVariables false
set_option linter.unusedSimpArgs false
section
variable {P : Program} {ops : Array Oper} {rest : List Oper} {o : Oper} {a : Act} {Q : Exit → Act → World → Prop}
theorem bytes_event {W : World} (hgd : o.guard = none) {src dst e : TypeId} {s : ByteArray} {u : TypeDesc} (hs : P.underlying src = some u) (hd : P.underlying dst = some (.slice e)) (he : P.underlying e = some (.int .u8))
    (hrun : (convert src dst (.string s)).run P W = .ok (.slice (some ⟨W.heap.size, 0, none⟩) s.size (grownCap W s.size 0 e)) (Lib.bytesWorld W e s) → (execOp a.eval o).run P W = .ok (.value (.slice (some ⟨W.heap.size, 0, none⟩) s.size (grownCap W s.size 0 e))) (Lib.bytesWorld W e s))
    (h : ∀ g c w1, g = W.heap.size → (∀ j, j < s.size → w1.cell? ⟨g, j, none⟩ = some (.int .u8 (s.data.toList.getD j 0).toNat)) → Below W.heap.size W w1 → wpList P ops Q rest (a.put o.dst (.slice (some ⟨g, 0, none⟩) s.size c)) w1) : wpList P ops Q (o :: rest) a W :=
  Kd.event_run hgd (hrun (Lib.run_convert_string_bytes W src dst e s hs hd he)) (h _ _ _ rfl (fun j hj => Lib.bytesWorld_cell W e s j hj) ⟨rfl, rfl, rfl, by rw [Lib.bytesWorld_size]; omega, fun k hk => Lib.bytesWorld_at_old W e s k hk⟩)
end
def numV : Int → List UInt8 → Int
  | n, [] => n
  | n, c :: r => numV (n * 10 + ((c.toNat : Int) - 48)) r
def lex_number.f (a0 : ByteArray) : Option (Int × ByteArray × Int × Int × Int × Bool) :=
  if a0.size ≤ 100000 then
    (if plen isDigitB a0.data.toList > 9 ∨ (plen isDigitB a0.data.toList > 1 ∧ (a0.data.toList.getD 0 0).toNat = 48) then some (2, ⟨#[]⟩, 0, 0, (plen isDigitB a0.data.toList : Nat), false)
     else some (2, ⟨#[]⟩, numV 0 (a0.data.toList.take (plen isDigitB a0.data.toList)), 0, (plen isDigitB a0.data.toList : Nat), true)) else none
set_option maxHeartbeats 4000000 in
theorem number_no (a0 : ByteArray) (n : Nat) (w : World) (hR : ∀ w, Calls Tryz.prog 158 #[.string a0, .func (.func 162) #[] #[]] w fun e w' => e = .returned (.int .i64 (n : Int)) ∧ Drawn0 w w')
    (h : 9 < n) :
    Calls Tryz.prog 163 #[.string a0] w fun e w' => e = .returned (.tuple #[.agg #[.int .i64 2, .string ⟨#[]⟩, .int .i64 0, .int .i64 0], .int .i64 (n : Int), .bool false]) ∧ Below w.heap.size w w' := by
  have HR := Aside0.mk hR
  clear hR
  have e1 : decide ((n : Int) > 9) = true := decide_eq_true (by omega)
  go_enter Tryz.func163, Tryz.ntmps163
  go_wp2_with (go_at_call 158; (with_reducible refine (HR.out _).mono ?_); rintro e w' ⟨rfl, ⟨nd, rfl⟩⟩)
  exact bodyPost_ret (v := .tuple #[.agg #[.int .i64 2, .string ⟨#[]⟩, .int .i64 0, .int .i64 0], .int .i64 (n : Int), .bool false]) (by simp [results, Tryz.results163, go_sem]) rfl ⟨rfl, by repeat (first | exact Below.refl _ _ | refine Below.setCell ?_ (by simp) _ | refine Below.alloc ?_ (by simp) _ | apply pw_below_drewN | apply below_drew1)⟩
set_option maxHeartbeats 4000000 in
theorem number_zero (a0 : ByteArray) (n : Nat) (w : World) (hR : ∀ w, Calls Tryz.prog 158 #[.string a0, .func (.func 162) #[] #[]] w fun e w' => e = .returned (.int .i64 (n : Int)) ∧ Drawn0 w w')
    (h : ¬ 9 < n) (h1 : 1 < n) (h2 : n ≤ a0.size) (hz : a0[0]!.toNat = 48) :
    Calls Tryz.prog 163 #[.string a0] w fun e w' => e = .returned (.tuple #[.agg #[.int .i64 2, .string ⟨#[]⟩, .int .i64 0, .int .i64 0], .int .i64 (n : Int), .bool false]) ∧ Below w.heap.size w w' := by
  have HR := Aside0.mk hR
  clear hR
  have e1 : decide ((n : Int) > 9) = false := decide_eq_false (by omega)
  have e2 : decide ((n : Int) > 1) = true := decide_eq_true (by omega)
  have e3 : decide ((0 : Int) < (a0.size : Int)) = true := decide_eq_true (by omega)
  have h0 : 0 < a0.size := by omega
  have e4 : ((a0[0].toNat : Int) == 48) = true := by
    have : a0[0]! = a0[0] := getElem!_pos a0 0 h0
    rw [this] at hz
    simp; omega
  clear hz
  go_enter Tryz.func163, Tryz.ntmps163
  go_wp2_with (go_at_call 158; (with_reducible refine (HR.out _).mono ?_); rintro e w' ⟨rfl, ⟨nd, rfl⟩⟩)
  exact bodyPost_ret (v := .tuple #[.agg #[.int .i64 2, .string ⟨#[]⟩, .int .i64 0, .int .i64 0], .int .i64 (n : Int), .bool false]) (by simp [results, Tryz.results163, go_sem]) rfl ⟨rfl, by repeat (first | exact Below.refl _ _ | refine Below.setCell ?_ (by simp) _ | refine Below.alloc ?_ (by simp) _ | apply pw_below_drewN | apply below_drew1)⟩
set_option maxHeartbeats 8000000 in
theorem number_yes (a0 : ByteArray) (n : Nat) (w : World) (hR : ∀ w, Calls Tryz.prog 158 #[.string a0, .func (.func 162) #[] #[]] w fun e w' => e = .returned (.int .i64 (n : Int)) ∧ Drawn0 w w')
    (h : ¬ 9 < n) (h2 : n ≤ a0.size) (h3 : (n ≤ 1 ∨ ((a0.data.toList.getD 0 0).toNat : Int) ≠ 48)) (hd : ∀ c ∈ a0.data.toList.take n, isDigitB c = true) :
    Calls Tryz.prog 163 #[.string a0] w fun e w' => e = .returned (.tuple #[.agg #[.int .i64 2, .string ⟨#[]⟩, .int .i64 (numV 0 (a0.data.toList.take n)), .int .i64 0], .int .i64 (n : Int), .bool true]) ∧ Below w.heap.size w w' := by
  have HR := Aside0.mk hR
  have HD := Aside0.mk hd
  clear hR hd
  have e1 : decide ((n : Int) > 9) = false := decide_eq_false (by omega)
  have i1 : 0 ≤ (n : Int) := by omega
  have i2 : (n : Int) ≤ (a0.size : Int) := by omega
  have hds : (a0.extract 0 n).data.toList = a0.data.toList.take n := by rw [ByteArray.data_extract]; simp
  have hsz : (a0.extract 0 n).size = n := by
    have := congrArg List.length hds
    rw [List.length_take] at this
    have h4 : a0.data.toList.length = a0.size := by simp
    have h5 : (a0.extract 0 n).data.toList.length = (a0.extract 0 n).size := by simp
    omega
  replace hds := Aside0.mk hds
  have hne : n ≤ 1 ∨ (1 < n ∧ ((a0.data.toList.getD 0 0).toNat : Int) ≠ 48) := by rcases h3 with h3 | h3 <;> omega
  clear h3
  have hT := Aside0.mk (show (a0.data.toList.take n).length = n by rw [List.length_take]; have h4 : a0.data.toList.length = a0.size := by simp
                                                                   omega)
  generalize a0.data.toList.take n = ds at HD hds hT ⊢
  generalize hres : numV 0 ds = R
  replace hres := Aside0.mk hres
  replace hsz := Aside0.mk hsz
  rcases hne with h1 | ⟨h1, h4⟩
  · have e2 : decide ((n : Int) > 1) = false := decide_eq_false (by omega)
    go_enter Tryz.func163, Tryz.ntmps163
    go_wp2_with (first | (go_at_call 158; (with_reducible refine (HR.out _).mono ?_); rintro e w' ⟨rfl, ⟨nd, rfl⟩⟩) | ((with_reducible refine gate_dst (N := 28) rfl ?_); refine bytes_event ?hg (src := 9) (dst := 221) (s := a0.extract 0 n) Tryz.underlying9 Tryz.underlying221 Tryz.underlying5 ?hr ?_; (case hg => rfl); (case hr => intro hcv; go_simp; done); intro g c w1 hg hcell hb; replace hg := Aside0.mk hg; rw [hsz.out] at hcell ⊢; rw [hds.out] at hcell))
    have G2 : w1.heap[w.heap.size]? = some (.cells #[.int .i64 0, .string ⟨#[]⟩, .int .i64 0, .int .i64 0] 155 (0, 0)) := by
      rw [hb.block _ (by simp; omega), Below.heap_alloc _ _ _ (by simp)]
      exact heap_alloc_new w _
    have G6 : w1.heap[w.heap.size + 1]? = some (.cells #[.int .i64 2, .string ⟨#[]⟩, .int .i64 0, .int .i64 0] 155 (0, 0)) := by
      rw [hb.block _ (by simp)]
      have e : w.heap.size + 1 = ((w.alloc (.cells #[.int .i64 0, .string ⟨#[]⟩, .int .i64 0, .int .i64 0] 155)).drewN nd).heap.size := by simp
      rw [e]
      exact heap_alloc_new _ _
    have HB1 : Below w.heap.size w w1 := (Below.alloc (pw_below_drewN (Below.alloc (Below.refl _ _) (Nat.le_refl _) _) nd) (by simp) _).trans (hb.mono (by simp; omega))
    have hg' : g = w.heap.size + 2 := by rw [hg.out]; simp
    clear hb hg e1 e2
    replace hg' := Aside0.mk hg'
    replace hcell := Aside0.mk hcell
    go_loopg [8, 30] (n + 1) (fun kq v8 v30 w' => ∃ (i : Nat) (N : Int), kq + i = n + 1 ∧ v30 = .int .i64 (i : Int) ∧ i ≤ n ∧ 0 ≤ N ∧ N < 10 ^ i ∧ numV N (ds.drop i) = R ∧ w'.heap[w.heap.size]? = some (.cells #[.int .i64 0, .string ⟨#[]⟩, .int .i64 0, .int .i64 0] 155 (0, 0)) ∧ w'.heap[w.heap.size + 1]? = some (.cells #[.int .i64 2, .string ⟨#[]⟩, .int .i64 N, .int .i64 0] 155 (0, 0)) ∧ (∀ j, j < n → w'.cell? ⟨g, j, none⟩ = some (.int .u8 (ds.getD j 0).toNat)) ∧ Below w.heap.size w w')
    case atStart => exact ⟨0, 0, by omega, rfl, by omega, by omega, by omega, by rw [List.drop_zero]; exact hres.out, G2, G6, hcell.out, HB1⟩
    case round =>
      clear G2 G6 HB1 hcell hres
      obtain ⟨i, N, hq, rfl, hi, hN0, hN1, hl, G2, G6, hc, hB⟩ := hrel
      cases gk with
      | zero => exfalso; omega
      | succ k1 =>
      replace hl := Aside0.mk hl
      replace hB := Aside0.mk hB
      by_cases hlt : i < n
      · have hlt1 : decide ((i : Int) < (n : Int)) = true := decide_eq_true (by omega)
        have hx := hc i hlt
        have hp9 : (10 : Int) ^ i ≤ 10 ^ 8 := by exact_mod_cast Nat.pow_le_pow_right (by omega) (by omega)
        have hps : (10 : Int) ^ (i + 1) = 10 ^ i * 10 := Int.pow_succ 10 i
        have hdl : i < ds.length := by rw [hT.out]; exact hlt
        have hdrop : ds.drop i = ds.getD i 0 :: ds.drop (i + 1) := by
          rw [List.drop_eq_getElem_cons hdl, List.getD_eq_getElem?_getD, List.getElem?_eq_getElem hdl]; rfl
        have hdig := HD.out (ds.getD i 0) (by rw [List.getD_eq_getElem?_getD, List.getElem?_eq_getElem hdl]; exact List.getElem_mem hdl)
        have hl2 : numV (N * 10 + (((ds.getD i 0).toNat : Int) - 48)) (ds.drop (i + 1)) = R := by rw [← hl.out, hdrop]; rfl
        unfold isDigitB at hdig
        have hdig := of_decide_eq_true hdig
        replace hl2 := Aside0.mk hl2
        clear hdrop hl
        generalize (ds.getD i 0).toNat = d at hx hdig hl2
        have d1 : 48 ≤ (d : Int) := by omega
        have d2 : (d : Int) ≤ 57 := by omega
        have n2 : N ≤ 99999999 := by omega
        have n3 : N * 10 + ((d : Int) - 48) < 10 ^ (i + 1) := by omega
        replace n3 := Aside0.mk n3
        have C6 := blk_cell G6 2
        have F6 := blk_frozen G6 2
        replace G2 := Aside0.mk G2
        replace G6 := Aside0.mk G6
        replace hc := Aside0.mk hc
        have hi0 : 0 ≤ (i : Int) := by omega
        have hi1 : (i : Int) < (n : Int) := by omega
        clear hps hp9 hdig
        go_wp2
        go_roundg k1
        case measure => exact Nat.lt_succ_self _
        case rel =>
          exact ⟨i + 1, N * 10 + ((d : Int) - 48), by omega, by rw [show ((i : Int) + 1) = ((i + 1 : Nat) : Int) by omega], by omega, by omega, n3.out, hl2.out, blk_far G2.out (by simp) _, by have := blk_set G6.out 2 (.int .i64 (N * 10 + ((d : Int) - 48))); simpa using this, fun j hj => by
            have h3 : ¬ (w.heap.size + 1 = g) := by have := hg'.out; omega
            rw [cell_far (a := ⟨g, j, none⟩) (by simpa using fun e => h3 e.symm)]; exact hc.out j hj, Below.setCell hB.out (by simp) _⟩
      · have hlt1 : decide ((i : Int) < (n : Int)) = false := decide_eq_false (by omega)
        have hfin : N = R := by
          have := hl.out
          rw [List.drop_of_length_le (by have := hT.out; omega)] at this
          exact this
        subst hfin
        have C60 := blk_cell G6 0
        have C61 := blk_cell G6 1
        have C62 := blk_cell G6 2
        have C63 := blk_cell G6 3
        have C20 := blk_cell G2 0
        have C21 := blk_cell G2 1
        have C22 := blk_cell G2 2
        have C23 := blk_cell G2 3
        have F20 := blk_frozen G2 0
        have F21 := blk_frozen G2 1
        have F22 := blk_frozen G2 2
        have F23 := blk_frozen G2 3
        replace hc := Aside0.mk hc
        clear hN1 hN0 G6 hl
        replace G2 := Aside0.mk G2
        go_wp2
        have G := blk_set (blk_set (blk_set (blk_set G2.out 0 (.int .i64 2)) 1 (.string ⟨#[]⟩)) 2 (.int .i64 N)) 3 (.int .i64 0)
        have Q0 := blk_cell G 0
        have Q1 := blk_cell G 1
        have Q2 := blk_cell G 2
        have Q3 := blk_cell G 3
        have HBe : Below w.heap.size w ((((wr.setCell ⟨w.heap.size, 0, none⟩ (.int .i64 2)).setCell ⟨w.heap.size, 1, none⟩ (.string ⟨#[]⟩)).setCell ⟨w.heap.size, 2, none⟩ (.int .i64 N)).setCell ⟨w.heap.size, 3, none⟩ (.int .i64 0)) := Below.setCell (Below.setCell (Below.setCell (Below.setCell hB.out (Nat.le_refl _) _) (Nat.le_refl _) _) (Nat.le_refl _) _) (Nat.le_refl _) _
        clear G
        generalize ((((wr.setCell ⟨w.heap.size, 0, none⟩ (.int .i64 2)).setCell ⟨w.heap.size, 1, none⟩ (.string ⟨#[]⟩)).setCell ⟨w.heap.size, 2, none⟩ (.int .i64 N)).setCell ⟨w.heap.size, 3, none⟩ (.int .i64 0)) = we at Q0 Q1 Q2 Q3 HBe ⊢
        exact bodyPost_ret (v := .tuple #[.agg #[.int .i64 2, .string ⟨#[]⟩, .int .i64 N, .int .i64 0], .int .i64 (n : Int), .bool true]) (by simp [results, Tryz.results163, go_sem, Q0, Q1, Q2, Q3]) rfl ⟨rfl, HBe⟩
  · have e2 : decide ((n : Int) > 1) = true := decide_eq_true (by omega)
    have e3 : decide ((0 : Int) < (a0.size : Int)) = true := decide_eq_true (by omega)
    have h0 : 0 < a0.size := by omega
    have e4 : ((a0[0].toNat : Int) == 48) = false := by
      have : a0.data.toList.getD 0 0 = a0[0] := by
        rw [List.getD_eq_getElem?_getD, List.getElem?_eq_getElem (by simpa using h0)]; rfl
      rw [this] at h4
      simpa using h4
    clear h4
    go_enter Tryz.func163, Tryz.ntmps163
    go_wp2_with (first | (go_at_call 158; (with_reducible refine (HR.out _).mono ?_); rintro e w' ⟨rfl, ⟨nd, rfl⟩⟩) | ((with_reducible refine gate_dst (N := 28) rfl ?_); refine bytes_event ?hg (src := 9) (dst := 221) (s := a0.extract 0 n) Tryz.underlying9 Tryz.underlying221 Tryz.underlying5 ?hr ?_; (case hg => rfl); (case hr => intro hcv; go_simp; done); intro g c w1 hg hcell hb; replace hg := Aside0.mk hg; rw [hsz.out] at hcell ⊢; rw [hds.out] at hcell))
    have G2 : w1.heap[w.heap.size]? = some (.cells #[.int .i64 0, .string ⟨#[]⟩, .int .i64 0, .int .i64 0] 155 (0, 0)) := by
      rw [hb.block _ (by simp; omega), Below.heap_alloc _ _ _ (by simp)]
      exact heap_alloc_new w _
    have G6 : w1.heap[w.heap.size + 1]? = some (.cells #[.int .i64 2, .string ⟨#[]⟩, .int .i64 0, .int .i64 0] 155 (0, 0)) := by
      rw [hb.block _ (by simp)]
      have e : w.heap.size + 1 = ((w.alloc (.cells #[.int .i64 0, .string ⟨#[]⟩, .int .i64 0, .int .i64 0] 155)).drewN nd).heap.size := by simp
      rw [e]
      exact heap_alloc_new _ _
    have HB1 : Below w.heap.size w w1 := (Below.alloc (pw_below_drewN (Below.alloc (Below.refl _ _) (Nat.le_refl _) _) nd) (by simp) _).trans (hb.mono (by simp; omega))
    have hg' : g = w.heap.size + 2 := by rw [hg.out]; simp
    clear hb hg e1 e2
    replace hg' := Aside0.mk hg'
    replace hcell := Aside0.mk hcell
    go_loopg [8, 30] (n + 1) (fun kq v8 v30 w' => ∃ (i : Nat) (N : Int), kq + i = n + 1 ∧ v30 = .int .i64 (i : Int) ∧ i ≤ n ∧ 0 ≤ N ∧ N < 10 ^ i ∧ numV N (ds.drop i) = R ∧ w'.heap[w.heap.size]? = some (.cells #[.int .i64 0, .string ⟨#[]⟩, .int .i64 0, .int .i64 0] 155 (0, 0)) ∧ w'.heap[w.heap.size + 1]? = some (.cells #[.int .i64 2, .string ⟨#[]⟩, .int .i64 N, .int .i64 0] 155 (0, 0)) ∧ (∀ j, j < n → w'.cell? ⟨g, j, none⟩ = some (.int .u8 (ds.getD j 0).toNat)) ∧ Below w.heap.size w w')
    case atStart => exact ⟨0, 0, by omega, rfl, by omega, by omega, by omega, by rw [List.drop_zero]; exact hres.out, G2, G6, hcell.out, HB1⟩
    case round =>
      clear G2 G6 HB1 hcell hres
      obtain ⟨i, N, hq, rfl, hi, hN0, hN1, hl, G2, G6, hc, hB⟩ := hrel
      cases gk with
      | zero => exfalso; omega
      | succ k1 =>
      replace hl := Aside0.mk hl
      replace hB := Aside0.mk hB
      by_cases hlt : i < n
      · have hlt1 : decide ((i : Int) < (n : Int)) = true := decide_eq_true (by omega)
        have hx := hc i hlt
        have hp9 : (10 : Int) ^ i ≤ 10 ^ 8 := by exact_mod_cast Nat.pow_le_pow_right (by omega) (by omega)
        have hps : (10 : Int) ^ (i + 1) = 10 ^ i * 10 := Int.pow_succ 10 i
        have hdl : i < ds.length := by rw [hT.out]; exact hlt
        have hdrop : ds.drop i = ds.getD i 0 :: ds.drop (i + 1) := by
          rw [List.drop_eq_getElem_cons hdl, List.getD_eq_getElem?_getD, List.getElem?_eq_getElem hdl]; rfl
        have hdig := HD.out (ds.getD i 0) (by rw [List.getD_eq_getElem?_getD, List.getElem?_eq_getElem hdl]; exact List.getElem_mem hdl)
        have hl2 : numV (N * 10 + (((ds.getD i 0).toNat : Int) - 48)) (ds.drop (i + 1)) = R := by rw [← hl.out, hdrop]; rfl
        unfold isDigitB at hdig
        have hdig := of_decide_eq_true hdig
        replace hl2 := Aside0.mk hl2
        clear hdrop hl
        generalize (ds.getD i 0).toNat = d at hx hdig hl2
        have d1 : 48 ≤ (d : Int) := by omega
        have d2 : (d : Int) ≤ 57 := by omega
        have n2 : N ≤ 99999999 := by omega
        have n3 : N * 10 + ((d : Int) - 48) < 10 ^ (i + 1) := by omega
        replace n3 := Aside0.mk n3
        have C6 := blk_cell G6 2
        have F6 := blk_frozen G6 2
        replace G2 := Aside0.mk G2
        replace G6 := Aside0.mk G6
        replace hc := Aside0.mk hc
        have hi0 : 0 ≤ (i : Int) := by omega
        have hi1 : (i : Int) < (n : Int) := by omega
        clear hps hp9 hdig
        go_wp2
        go_roundg k1
        case measure => exact Nat.lt_succ_self _
        case rel =>
          exact ⟨i + 1, N * 10 + ((d : Int) - 48), by omega, by rw [show ((i : Int) + 1) = ((i + 1 : Nat) : Int) by omega], by omega, by omega, n3.out, hl2.out, blk_far G2.out (by simp) _, by have := blk_set G6.out 2 (.int .i64 (N * 10 + ((d : Int) - 48))); simpa using this, fun j hj => by
            have h3 : ¬ (w.heap.size + 1 = g) := by have := hg'.out; omega
            rw [cell_far (a := ⟨g, j, none⟩) (by simpa using fun e => h3 e.symm)]; exact hc.out j hj, Below.setCell hB.out (by simp) _⟩
      · have hlt1 : decide ((i : Int) < (n : Int)) = false := decide_eq_false (by omega)
        have hfin : N = R := by
          have := hl.out
          rw [List.drop_of_length_le (by have := hT.out; omega)] at this
          exact this
        subst hfin
        have C60 := blk_cell G6 0
        have C61 := blk_cell G6 1
        have C62 := blk_cell G6 2
        have C63 := blk_cell G6 3
        have C20 := blk_cell G2 0
        have C21 := blk_cell G2 1
        have C22 := blk_cell G2 2
        have C23 := blk_cell G2 3
        have F20 := blk_frozen G2 0
        have F21 := blk_frozen G2 1
        have F22 := blk_frozen G2 2
        have F23 := blk_frozen G2 3
        replace hc := Aside0.mk hc
        clear hN1 hN0 G6 hl
        replace G2 := Aside0.mk G2
        go_wp2
        have G := blk_set (blk_set (blk_set (blk_set G2.out 0 (.int .i64 2)) 1 (.string ⟨#[]⟩)) 2 (.int .i64 N)) 3 (.int .i64 0)
        have Q0 := blk_cell G 0
        have Q1 := blk_cell G 1
        have Q2 := blk_cell G 2
        have Q3 := blk_cell G 3
        have HBe : Below w.heap.size w ((((wr.setCell ⟨w.heap.size, 0, none⟩ (.int .i64 2)).setCell ⟨w.heap.size, 1, none⟩ (.string ⟨#[]⟩)).setCell ⟨w.heap.size, 2, none⟩ (.int .i64 N)).setCell ⟨w.heap.size, 3, none⟩ (.int .i64 0)) := Below.setCell (Below.setCell (Below.setCell (Below.setCell hB.out (Nat.le_refl _) _) (Nat.le_refl _) _) (Nat.le_refl _) _) (Nat.le_refl _) _
        clear G
        generalize ((((wr.setCell ⟨w.heap.size, 0, none⟩ (.int .i64 2)).setCell ⟨w.heap.size, 1, none⟩ (.string ⟨#[]⟩)).setCell ⟨w.heap.size, 2, none⟩ (.int .i64 N)).setCell ⟨w.heap.size, 3, none⟩ (.int .i64 0)) = we at Q0 Q1 Q2 Q3 HBe ⊢
        exact bodyPost_ret (v := .tuple #[.agg #[.int .i64 2, .string ⟨#[]⟩, .int .i64 N, .int .i64 0], .int .i64 (n : Int), .bool true]) (by simp [results, Tryz.results163, go_sem, Q0, Q1, Q2, Q3]) rfl ⟨rfl, HBe⟩
theorem plen_all (p : UInt8 → Bool) : ∀ (l : List UInt8) (c : UInt8), c ∈ l.take (plen p l) → p c = true
  | [], c, h => by simp [plen] at h
  | x :: r, c, h => by
    unfold plen at h
    by_cases hx : p x = true
    · rw [if_pos hx, List.take_succ_cons, List.mem_cons] at h
      rcases h with rfl | h
      · exact hx
      · exact plen_all p r c h
    · rw [if_neg hx] at h; simp at h
theorem lex_number.calls (a0 : ByteArray) (r1 : Int) (r2 : ByteArray) (r3 : Int) (r4 : Int) (r5 : Int) (r6 : Bool) (w : World) (h : lex_number.f a0 = some (r1, r2, r3, r4, r5, r6)) :
    Calls Tryz.prog 163 #[.string a0] w fun e w' => e = .returned (.tuple #[.agg #[.int .i64 r1, .string r2, .int .i64 r3, .int .i64 r4], .int .i64 r5, .bool r6]) ∧ Below w.heap.size w w' := by
  unfold lex_number.f at h
  by_cases hs : a0.size ≤ 100000
  · rw [if_pos hs] at h
    have hR := fun w => lex_runDigit.calls a0 (plen isDigitB a0.data.toList : Nat) w (by unfold lex_runDigit.f; rw [if_pos hs])
    have hle := plen_le isDigitB a0.data.toList
    have hsz : a0.data.toList.length = a0.size := by simp
    have hall := plen_all isDigitB a0.data.toList
    generalize plen isDigitB a0.data.toList = n at h hR hle hall
    by_cases h9 : 9 < n
    · rw [if_pos (Or.inl h9)] at h
      simp only [Option.some.injEq, Prod.mk.injEq] at h
      obtain ⟨rfl, rfl, rfl, rfl, rfl, rfl⟩ := h
      exact number_no a0 n w hR h9
    · by_cases h1 : n > 1 ∧ (a0.data.toList.getD 0 0).toNat = 48
      · rw [if_pos (Or.inr h1)] at h
        simp only [Option.some.injEq, Prod.mk.injEq] at h
        obtain ⟨rfl, rfl, rfl, rfl, rfl, rfl⟩ := h
        refine number_zero a0 n w hR h9 h1.1 (by omega) ?_
        have h0 : 0 < a0.size := by omega
        rw [getElem!_pos a0 0 h0]
        have : a0.data.toList.getD 0 0 = a0[0] := by
          rw [List.getD_eq_getElem?_getD, List.getElem?_eq_getElem (by simpa using h0)]; rfl
        rw [← this]; exact h1.2
      · rw [if_neg (by omega)] at h
        simp only [Option.some.injEq, Prod.mk.injEq] at h
        obtain ⟨rfl, rfl, rfl, rfl, rfl, rfl⟩ := h
        exact number_yes a0 n w hR h9 (by omega) (by omega) hall
  · rw [if_neg hs] at h; cases h
end Go.Proofs.YtaofmmnfenlofaaGreatDoor.QTc
namespace Go.Proofs.YtaofmmnfenlofaaGreatDoor.QTc
open Go.RowKit Go.Proofs.YtaofmmnfenlofaaGreatDoorW.PrintWords Go.Proofs.YtaofmmnfenlofaaGreatDoorW.PrintLast Go.Proofs.YtaofmmnfenlofaaGreatDoorW.PrintMore
attribute [local go_sem] max2_int min2_int max_two min_two max_three min_three max_four min_four
set_option linter.unusedVariables false
set_option linter.unusedSimpArgs false
def lex_token.f (k : Nat) (a0 : ByteArray) : Option (Int × ByteArray × Int × Int × Int × Bool) := if 0 < (a0.size : Int) then ((lex_isLetter.f (bt a0 0)).bind fun t126 => (if t126 = true then ((lex_name.f k a0).bind fun bt127 => (some (bt127.1, bt127.2.1, bt127.2.2.1, bt127.2.2.2.1, bt127.2.2.2.2.1, bt127.2.2.2.2.2))) else ((lex_isDigit.f (bt a0 0)).bind fun t133 => (if t133 = true then ((lex_number.f a0).bind fun bt134 => (some (bt134.1, bt134.2.1, bt134.2.2.1, bt134.2.2.2.1, bt134.2.2.2.2.1, bt134.2.2.2.2.2))) else ((strings_HasPrefix.f a0 (⟨#[59]⟩ : ByteArray)).bind fun t140 => (if t140 = true then (some (3, (⟨#[59]⟩ : ByteArray), 0, 0, 1, true)) else (some (0, (⟨#[]⟩ : ByteArray), 0, 0, 0, false)))))))) else (none)
set_option maxHeartbeats 8000000 in
set_option maxRecDepth 100000 in
theorem lex_token.calls (k : Nat) (a0 : ByteArray) (r1 : Int) (r2 : ByteArray) (r3 : Int) (r4 : Int) (r5 : Int) (r6 : Bool) (w : World) (hT : TabW w) (h : lex_token.f k a0 = some (r1, r2, r3, r4, r5, r6)) :
  Calls Tryz.prog 136 #[.string a0] w fun e w' => e = .returned (.tuple #[.agg #[.int .i64 r1, .string r2, .int .i64 r3, .int .i64 r4], .int .i64 r5, .bool r6]) ∧ Below w.heap.size w w' := by
 have HT := Aside0.mk hT
 clear hT
 have hu155 := Tryz.underlying155
 have HB := Aside0.mk (Below.refl w.heap.size w)
 have H : (if 0 < (a0.size : Int) then ((lex_isLetter.f (bt a0 0)).bind fun t126 => (if t126 = true then ((lex_name.f k a0).bind fun bt127 => (some (bt127.1, bt127.2.1, bt127.2.2.1, bt127.2.2.2.1, bt127.2.2.2.2.1, bt127.2.2.2.2.2))) else ((lex_isDigit.f (bt a0 0)).bind fun t133 => (if t133 = true then ((lex_number.f a0).bind fun bt134 => (some (bt134.1, bt134.2.1, bt134.2.2.1, bt134.2.2.2.1, bt134.2.2.2.2.1, bt134.2.2.2.2.2))) else ((strings_HasPrefix.f a0 (⟨#[59]⟩ : ByteArray)).bind fun t140 => (if t140 = true then (some (3, (⟨#[59]⟩ : ByteArray), 0, 0, 1, true)) else (some (0, (⟨#[]⟩ : ByteArray), 0, 0, 0, false)))))))) else (none)) = some (r1, r2, r3, r4, r5, r6) := h
 clear h
 by_cases c2 : 0 < (a0.size : Int)
 ·rw [if_pos c2] at H
  have c2b0 : decide (0 < (a0.size : Int)) = true := decide_eq_true c2
  have c2b1 : decide (0 < a0.size) = true := decide_eq_true (by omega)
  clear c2
  replace H := Option.bind_eq_some_iff.mp H
  obtain ⟨t126, A40, H⟩ := H
  replace H : (if t126 = true then ((lex_name.f k a0).bind fun bt127 => (some (bt127.1, bt127.2.1, bt127.2.2.1, bt127.2.2.2.1, bt127.2.2.2.2.1, bt127.2.2.2.2.2))) else ((lex_isDigit.f (bt a0 0)).bind fun t133 => (if t133 = true then ((lex_number.f a0).bind fun bt134 => (some (bt134.1, bt134.2.1, bt134.2.2.1, bt134.2.2.2.1, bt134.2.2.2.2.1, bt134.2.2.2.2.2))) else ((strings_HasPrefix.f a0 (⟨#[59]⟩ : ByteArray)).bind fun t140 => (if t140 = true then (some (3, (⟨#[59]⟩ : ByteArray), 0, 0, 1, true)) else (some (0, (⟨#[]⟩ : ByteArray), 0, 0, 0, false))))))) = some (r1, r2, r3, r4, r5, r6) := H
  have A4 := Aside0.mk A40
  clear A40
  by_cases c5 : t126 = true
  ·subst c5
   have H1 : ((lex_name.f k a0).bind fun bt127 => (some (bt127.1, bt127.2.1, bt127.2.2.1, bt127.2.2.2.1, bt127.2.2.2.2.1, bt127.2.2.2.2.2))) = some (r1, r2, r3, r4, r5, r6) := by rw [if_pos rfl] at H; exact H
   clear H
   have H := H1
   clear H1
   replace H := Option.bind_eq_some_iff.mp H
   obtain ⟨⟨t127, t128, t129, t130, t131, t132⟩, A60, H⟩ := H
   replace H : (some (t127, t128, t129, t130, t131, t132)) = some (r1, r2, r3, r4, r5, r6) := H
   have A6 := Aside0.mk A60
   clear A60
   simp only [Option.some.injEq, Prod.mk.injEq] at H
   obtain ⟨rfl, rfl, rfl, rfl, rfl, rfl⟩ := H
   go_enter Tryz.func136, Tryz.ntmps136
   go_wp2_with (first | ((with_reducible refine gate_dst (N := 2) rfl ?_); refine box_event ?hg (N := 2) ?hd (cs := #[.int .i64 0, .string (⟨#[]⟩ : ByteArray), .int .i64 0, .int .i64 0]) (t := 155) ?hr ?_; (case hd => rfl); (case hg => rfl); (case hr => first | (go_simp; done) | (go_simp; rfl)); intro gb125 hg w7 hbox hb; have n0_ := Aside0.mk (below_step (by repeat (first | (with_reducible first | exact HB.out | apply below_alloc | apply pw_below_drewN | apply below_drew1) | exact HB.out)) hb); have n1_ := Aside0.mk (hbox); have n2_ := Aside0.mk ((by rw [hg]; exact (below_size (by repeat (first | (with_reducible first | exact HB.out | apply below_alloc | apply pw_below_drewN | apply below_drew1) | exact HB.out))) : w.heap.size ≤ gb125)); have n3_ := Aside0.mk ((by rw [hg]; exact (below_size (by repeat (first | (with_reducible first | exact HB.out | apply below_alloc | apply pw_below_drewN | apply below_drew1) | exact HB.out))) : w.heap.size ≤ gb125)); clear HB; have HB := n0_; have BK125 := n1_; have GW125 := n2_; have GE125 := n3_; clear n0_ n1_ n2_ n3_; clear hb hbox hg; have p3 : 0 ≤ (0 : Int) := (by omega); have q3 : 0 < a0.size := (by have : (0 : Int) < (a0.size : Int) := of_decide_eq_true (by first | (with_reducible assumption) | assumption); omega); have hx3 : ∀ h : 0 < a0.size, ((a0[0]'h).toNat : Int) = bt a0 0 := bt_at a0 0; clear p3; have qi3 : (0 < (a0.size : Int)) = True := eq_true (of_decide_eq_true (by first | (with_reducible assumption) | assumption)); replace q3 := eq_true q3) | ((with_reducible refine gate_callee (f := 160) rfl ?_); refine goesL_ (some 8) rfl rfl Tryz.func160 (by kernel_rfl) rfl #[.int .u8 (bt a0 0)] rfl (by (try simp only [List.map_toArray, List.map_cons, List.map_nil]); first | done | rfl | (simp only [List.length_drop, List.length_take]; rfl)) ?_; (with_reducible refine (lex_isLetter.calls (bt a0 0) true _ A4.out).mono ?_); rintro e w' ⟨rfl, ⟨nd, rfl⟩⟩; refine ⟨_, rfl, ?_⟩; (try (rw [drewN_self w7]; generalize hq_ : World.drewN w7 _ = w7; have n0_ : Aside0 (w7.heap[gb125]? = some (.cells #[.int .i64 0, .string (⟨#[]⟩ : ByteArray), .int .i64 0, .int .i64 0] 155 (0, 0))) := ⟨by rw [← hq_]; exact (by (with_reducible repeat (first | refine blk_drewN ?_ _ | refine blk_drew ?_ | refine blk_alloc ?_ _)); exact BK125.out)⟩; have n1_ : Aside0 (Below w.heap.size w w7) := ⟨by rw [← hq_]; exact (by repeat (first | (with_reducible first | exact HB.out | apply below_alloc | apply pw_below_drewN | apply below_drew1 | refine below_set ?_ GE125.out) | exact HB.out))⟩; clear BK125 HB hq_; have BK125 := n0_; have HB := n1_; clear n0_ n1_))) | ((with_reducible refine gate_callee (f := 161) rfl ?_); refine goesL_ (some 10) rfl rfl Tryz.func161 (by kernel_rfl) rfl #[.string a0] rfl (by (try simp only [List.map_toArray, List.map_cons, List.map_nil]); first | done | rfl | (simp only [List.length_drop, List.length_take]; rfl)) ?_; (with_reducible refine (lex_name.calls (hT := ?sideT) k a0 t127 t128 t129 t130 t131 t132 _ A6.out).mono ?_); (case sideT => first | with_reducible exact HT.out | refine TabW.below HT.out ?_; repeat (first | (with_reducible first | exact HB.out | apply below_alloc | apply pw_below_drewN | apply below_drew1 | refine below_set ?_ GE125.out) | exact HB.out | exact Below.refl _ _)); rintro e w8 ⟨rfl, hb⟩; refine ⟨_, rfl, ?_⟩; have n0_ := Aside0.mk (blk_below (g := gb125) (o := .cells #[.int .i64 0, .string (⟨#[]⟩ : ByteArray), .int .i64 0, .int .i64 0] 155 (0, 0)) (by (with_reducible repeat (first | refine blk_drewN ?_ _ | refine blk_drew ?_ | refine blk_alloc ?_ _)); exact BK125.out) hb); have n1_ := Aside0.mk (below_step (by repeat (first | (with_reducible first | exact HB.out | apply below_alloc | apply pw_below_drewN | apply below_drew1 | refine below_set ?_ GE125.out) | exact HB.out)) hb); clear BK125; clear HB; have BK125 := n0_; have HB := n1_; clear n0_ n1_; (try clear hb); (try clear hb2); (try clear hk); (try clear hi); have hcz9_0 : w8.cell? ⟨gb125, 0, none⟩ = some (.int .i64 0) := (blk_cell BK125.out 0).trans rfl; have hcz9_1 : w8.cell? ⟨gb125, 1, none⟩ = some (.string (⟨#[]⟩ : ByteArray)) := (blk_cell BK125.out 1).trans rfl; have hcz9_2 : w8.cell? ⟨gb125, 2, none⟩ = some (.int .i64 0) := (blk_cell BK125.out 2).trans rfl; have hcz9_3 : w8.cell? ⟨gb125, 3, none⟩ = some (.int .i64 0) := (blk_cell BK125.out 3).trans rfl; have hfz9_0 := blk_frozen BK125.out 0; have hfz9_1 := blk_frozen BK125.out 1; have hfz9_2 := blk_frozen BK125.out 2; have hfz9_3 := blk_frozen BK125.out 3))
   refine bodyPost_ret (results_ctt rfl _ _ gb125 155 #[.int .i64 t127, .string t128, .int .i64 t129, .int .i64 t130] (0, 0) _ rfl (by (with_reducible repeat (first | refine blk_drewN ?_ _ | refine blk_drew ?_ | refine blk_alloc ?_ _)); refine blk_put (cs := #[.int .i64 t127, .string t128, .int .i64 t129, .int .i64 0]) ?_ 3 _ rfl; (with_reducible repeat (first | refine blk_drewN ?_ _ | refine blk_drew ?_ | refine blk_alloc ?_ _)); refine blk_put (cs := #[.int .i64 t127, .string t128, .int .i64 0, .int .i64 0]) ?_ 2 _ rfl; (with_reducible repeat (first | refine blk_drewN ?_ _ | refine blk_drew ?_ | refine blk_alloc ?_ _)); refine blk_put (cs := #[.int .i64 t127, .string (⟨#[]⟩ : ByteArray), .int .i64 0, .int .i64 0]) ?_ 1 _ rfl; (with_reducible repeat (first | refine blk_drewN ?_ _ | refine blk_drew ?_ | refine blk_alloc ?_ _)); refine blk_put (cs := #[.int .i64 0, .string (⟨#[]⟩ : ByteArray), .int .i64 0, .int .i64 0]) ?_ 0 _ rfl; (with_reducible repeat (first | refine blk_drewN ?_ _ | refine blk_drew ?_ | refine blk_alloc ?_ _)); exact BK125.out) Tryz.underlying155 rfl (by kernel_rfl)) rfl ?_
   exact ⟨by first | rfl | (simp [errW_none, errW_some] <;> rfl) | (simp [*, errW_none, errW_some] <;> rfl), by repeat (first | (with_reducible first | exact HB.out | apply below_alloc | apply pw_below_drewN | apply below_drew1 | refine below_set ?_ GE125.out) | exact HB.out)⟩
  ·replace c5 := Bool.eq_false_iff.mpr c5
   subst c5
   have H1 : ((lex_isDigit.f (bt a0 0)).bind fun t133 => (if t133 = true then ((lex_number.f a0).bind fun bt134 => (some (bt134.1, bt134.2.1, bt134.2.2.1, bt134.2.2.2.1, bt134.2.2.2.2.1, bt134.2.2.2.2.2))) else ((strings_HasPrefix.f a0 (⟨#[59]⟩ : ByteArray)).bind fun t140 => (if t140 = true then (some (3, (⟨#[59]⟩ : ByteArray), 0, 0, 1, true)) else (some (0, (⟨#[]⟩ : ByteArray), 0, 0, 0, false)))))) = some (r1, r2, r3, r4, r5, r6) := by rw [if_neg (show ¬ (false = true) by decide)] at H; exact H
   clear H
   have H := H1
   clear H1
   replace H := Option.bind_eq_some_iff.mp H
   obtain ⟨t133, A110, H⟩ := H
   replace H : (if t133 = true then ((lex_number.f a0).bind fun bt134 => (some (bt134.1, bt134.2.1, bt134.2.2.1, bt134.2.2.2.1, bt134.2.2.2.2.1, bt134.2.2.2.2.2))) else ((strings_HasPrefix.f a0 (⟨#[59]⟩ : ByteArray)).bind fun t140 => (if t140 = true then (some (3, (⟨#[59]⟩ : ByteArray), 0, 0, 1, true)) else (some (0, (⟨#[]⟩ : ByteArray), 0, 0, 0, false))))) = some (r1, r2, r3, r4, r5, r6) := H
   have A11 := Aside0.mk A110
   clear A110
   by_cases c12 : t133 = true
   ·subst c12
    have H1 : ((lex_number.f a0).bind fun bt134 => (some (bt134.1, bt134.2.1, bt134.2.2.1, bt134.2.2.2.1, bt134.2.2.2.2.1, bt134.2.2.2.2.2))) = some (r1, r2, r3, r4, r5, r6) := by rw [if_pos rfl] at H; exact H
    clear H
    have H := H1
    clear H1
    replace H := Option.bind_eq_some_iff.mp H
    obtain ⟨⟨t134, t135, t136, t137, t138, t139⟩, A130, H⟩ := H
    replace H : (some (t134, t135, t136, t137, t138, t139)) = some (r1, r2, r3, r4, r5, r6) := H
    have A13 := Aside0.mk A130
    clear A130
    simp only [Option.some.injEq, Prod.mk.injEq] at H
    obtain ⟨rfl, rfl, rfl, rfl, rfl, rfl⟩ := H
    go_enter Tryz.func136, Tryz.ntmps136
    go_wp2_with (first | ((with_reducible refine gate_dst (N := 2) rfl ?_); refine box_event ?hg (N := 2) ?hd (cs := #[.int .i64 0, .string (⟨#[]⟩ : ByteArray), .int .i64 0, .int .i64 0]) (t := 155) ?hr ?_; (case hd => rfl); (case hg => rfl); (case hr => first | (go_simp; done) | (go_simp; rfl)); intro gb125 hg w14 hbox hb; have n0_ := Aside0.mk (below_step (by repeat (first | (with_reducible first | exact HB.out | apply below_alloc | apply pw_below_drewN | apply below_drew1) | exact HB.out)) hb); have n1_ := Aside0.mk (hbox); have n2_ := Aside0.mk ((by rw [hg]; exact (below_size (by repeat (first | (with_reducible first | exact HB.out | apply below_alloc | apply pw_below_drewN | apply below_drew1) | exact HB.out))) : w.heap.size ≤ gb125)); have n3_ := Aside0.mk ((by rw [hg]; exact (below_size (by repeat (first | (with_reducible first | exact HB.out | apply below_alloc | apply pw_below_drewN | apply below_drew1) | exact HB.out))) : w.heap.size ≤ gb125)); clear HB; have HB := n0_; have BK125 := n1_; have GW125 := n2_; have GE125 := n3_; clear n0_ n1_ n2_ n3_; clear hb hbox hg; have p3 : 0 ≤ (0 : Int) := (by omega); have q3 : 0 < a0.size := (by have : (0 : Int) < (a0.size : Int) := of_decide_eq_true (by first | (with_reducible assumption) | assumption); omega); have hx3 : ∀ h : 0 < a0.size, ((a0[0]'h).toNat : Int) = bt a0 0 := bt_at a0 0; clear p3; have qi3 : (0 < (a0.size : Int)) = True := eq_true (of_decide_eq_true (by first | (with_reducible assumption) | assumption)); replace q3 := eq_true q3) | ((with_reducible refine gate_callee (f := 160) rfl ?_); refine goesL_ (some 8) rfl rfl Tryz.func160 (by kernel_rfl) rfl #[.int .u8 (bt a0 0)] rfl (by (try simp only [List.map_toArray, List.map_cons, List.map_nil]); first | done | rfl | (simp only [List.length_drop, List.length_take]; rfl)) ?_; (with_reducible refine (lex_isLetter.calls (bt a0 0) false _ A4.out).mono ?_); rintro e w' ⟨rfl, ⟨nd, rfl⟩⟩; refine ⟨_, rfl, ?_⟩; (try (rw [drewN_self w14]; generalize hq_ : World.drewN w14 _ = w14; have n0_ : Aside0 (w14.heap[gb125]? = some (.cells #[.int .i64 0, .string (⟨#[]⟩ : ByteArray), .int .i64 0, .int .i64 0] 155 (0, 0))) := ⟨by rw [← hq_]; exact (by (with_reducible repeat (first | refine blk_drewN ?_ _ | refine blk_drew ?_ | refine blk_alloc ?_ _)); exact BK125.out)⟩; have n1_ : Aside0 (Below w.heap.size w w14) := ⟨by rw [← hq_]; exact (by repeat (first | (with_reducible first | exact HB.out | apply below_alloc | apply pw_below_drewN | apply below_drew1 | refine below_set ?_ GE125.out) | exact HB.out))⟩; clear BK125 HB hq_; have BK125 := n0_; have HB := n1_; clear n0_ n1_)); have p10 : 0 ≤ (0 : Int) := (by omega); have q10 : 0 < a0.size := (by have : (0 : Int) < (a0.size : Int) := of_decide_eq_true (by first | (with_reducible assumption) | assumption); omega); have hx10 : ∀ h : 0 < a0.size, ((a0[0]'h).toNat : Int) = bt a0 0 := bt_at a0 0; clear p10; have qi10 : (0 < (a0.size : Int)) = True := eq_true (of_decide_eq_true (by first | (with_reducible assumption) | assumption)); replace q10 := eq_true q10) | ((with_reducible refine gate_callee (f := 162) rfl ?_); refine goesL_ (some 17) rfl rfl Tryz.func162 (by kernel_rfl) rfl #[.int .u8 (bt a0 0)] rfl (by (try simp only [List.map_toArray, List.map_cons, List.map_nil]); first | done | rfl | (simp only [List.length_drop, List.length_take]; rfl)) ?_; (with_reducible refine (lex_isDigit.calls (bt a0 0) true _ A11.out).mono ?_); rintro e w' ⟨rfl, ⟨nd, rfl⟩⟩; refine ⟨_, rfl, ?_⟩; (try (rw [drewN_self w14]; generalize hq_ : World.drewN w14 _ = w14; have n0_ : Aside0 (w14.heap[gb125]? = some (.cells #[.int .i64 0, .string (⟨#[]⟩ : ByteArray), .int .i64 0, .int .i64 0] 155 (0, 0))) := ⟨by rw [← hq_]; exact (by (with_reducible repeat (first | refine blk_drewN ?_ _ | refine blk_drew ?_ | refine blk_alloc ?_ _)); exact BK125.out)⟩; have n1_ : Aside0 (Below w.heap.size w w14) := ⟨by rw [← hq_]; exact (by repeat (first | (with_reducible first | exact HB.out | apply below_alloc | apply pw_below_drewN | apply below_drew1 | refine below_set ?_ GE125.out) | exact HB.out))⟩; clear BK125 HB hq_; have BK125 := n0_; have HB := n1_; clear n0_ n1_))) | ((with_reducible refine gate_callee (f := 163) rfl ?_); refine goesL_ (some 19) rfl rfl Tryz.func163 (by kernel_rfl) rfl #[.string a0] rfl (by (try simp only [List.map_toArray, List.map_cons, List.map_nil]); first | done | rfl | (simp only [List.length_drop, List.length_take]; rfl)) ?_; (with_reducible refine (lex_number.calls a0 t134 t135 t136 t137 t138 t139 _ A13.out).mono ?_); rintro e w15 ⟨rfl, hb⟩; refine ⟨_, rfl, ?_⟩; have n0_ := Aside0.mk (blk_below (g := gb125) (o := .cells #[.int .i64 0, .string (⟨#[]⟩ : ByteArray), .int .i64 0, .int .i64 0] 155 (0, 0)) (by (with_reducible repeat (first | refine blk_drewN ?_ _ | refine blk_drew ?_ | refine blk_alloc ?_ _)); exact BK125.out) hb); have n1_ := Aside0.mk (below_step (by repeat (first | (with_reducible first | exact HB.out | apply below_alloc | apply pw_below_drewN | apply below_drew1 | refine below_set ?_ GE125.out) | exact HB.out)) hb); clear BK125; clear HB; have BK125 := n0_; have HB := n1_; clear n0_ n1_; (try clear hb); (try clear hb2); (try clear hk); (try clear hi); have hcz16_0 : w15.cell? ⟨gb125, 0, none⟩ = some (.int .i64 0) := (blk_cell BK125.out 0).trans rfl; have hcz16_1 : w15.cell? ⟨gb125, 1, none⟩ = some (.string (⟨#[]⟩ : ByteArray)) := (blk_cell BK125.out 1).trans rfl; have hcz16_2 : w15.cell? ⟨gb125, 2, none⟩ = some (.int .i64 0) := (blk_cell BK125.out 2).trans rfl; have hcz16_3 : w15.cell? ⟨gb125, 3, none⟩ = some (.int .i64 0) := (blk_cell BK125.out 3).trans rfl; have hfz16_0 := blk_frozen BK125.out 0; have hfz16_1 := blk_frozen BK125.out 1; have hfz16_2 := blk_frozen BK125.out 2; have hfz16_3 := blk_frozen BK125.out 3))
    refine bodyPost_ret (results_ctt rfl _ _ gb125 155 #[.int .i64 t134, .string t135, .int .i64 t136, .int .i64 t137] (0, 0) _ rfl (by (with_reducible repeat (first | refine blk_drewN ?_ _ | refine blk_drew ?_ | refine blk_alloc ?_ _)); refine blk_put (cs := #[.int .i64 t134, .string t135, .int .i64 t136, .int .i64 0]) ?_ 3 _ rfl; (with_reducible repeat (first | refine blk_drewN ?_ _ | refine blk_drew ?_ | refine blk_alloc ?_ _)); refine blk_put (cs := #[.int .i64 t134, .string t135, .int .i64 0, .int .i64 0]) ?_ 2 _ rfl; (with_reducible repeat (first | refine blk_drewN ?_ _ | refine blk_drew ?_ | refine blk_alloc ?_ _)); refine blk_put (cs := #[.int .i64 t134, .string (⟨#[]⟩ : ByteArray), .int .i64 0, .int .i64 0]) ?_ 1 _ rfl; (with_reducible repeat (first | refine blk_drewN ?_ _ | refine blk_drew ?_ | refine blk_alloc ?_ _)); refine blk_put (cs := #[.int .i64 0, .string (⟨#[]⟩ : ByteArray), .int .i64 0, .int .i64 0]) ?_ 0 _ rfl; (with_reducible repeat (first | refine blk_drewN ?_ _ | refine blk_drew ?_ | refine blk_alloc ?_ _)); exact BK125.out) Tryz.underlying155 rfl (by kernel_rfl)) rfl ?_
    exact ⟨by first | rfl | (simp [errW_none, errW_some] <;> rfl) | (simp [*, errW_none, errW_some] <;> rfl), by repeat (first | (with_reducible first | exact HB.out | apply below_alloc | apply pw_below_drewN | apply below_drew1 | refine below_set ?_ GE125.out) | exact HB.out)⟩
   ·replace c12 := Bool.eq_false_iff.mpr c12
    subst c12
    have H1 : ((strings_HasPrefix.f a0 (⟨#[59]⟩ : ByteArray)).bind fun t140 => (if t140 = true then (some (3, (⟨#[59]⟩ : ByteArray), 0, 0, 1, true)) else (some (0, (⟨#[]⟩ : ByteArray), 0, 0, 0, false)))) = some (r1, r2, r3, r4, r5, r6) := by rw [if_neg (show ¬ (false = true) by decide)] at H; exact H
    clear H
    have H := H1
    clear H1
    replace H := Option.bind_eq_some_iff.mp H
    obtain ⟨t140, A170, H⟩ := H
    replace H : (if t140 = true then (some (3, (⟨#[59]⟩ : ByteArray), 0, 0, 1, true)) else (some (0, (⟨#[]⟩ : ByteArray), 0, 0, 0, false))) = some (r1, r2, r3, r4, r5, r6) := H
    have A17 := Aside0.mk A170
    clear A170
    by_cases c18 : t140 = true
    ·subst c18
     have H1 : (some (3, (⟨#[59]⟩ : ByteArray), 0, 0, 1, true)) = some (r1, r2, r3, r4, r5, r6) := by rw [if_pos rfl] at H; exact H
     clear H
     have H := H1
     clear H1
     simp only [Option.some.injEq, Prod.mk.injEq] at H
     obtain ⟨rfl, rfl, rfl, rfl, rfl, rfl⟩ := H
     go_enter Tryz.func136, Tryz.ntmps136
     go_wp2_with (first | ((with_reducible refine gate_dst (N := 2) rfl ?_); refine box_event ?hg (N := 2) ?hd (cs := #[.int .i64 0, .string (⟨#[]⟩ : ByteArray), .int .i64 0, .int .i64 0]) (t := 155) ?hr ?_; (case hd => rfl); (case hg => rfl); (case hr => first | (go_simp; done) | (go_simp; rfl)); intro gb125 hg w19 hbox hb; have n0_ := Aside0.mk (below_step (by repeat (first | (with_reducible first | exact HB.out | apply below_alloc | apply pw_below_drewN | apply below_drew1) | exact HB.out)) hb); have n1_ := Aside0.mk (hbox); have n2_ := Aside0.mk ((by rw [hg]; exact (below_size (by repeat (first | (with_reducible first | exact HB.out | apply below_alloc | apply pw_below_drewN | apply below_drew1) | exact HB.out))) : w.heap.size ≤ gb125)); have n3_ := Aside0.mk ((by rw [hg]; exact (below_size (by repeat (first | (with_reducible first | exact HB.out | apply below_alloc | apply pw_below_drewN | apply below_drew1) | exact HB.out))) : w.heap.size ≤ gb125)); clear HB; have HB := n0_; have BK125 := n1_; have GW125 := n2_; have GE125 := n3_; clear n0_ n1_ n2_ n3_; clear hb hbox hg; have p3 : 0 ≤ (0 : Int) := (by omega); have q3 : 0 < a0.size := (by have : (0 : Int) < (a0.size : Int) := of_decide_eq_true (by first | (with_reducible assumption) | assumption); omega); have hx3 : ∀ h : 0 < a0.size, ((a0[0]'h).toNat : Int) = bt a0 0 := bt_at a0 0; clear p3; have qi3 : (0 < (a0.size : Int)) = True := eq_true (of_decide_eq_true (by first | (with_reducible assumption) | assumption)); replace q3 := eq_true q3) | ((with_reducible refine gate_callee (f := 160) rfl ?_); refine goesL_ (some 8) rfl rfl Tryz.func160 (by kernel_rfl) rfl #[.int .u8 (bt a0 0)] rfl (by (try simp only [List.map_toArray, List.map_cons, List.map_nil]); first | done | rfl | (simp only [List.length_drop, List.length_take]; rfl)) ?_; (with_reducible refine (lex_isLetter.calls (bt a0 0) false _ A4.out).mono ?_); rintro e w' ⟨rfl, ⟨nd, rfl⟩⟩; refine ⟨_, rfl, ?_⟩; (try (rw [drewN_self w19]; generalize hq_ : World.drewN w19 _ = w19; have n0_ : Aside0 (w19.heap[gb125]? = some (.cells #[.int .i64 0, .string (⟨#[]⟩ : ByteArray), .int .i64 0, .int .i64 0] 155 (0, 0))) := ⟨by rw [← hq_]; exact (by (with_reducible repeat (first | refine blk_drewN ?_ _ | refine blk_drew ?_ | refine blk_alloc ?_ _)); exact BK125.out)⟩; have n1_ : Aside0 (Below w.heap.size w w19) := ⟨by rw [← hq_]; exact (by repeat (first | (with_reducible first | exact HB.out | apply below_alloc | apply pw_below_drewN | apply below_drew1 | refine below_set ?_ GE125.out) | exact HB.out))⟩; clear BK125 HB hq_; have BK125 := n0_; have HB := n1_; clear n0_ n1_)); have p10 : 0 ≤ (0 : Int) := (by omega); have q10 : 0 < a0.size := (by have : (0 : Int) < (a0.size : Int) := of_decide_eq_true (by first | (with_reducible assumption) | assumption); omega); have hx10 : ∀ h : 0 < a0.size, ((a0[0]'h).toNat : Int) = bt a0 0 := bt_at a0 0; clear p10; have qi10 : (0 < (a0.size : Int)) = True := eq_true (of_decide_eq_true (by first | (with_reducible assumption) | assumption)); replace q10 := eq_true q10) | ((with_reducible refine gate_callee (f := 162) rfl ?_); refine goesL_ (some 17) rfl rfl Tryz.func162 (by kernel_rfl) rfl #[.int .u8 (bt a0 0)] rfl (by (try simp only [List.map_toArray, List.map_cons, List.map_nil]); first | done | rfl | (simp only [List.length_drop, List.length_take]; rfl)) ?_; (with_reducible refine (lex_isDigit.calls (bt a0 0) false _ A11.out).mono ?_); rintro e w' ⟨rfl, ⟨nd, rfl⟩⟩; refine ⟨_, rfl, ?_⟩; (try (rw [drewN_self w19]; generalize hq_ : World.drewN w19 _ = w19; have n0_ : Aside0 (w19.heap[gb125]? = some (.cells #[.int .i64 0, .string (⟨#[]⟩ : ByteArray), .int .i64 0, .int .i64 0] 155 (0, 0))) := ⟨by rw [← hq_]; exact (by (with_reducible repeat (first | refine blk_drewN ?_ _ | refine blk_drew ?_ | refine blk_alloc ?_ _)); exact BK125.out)⟩; have n1_ : Aside0 (Below w.heap.size w w19) := ⟨by rw [← hq_]; exact (by repeat (first | (with_reducible first | exact HB.out | apply below_alloc | apply pw_below_drewN | apply below_drew1 | refine below_set ?_ GE125.out) | exact HB.out))⟩; clear BK125 HB hq_; have BK125 := n0_; have HB := n1_; clear n0_ n1_))) | ((with_reducible refine gate_callee (f := 164) rfl ?_); refine goesL_ (some 25) rfl rfl Tryz.func164 (by kernel_rfl) rfl #[.string a0, .string (⟨#[59]⟩ : ByteArray)] rfl (by (try simp only [List.map_toArray, List.map_cons, List.map_nil]); first | done | rfl | (simp only [List.length_drop, List.length_take]; rfl)) ?_; (with_reducible refine (strings_HasPrefix.calls a0 (⟨#[59]⟩ : ByteArray) true _ A17.out).mono ?_); rintro e w' ⟨rfl, ⟨nd, rfl⟩⟩; refine ⟨_, rfl, ?_⟩; (try (rw [drewN_self w19]; generalize hq_ : World.drewN w19 _ = w19; have n0_ : Aside0 (w19.heap[gb125]? = some (.cells #[.int .i64 0, .string (⟨#[]⟩ : ByteArray), .int .i64 0, .int .i64 0] 155 (0, 0))) := ⟨by rw [← hq_]; exact (by (with_reducible repeat (first | refine blk_drewN ?_ _ | refine blk_drew ?_ | refine blk_alloc ?_ _)); exact BK125.out)⟩; have n1_ : Aside0 (Below w.heap.size w w19) := ⟨by rw [← hq_]; exact (by repeat (first | (with_reducible first | exact HB.out | apply below_alloc | apply pw_below_drewN | apply below_drew1 | refine below_set ?_ GE125.out) | exact HB.out))⟩; clear BK125 HB hq_; have BK125 := n0_; have HB := n1_; clear n0_ n1_)); have hcz20_0 : w19.cell? ⟨gb125, 0, none⟩ = some (.int .i64 0) := (blk_cell BK125.out 0).trans rfl; have hcz20_1 : w19.cell? ⟨gb125, 1, none⟩ = some (.string (⟨#[]⟩ : ByteArray)) := (blk_cell BK125.out 1).trans rfl; have hcz20_2 : w19.cell? ⟨gb125, 2, none⟩ = some (.int .i64 0) := (blk_cell BK125.out 2).trans rfl; have hcz20_3 : w19.cell? ⟨gb125, 3, none⟩ = some (.int .i64 0) := (blk_cell BK125.out 3).trans rfl; have hfz20_0 := blk_frozen BK125.out 0; have hfz20_1 := blk_frozen BK125.out 1; have hfz20_2 := blk_frozen BK125.out 2; have hfz20_3 := blk_frozen BK125.out 3))
     refine bodyPost_ret (results_ctt rfl _ _ gb125 155 #[.int .i64 3, .string (⟨#[59]⟩ : ByteArray), .int .i64 0, .int .i64 0] (0, 0) _ rfl (by (with_reducible repeat (first | refine blk_drewN ?_ _ | refine blk_drew ?_ | refine blk_alloc ?_ _)); refine blk_put (cs := #[.int .i64 3, .string (⟨#[59]⟩ : ByteArray), .int .i64 0, .int .i64 0]) ?_ 3 _ rfl; (with_reducible repeat (first | refine blk_drewN ?_ _ | refine blk_drew ?_ | refine blk_alloc ?_ _)); refine blk_put (cs := #[.int .i64 3, .string (⟨#[59]⟩ : ByteArray), .int .i64 0, .int .i64 0]) ?_ 2 _ rfl; (with_reducible repeat (first | refine blk_drewN ?_ _ | refine blk_drew ?_ | refine blk_alloc ?_ _)); refine blk_put (cs := #[.int .i64 3, .string (⟨#[]⟩ : ByteArray), .int .i64 0, .int .i64 0]) ?_ 1 _ rfl; (with_reducible repeat (first | refine blk_drewN ?_ _ | refine blk_drew ?_ | refine blk_alloc ?_ _)); refine blk_put (cs := #[.int .i64 0, .string (⟨#[]⟩ : ByteArray), .int .i64 0, .int .i64 0]) ?_ 0 _ rfl; (with_reducible repeat (first | refine blk_drewN ?_ _ | refine blk_drew ?_ | refine blk_alloc ?_ _)); exact BK125.out) Tryz.underlying155 rfl (by kernel_rfl)) rfl ?_
     exact ⟨by first | rfl | (simp [errW_none, errW_some] <;> rfl) | (simp [*, errW_none, errW_some] <;> rfl), by repeat (first | (with_reducible first | exact HB.out | apply below_alloc | apply pw_below_drewN | apply below_drew1 | refine below_set ?_ GE125.out) | exact HB.out)⟩
    ·replace c18 := Bool.eq_false_iff.mpr c18
     subst c18
     have H1 : (some (0, (⟨#[]⟩ : ByteArray), 0, 0, 0, false)) = some (r1, r2, r3, r4, r5, r6) := by rw [if_neg (show ¬ (false = true) by decide)] at H; exact H
     clear H
     have H := H1
     clear H1
     simp only [Option.some.injEq, Prod.mk.injEq] at H
     obtain ⟨rfl, rfl, rfl, rfl, rfl, rfl⟩ := H
     go_enter Tryz.func136, Tryz.ntmps136
     go_wp2_with (first | ((with_reducible refine gate_dst (N := 2) rfl ?_); refine box_event ?hg (N := 2) ?hd (cs := #[.int .i64 0, .string (⟨#[]⟩ : ByteArray), .int .i64 0, .int .i64 0]) (t := 155) ?hr ?_; (case hd => rfl); (case hg => rfl); (case hr => first | (go_simp; done) | (go_simp; rfl)); intro gb125 hg w21 hbox hb; have n0_ := Aside0.mk (below_step (by repeat (first | (with_reducible first | exact HB.out | apply below_alloc | apply pw_below_drewN | apply below_drew1) | exact HB.out)) hb); have n1_ := Aside0.mk (hbox); have n2_ := Aside0.mk ((by rw [hg]; exact (below_size (by repeat (first | (with_reducible first | exact HB.out | apply below_alloc | apply pw_below_drewN | apply below_drew1) | exact HB.out))) : w.heap.size ≤ gb125)); have n3_ := Aside0.mk ((by rw [hg]; exact (below_size (by repeat (first | (with_reducible first | exact HB.out | apply below_alloc | apply pw_below_drewN | apply below_drew1) | exact HB.out))) : w.heap.size ≤ gb125)); clear HB; have HB := n0_; have BK125 := n1_; have GW125 := n2_; have GE125 := n3_; clear n0_ n1_ n2_ n3_; clear hb hbox hg; have p3 : 0 ≤ (0 : Int) := (by omega); have q3 : 0 < a0.size := (by have : (0 : Int) < (a0.size : Int) := of_decide_eq_true (by first | (with_reducible assumption) | assumption); omega); have hx3 : ∀ h : 0 < a0.size, ((a0[0]'h).toNat : Int) = bt a0 0 := bt_at a0 0; clear p3; have qi3 : (0 < (a0.size : Int)) = True := eq_true (of_decide_eq_true (by first | (with_reducible assumption) | assumption)); replace q3 := eq_true q3) | ((with_reducible refine gate_callee (f := 160) rfl ?_); refine goesL_ (some 8) rfl rfl Tryz.func160 (by kernel_rfl) rfl #[.int .u8 (bt a0 0)] rfl (by (try simp only [List.map_toArray, List.map_cons, List.map_nil]); first | done | rfl | (simp only [List.length_drop, List.length_take]; rfl)) ?_; (with_reducible refine (lex_isLetter.calls (bt a0 0) false _ A4.out).mono ?_); rintro e w' ⟨rfl, ⟨nd, rfl⟩⟩; refine ⟨_, rfl, ?_⟩; (try (rw [drewN_self w21]; generalize hq_ : World.drewN w21 _ = w21; have n0_ : Aside0 (w21.heap[gb125]? = some (.cells #[.int .i64 0, .string (⟨#[]⟩ : ByteArray), .int .i64 0, .int .i64 0] 155 (0, 0))) := ⟨by rw [← hq_]; exact (by (with_reducible repeat (first | refine blk_drewN ?_ _ | refine blk_drew ?_ | refine blk_alloc ?_ _)); exact BK125.out)⟩; have n1_ : Aside0 (Below w.heap.size w w21) := ⟨by rw [← hq_]; exact (by repeat (first | (with_reducible first | exact HB.out | apply below_alloc | apply pw_below_drewN | apply below_drew1 | refine below_set ?_ GE125.out) | exact HB.out))⟩; clear BK125 HB hq_; have BK125 := n0_; have HB := n1_; clear n0_ n1_)); have p10 : 0 ≤ (0 : Int) := (by omega); have q10 : 0 < a0.size := (by have : (0 : Int) < (a0.size : Int) := of_decide_eq_true (by first | (with_reducible assumption) | assumption); omega); have hx10 : ∀ h : 0 < a0.size, ((a0[0]'h).toNat : Int) = bt a0 0 := bt_at a0 0; clear p10; have qi10 : (0 < (a0.size : Int)) = True := eq_true (of_decide_eq_true (by first | (with_reducible assumption) | assumption)); replace q10 := eq_true q10) | ((with_reducible refine gate_callee (f := 162) rfl ?_); refine goesL_ (some 17) rfl rfl Tryz.func162 (by kernel_rfl) rfl #[.int .u8 (bt a0 0)] rfl (by (try simp only [List.map_toArray, List.map_cons, List.map_nil]); first | done | rfl | (simp only [List.length_drop, List.length_take]; rfl)) ?_; (with_reducible refine (lex_isDigit.calls (bt a0 0) false _ A11.out).mono ?_); rintro e w' ⟨rfl, ⟨nd, rfl⟩⟩; refine ⟨_, rfl, ?_⟩; (try (rw [drewN_self w21]; generalize hq_ : World.drewN w21 _ = w21; have n0_ : Aside0 (w21.heap[gb125]? = some (.cells #[.int .i64 0, .string (⟨#[]⟩ : ByteArray), .int .i64 0, .int .i64 0] 155 (0, 0))) := ⟨by rw [← hq_]; exact (by (with_reducible repeat (first | refine blk_drewN ?_ _ | refine blk_drew ?_ | refine blk_alloc ?_ _)); exact BK125.out)⟩; have n1_ : Aside0 (Below w.heap.size w w21) := ⟨by rw [← hq_]; exact (by repeat (first | (with_reducible first | exact HB.out | apply below_alloc | apply pw_below_drewN | apply below_drew1 | refine below_set ?_ GE125.out) | exact HB.out))⟩; clear BK125 HB hq_; have BK125 := n0_; have HB := n1_; clear n0_ n1_))) | ((with_reducible refine gate_callee (f := 164) rfl ?_); refine goesL_ (some 25) rfl rfl Tryz.func164 (by kernel_rfl) rfl #[.string a0, .string (⟨#[59]⟩ : ByteArray)] rfl (by (try simp only [List.map_toArray, List.map_cons, List.map_nil]); first | done | rfl | (simp only [List.length_drop, List.length_take]; rfl)) ?_; (with_reducible refine (strings_HasPrefix.calls a0 (⟨#[59]⟩ : ByteArray) false _ A17.out).mono ?_); rintro e w' ⟨rfl, ⟨nd, rfl⟩⟩; refine ⟨_, rfl, ?_⟩; (try (rw [drewN_self w21]; generalize hq_ : World.drewN w21 _ = w21; have n0_ : Aside0 (w21.heap[gb125]? = some (.cells #[.int .i64 0, .string (⟨#[]⟩ : ByteArray), .int .i64 0, .int .i64 0] 155 (0, 0))) := ⟨by rw [← hq_]; exact (by (with_reducible repeat (first | refine blk_drewN ?_ _ | refine blk_drew ?_ | refine blk_alloc ?_ _)); exact BK125.out)⟩; have n1_ : Aside0 (Below w.heap.size w w21) := ⟨by rw [← hq_]; exact (by repeat (first | (with_reducible first | exact HB.out | apply below_alloc | apply pw_below_drewN | apply below_drew1 | refine below_set ?_ GE125.out) | exact HB.out))⟩; clear BK125 HB hq_; have BK125 := n0_; have HB := n1_; clear n0_ n1_)); have hcz22_0 : w21.cell? ⟨gb125, 0, none⟩ = some (.int .i64 0) := (blk_cell BK125.out 0).trans rfl; have hcz22_1 : w21.cell? ⟨gb125, 1, none⟩ = some (.string (⟨#[]⟩ : ByteArray)) := (blk_cell BK125.out 1).trans rfl; have hcz22_2 : w21.cell? ⟨gb125, 2, none⟩ = some (.int .i64 0) := (blk_cell BK125.out 2).trans rfl; have hcz22_3 : w21.cell? ⟨gb125, 3, none⟩ = some (.int .i64 0) := (blk_cell BK125.out 3).trans rfl; have hfz22_0 := blk_frozen BK125.out 0; have hfz22_1 := blk_frozen BK125.out 1; have hfz22_2 := blk_frozen BK125.out 2; have hfz22_3 := blk_frozen BK125.out 3))
     refine bodyPost_ret (results_ctt rfl _ _ gb125 155 #[.int .i64 0, .string (⟨#[]⟩ : ByteArray), .int .i64 0, .int .i64 0] (0, 0) _ rfl (by (with_reducible repeat (first | refine blk_drewN ?_ _ | refine blk_drew ?_ | refine blk_alloc ?_ _)); refine blk_put (cs := #[.int .i64 0, .string (⟨#[]⟩ : ByteArray), .int .i64 0, .int .i64 0]) ?_ 3 _ rfl; (with_reducible repeat (first | refine blk_drewN ?_ _ | refine blk_drew ?_ | refine blk_alloc ?_ _)); refine blk_put (cs := #[.int .i64 0, .string (⟨#[]⟩ : ByteArray), .int .i64 0, .int .i64 0]) ?_ 2 _ rfl; (with_reducible repeat (first | refine blk_drewN ?_ _ | refine blk_drew ?_ | refine blk_alloc ?_ _)); refine blk_put (cs := #[.int .i64 0, .string (⟨#[]⟩ : ByteArray), .int .i64 0, .int .i64 0]) ?_ 1 _ rfl; (with_reducible repeat (first | refine blk_drewN ?_ _ | refine blk_drew ?_ | refine blk_alloc ?_ _)); refine blk_put (cs := #[.int .i64 0, .string (⟨#[]⟩ : ByteArray), .int .i64 0, .int .i64 0]) ?_ 0 _ rfl; (with_reducible repeat (first | refine blk_drewN ?_ _ | refine blk_drew ?_ | refine blk_alloc ?_ _)); exact BK125.out) Tryz.underlying155 rfl (by kernel_rfl)) rfl ?_
     exact ⟨by first | rfl | (simp [errW_none, errW_some] <;> rfl) | (simp [*, errW_none, errW_some] <;> rfl), by repeat (first | (with_reducible first | exact HB.out | apply below_alloc | apply pw_below_drewN | apply below_drew1 | refine below_set ?_ GE125.out) | exact HB.out)⟩
 ·rw [if_neg c2] at H
  exact absurd H (by simp)
end Go.Proofs.YtaofmmnfenlofaaGreatDoor.QTc
namespace Go.Proofs.YtaofmmnfenlofaaGreatDoor.QTc
open Go.RowKit Go.Proofs.YtaofmmnfenlofaaGreatDoorW.PrintWords Go.Proofs.YtaofmmnfenlofaaGreatDoorW.PrintLast Go.Proofs.YtaofmmnfenlofaaGreatDoorW.PrintMore
set_option linter.unusedVariables false
set_option linter.unusedSimpArgs false
def tokGo (k : Nat) (s : ByteArray) : Nat → Nat → List S155 → Option (List S155 × Int × Int)
  | 0, _, _ => none
  | f + 1, i, acc =>
    if i = s.size then some (acc ++ [⟨4, ⟨#[]⟩, 0, (i : Int)⟩], (i : Int), 0)
    else if 0 < gapN (s.extract i s.size).data.toList then tokGo k s f (i + gapN (s.extract i s.size).data.toList) acc
    else (lex_token.f k (s.extract i s.size)).bind fun t =>
      if t.2.2.2.2.2 = true then (if 0 < t.2.2.2.2.1 ∧ (i : Int) + t.2.2.2.2.1 ≤ (s.size : Int) then tokGo k s f (i + t.2.2.2.2.1.toNat) (acc ++ [⟨t.1, t.2.1, t.2.2.1, (i : Int)⟩]) else none)
      else some ([], (i : Int), 2)
def lex_Tokens.f (k : Nat) (a0 : ByteArray) : Option (List S155 × Int × Int) := if a0.size > 4000 then some ([], 0, 3) else tokGo k a0 (a0.size + 1) 0 []
theorem gapN_le : ∀ l : List UInt8, gapN l ≤ l.length
  | [] => Nat.le_refl _
  | c :: r => by
    have := plen_le notFeed (c :: r)
    rw [gapN]
    by_cases h1 : c.toNat = 32 ∨ c.toNat = 10
    · rw [if_pos h1, List.length_cons]; omega
    · rw [if_neg h1]
      by_cases h2 : c.toNat = 35
      · rw [if_pos h2]; exact this
      · rw [if_neg h2]; omega
theorem wp_scope_again {P : Program} {a : Act} {w : World} {Q : Exit → Act → World → Prop} {c rest : Code} (l : Nat) (J : Act → World → Prop) (μ : Act → World → Nat) (hf : findLabel c l = some (Code.skip.seq rest))
    (pass : ∀ a w, J a w → rest.wp P (Exit.jump l (fun a' w' => J a' w' ∧ μ a' w' < μ a w) Q) a w) (first : Aside0 (∀ a w, J a w → rest.wp P (Exit.jump l J Q) a w) → c.wp P (Exit.jump l J Q) a w) : (Code.scope c).wp P Q a w :=
  wp_scope_jumps l J μ hf (first ⟨fun a w hJ => wp_mono (pass a w hJ) (fun e a w q => by
    cases e with
    | goto l' => exact ⟨q.1, q.2.1⟩
    | _ => exact q)⟩) (fun a w hJ => wp_seq (wp_skip (pass a w hJ)))
theorem ext_size (s : ByteArray) (i : Nat) : (s.extract i s.size).size = s.size - i := by simp
theorem info155 : (Tryz.prog.info? 155).map (fun i => (i.zero, i.size, i.bytes)) = some (some (.agg #[.int .i64 0, .string ⟨#[]⟩, .int .i64 0, .int .i64 0]), 4, 40) := by kernel_rfl
structure TokInv (k : Nat) (s : ByteArray) (r : List S155 × Int × Int) (w : World) (i : Nat) (v : Value) (acc : List S155) (f : Nat) (c0 : Int) (c1 : ByteArray) (c2 c3 : Int) (w' : World) : Prop where
  hi : i ≤ s.size
  hl : acc.length ≤ i
  hf : tokGo k s f i acc = some r
  hR : Kd.R k155 155 w' w.heap.size (fun b => b ≠ w.heap.size) v acc
  hT : w'.heap[w.heap.size]? = some (.cells #[.int .i64 c0, .string c1, .int .i64 c2, .int .i64 c3] 155 (0, 0))
  hB : Below w.heap.size w w'
def TokPost (w : World) (r : List S155 × Int × Int) (e : Ending) (w' : World) : Prop := ∃ v0_ : Value, e = .returned (.tuple #[v0_, .int .i64 r.2.1, .int .i64 r.2.2]) ∧ Kd.R k155 155 w' w.heap.size (fun _ => True) v0_ r.1 ∧ Below w.heap.size w w'
set_option maxHeartbeats 16000000 in
set_option maxRecDepth 100000 in
theorem tokens_calls (k : Nat) (s : ByteArray) (r : List S155 × Int × Int) (w : World) (hT : TabW w) (hs : s.size ≤ 4000) (h : tokGo k s (s.size + 1) 0 [] = some r) :
    Calls Tryz.prog 103 #[.string s] w (TokPost w r) := by
  have HT := Aside0.mk hT
  have H0 := Aside0.mk h
  have HS := Aside0.mk hs
  have e0 : decide ((s.size : Int) > 4000) = false := decide_eq_false (by omega)
  clear hT h
  go_enter Tryz.func103, Tryz.ntmps103
  go_wp2
  refine wp_scope_again 0 (fun a' w' => ∃ (i : Nat) (v : Value) (acc : List S155) (f : Nat) (c0 : Int) (c1 : ByteArray) (c2 c3 : Int) (u6 u7 u8 u9 u10 u11 u12 u13 u14 u15 u16 u17 u18 u19 u20 u21 u22 u23 u24 u25 u26 u27 u28 u29 u30 u31 u32 u33 u34 u35 u36 u37 u38 u39 u40 u41 u42 u43 u44 u45 u46 u47 u48 u49 : Value), a' = { tmps := #[.string s, undef, v, .int .i64 (i : Int), .int .i64 0, .pointer (some ⟨w.heap.size, 0, none⟩), u6, u7, u8, u9, u10, u11, u12, u13, u14, u15, u16, u17, u18, u19, u20, u21, u22, u23, u24, u25, u26, u27, u28, u29, u30, u31, u32, u33, u34, u35, u36, u37, u38, u39, u40, u41, u42, u43, u44, u45, u46, u47, u48, u49], defers := [] } ∧ TokInv k s r w i v acc f c0 c1 c2 c3 w') (fun a' _ => s.size - (intOf (a'.tmps.getD 3 undef)).toNat) rfl ?pass ?first
  case pass =>
    clear H0 e0
    rintro a' w' ⟨i, v, acc, f, c0, c1, c2, c3, u6, u7, u8, u9, u10, u11, u12, u13, u14, u15, u16, u17, u18, u19, u20, u21, u22, u23, u24, u25, u26, u27, u28, u29, u30, u31, u32, u33, u34, u35, u36, u37, u38, u39, u40, u41, u42, u43, u44, u45, u46, u47, u48, u49, rfl, INV⟩
    obtain ⟨hi, hl, hf, hR, hTb, hB⟩ := INV
    have HL := Aside0.mk (show acc.length ≤ 4000 by omega)
    have HB := Aside0.mk hB
    have HO := Aside0.mk hR
    have HF := Aside0.mk hf
    have HTB := Aside0.mk hTb
    clear hB hR hf hTb
    cases f with
    | zero => exact absurd HF.out (by simp [tokGo])
    | succ f =>
    have hi0 : 0 ≤ (i : Int) := by omega
    have hi1 : (i : Int) ≤ (s.size : Int) := by omega
    by_cases hend : i = s.size
    · have e1 : ((i : Int) == (s.size : Int)) = true := by simp [hend]
      have hr := HF.out
      rw [tokGo, if_pos hend] at hr
      obtain rfl := Option.some.inj hr
      clear hr HF hend
      go_wp2_with (((with_reducible refine gate_builtin (b := .append) (xs := #[.tmp 15, .tmp 18]) rfl ?_); at_builtin; refine Kd.R_append k155 (w0 := w) w.heap.size rfl (.tmp 15) (.tmp 18) 161 155 (.agg #[.int .i64 0, .string ⟨#[]⟩, .int .i64 0, .int .i64 0]) 40 rfl Tryz.underlying161 info155 rfl (by decide) (by omega) v acc ⟨4, ⟨#[]⟩, 0, (i : Int)⟩ [.int .i64 4, .string ⟨#[]⟩, .int .i64 0, .int .i64 (i : Int)] (fun b => b ≠ w.heap.size) (fun _ => False) rfl rfl ?aP (fun _ hk => hk.elim) ?aF ?aO ?aB ?aS ?aL ?_; (case aP => exact k155_mkM _ _ _ _); (case aF => intro b hb; have := blk_lt HTB.out; (try simp at hb); omega); (case aO => exact (by repeat (first | (with_reducible first | apply Kd.R_alloc | apply Kd.R_drewN | apply Kd.R_drew | refine Kd.R_far (p := ⟨w.heap.size, _, none⟩) ?_ (fun _ hk => hk) _) | exact HO.out))); (case aB => exact (by repeat (first | (with_reducible first | exact HB.out | apply below_alloc | apply pw_below_drewN | apply below_drew1) | exact HB.out))); (case aS => have := HB.out.size; (try simp); omega); (case aL => have := HL.out; omega); intro v1 w9 hR9 hB9 hg9 hat9; have n1_ := Aside0.mk hR9; have n2_ := Aside0.mk hB9; have n3_ := Aside0.mk hg9; clear hR9 hB9 hg9 hat9))
      (try simp only [Exit.jump])
      go_ret3
      exact ⟨v1, rfl, Kd.R_mono n1_.out (fun _ _ => trivial), n2_.out⟩
    · have e1 : ((i : Int) == (s.size : Int)) = false := by simp; omega
      have hsz : (s.extract i s.size).size = s.size - i := ext_size s i
      have HG := Aside0.mk (fun w => lex_gap.calls (s.extract i s.size) (by omega) (by omega) w)
      have hgl : gapN (s.extract i s.size).data.toList ≤ s.size - i := by
        have := gapN_le (s.extract i s.size).data.toList
        have h5 : (s.extract i s.size).data.toList.length = (s.extract i s.size).size := by simp
        omega
      have hr := HF.out
      rw [tokGo, if_neg hend] at hr
      clear HF
      generalize gapN (s.extract i s.size).data.toList = g at HG hgl hr
      by_cases hg : 0 < g
      · have e2 : decide ((g : Int) > 0) = true := decide_eq_true (by omega)
        rw [if_pos hg] at hr
        have HF := Aside0.mk hr
        clear hr hsz
        have g2 : (i : Int) + (g : Int) ≤ 4000 := by omega
        go_wp2_with (go_at_call 135; (with_reducible refine (HG.out _).mono ?_); rintro e w5 ⟨rfl, ⟨nd, rfl⟩⟩)
        (try go_step3)
        exact ⟨rfl, ⟨i + g, v, acc, f, c0, c1, c2, c3, _, _, _, _, _, _, _, _, _, _, _, _, _, _, _, _, _, _, _, _, _, _, _, _, _, _, _, _, _, _, _, _, _, _, _, _, _, _, _, _, _, _, _, _, rfl, ⟨by omega, by omega, HF.out, Kd.R_drewN HO.out _, HTB.out, pw_below_drewN HB.out _⟩⟩, by simp [intOf]; omega⟩
      · have e2 : decide ((g : Int) > 0) = false := decide_eq_false (by omega)
        rw [if_neg hg] at hr
        obtain ⟨⟨t1, t2, t3, t4, n, ok⟩, htok, hr⟩ := Option.bind_eq_some_iff.mp hr
        have HK := Aside0.mk htok
        clear htok
        cases ok with
        | false =>
          have hr2 : some (([] : List S155), (i : Int), (2 : Int)) = some r := hr
          obtain rfl := Option.some.inj hr2
          clear hr hr2 hsz
          go_wp2_with (first | (go_at_call 135; (with_reducible refine (HG.out _).mono ?_); rintro e w5 ⟨rfl, ⟨nd, rfl⟩⟩) | (go_at_call 136; (with_reducible refine (lex_token.calls k _ t1 t2 t3 t4 n _ _ (hT := ?sideT) HK.out).mono ?_); (case sideT => exact TabW.below HT.out (pw_below_drewN HB.out _)); rintro e w5 ⟨rfl, hb⟩; have n4_ := Aside0.mk ((hb.block _ (blk_lt HTB.out)).trans HTB.out); have n5_ := Aside0.mk (Kd.R_below (Kd.R_drewN HO.out _) hb); have n6_ := Aside0.mk (below_step (pw_below_drewN HB.out _) hb); clear hb; clear HO HB HTB; have HTB := n4_; have HO := n5_; have HB := n6_; clear n4_ n5_ n6_; have C0 := blk_cell HTB.out 0; have C1 := blk_cell HTB.out 1; have C2 := blk_cell HTB.out 2; have C3 := blk_cell HTB.out 3; have F0 := blk_frozen HTB.out 0; have F1 := blk_frozen HTB.out 1; have F2 := blk_frozen HTB.out 2; have F3 := blk_frozen HTB.out 3) | ((with_reducible refine gate_store (t := 155) (p := 5) rfl ?_); refine store_event (t := 155) (p := 5) (v := ?vo_w6) (w1 := ((((w5.setCell ⟨w.heap.size, 0, none⟩ (.int .i64 t1)).setCell ⟨w.heap.size, 1, none⟩ (.string t2)).setCell ⟨w.heap.size, 2, none⟩ (.int .i64 t3)).setCell ⟨w.heap.size, 3, none⟩ (.int .i64 t4))) ?hg ?ho ?hN ?hr ?_; (case ho => rfl); (case hg => rfl); (case hN => rfl); (case hr => first | (go_simp; done) | (go_simp; rfl)); intro w6 hws; have n4_ : Aside0 (w6.heap[w.heap.size]? = some (.cells #[.int .i64 t1, .string t2, .int .i64 t3, .int .i64 t4] 155 (0, 0))) := ⟨by rw [hws]; have := (blk_set (blk_set (blk_set (blk_set HTB.out 0 (.int .i64 t1)) 1 (.string t2)) 2 (.int .i64 t3)) 3 (.int .i64 t4)); simpa using this⟩; have n5_ : Aside0 (Kd.R k155 155 w6 w.heap.size (fun b => b ≠ w.heap.size) v acc) := ⟨by rw [hws]; exact (Kd.R_far (p := ⟨w.heap.size, 3, none⟩) (Kd.R_far (p := ⟨w.heap.size, 2, none⟩) (Kd.R_far (p := ⟨w.heap.size, 1, none⟩) (Kd.R_far (p := ⟨w.heap.size, 0, none⟩) HO.out (fun _ hk => hk) _) (fun _ hk => hk) _) (fun _ hk => hk) _) (fun _ hk => hk) _)⟩; have n6_ : Aside0 (Below w.heap.size w w6) := ⟨by rw [hws]; exact (Below.setCell (p := ⟨w.heap.size, 3, none⟩) (Below.setCell (p := ⟨w.heap.size, 2, none⟩) (Below.setCell (p := ⟨w.heap.size, 1, none⟩) (Below.setCell (p := ⟨w.heap.size, 0, none⟩) HB.out (Nat.le_refl w.heap.size) _) (Nat.le_refl w.heap.size) _) (Nat.le_refl w.heap.size) _) (Nat.le_refl w.heap.size) _)⟩; clear hws C0 C1 C2 C3 F0 F1 F2 F3; clear HO HB HTB; have HTB := n4_; have HO := n5_; have HB := n6_; clear n4_ n5_ n6_; have C0 := blk_cell HTB.out 0; have C1 := blk_cell HTB.out 1; have C2 := blk_cell HTB.out 2; have C3 := blk_cell HTB.out 3; have F0 := blk_frozen HTB.out 0; have F1 := blk_frozen HTB.out 1; have F2 := blk_frozen HTB.out 2; have F3 := blk_frozen HTB.out 3))
          (try simp only [Exit.jump])
          go_ret3
          exact ⟨_, rfl, Kd.R_nil _ _ _ _ _, by repeat (first | (with_reducible first | exact HB.out | apply below_alloc | apply pw_below_drewN | apply below_drew1) | exact HB.out)⟩
        | true =>
          have hr2 : (if 0 < n ∧ (i : Int) + n ≤ (s.size : Int) then tokGo k s f (i + n.toNat) (acc ++ [⟨t1, t2, t3, (i : Int)⟩]) else none) = some r := hr
          by_cases hn : 0 < n ∧ (i : Int) + n ≤ (s.size : Int)
          · rw [if_pos hn] at hr2
            obtain ⟨hn0, hn1⟩ := hn
            have HF := Aside0.mk hr2
            have hi3 : i < s.size := by omega
            have hn3 : (i : Int) + n ≤ 4000 := by omega
            clear hr hr2 hsz hgl
            go_wp2_with (first | (go_at_call 135; (with_reducible refine (HG.out _).mono ?_); rintro e w5 ⟨rfl, ⟨nd, rfl⟩⟩) | (go_at_call 136; (with_reducible refine (lex_token.calls k _ t1 t2 t3 t4 n _ _ (hT := ?sideT) HK.out).mono ?_); (case sideT => exact TabW.below HT.out (pw_below_drewN HB.out _)); rintro e w5 ⟨rfl, hb⟩; have n4_ := Aside0.mk ((hb.block _ (blk_lt HTB.out)).trans HTB.out); have n5_ := Aside0.mk (Kd.R_below (Kd.R_drewN HO.out _) hb); have n6_ := Aside0.mk (below_step (pw_below_drewN HB.out _) hb); clear hb; clear HO HB HTB; have HTB := n4_; have HO := n5_; have HB := n6_; clear n4_ n5_ n6_; have C0 := blk_cell HTB.out 0; have C1 := blk_cell HTB.out 1; have C2 := blk_cell HTB.out 2; have C3 := blk_cell HTB.out 3; have F0 := blk_frozen HTB.out 0; have F1 := blk_frozen HTB.out 1; have F2 := blk_frozen HTB.out 2; have F3 := blk_frozen HTB.out 3) | ((with_reducible refine gate_store (t := 155) (p := 5) rfl ?_); refine store_event (t := 155) (p := 5) (v := ?vo_w6) (w1 := ((((w5.setCell ⟨w.heap.size, 0, none⟩ (.int .i64 t1)).setCell ⟨w.heap.size, 1, none⟩ (.string t2)).setCell ⟨w.heap.size, 2, none⟩ (.int .i64 t3)).setCell ⟨w.heap.size, 3, none⟩ (.int .i64 t4))) ?hg ?ho ?hN ?hr ?_; (case ho => rfl); (case hg => rfl); (case hN => rfl); (case hr => first | (go_simp; done) | (go_simp; rfl)); intro w6 hws; have n4_ : Aside0 (w6.heap[w.heap.size]? = some (.cells #[.int .i64 t1, .string t2, .int .i64 t3, .int .i64 t4] 155 (0, 0))) := ⟨by rw [hws]; have := (blk_set (blk_set (blk_set (blk_set HTB.out 0 (.int .i64 t1)) 1 (.string t2)) 2 (.int .i64 t3)) 3 (.int .i64 t4)); simpa using this⟩; have n5_ : Aside0 (Kd.R k155 155 w6 w.heap.size (fun b => b ≠ w.heap.size) v acc) := ⟨by rw [hws]; exact (Kd.R_far (p := ⟨w.heap.size, 3, none⟩) (Kd.R_far (p := ⟨w.heap.size, 2, none⟩) (Kd.R_far (p := ⟨w.heap.size, 1, none⟩) (Kd.R_far (p := ⟨w.heap.size, 0, none⟩) HO.out (fun _ hk => hk) _) (fun _ hk => hk) _) (fun _ hk => hk) _) (fun _ hk => hk) _)⟩; have n6_ : Aside0 (Below w.heap.size w w6) := ⟨by rw [hws]; exact (Below.setCell (p := ⟨w.heap.size, 3, none⟩) (Below.setCell (p := ⟨w.heap.size, 2, none⟩) (Below.setCell (p := ⟨w.heap.size, 1, none⟩) (Below.setCell (p := ⟨w.heap.size, 0, none⟩) HB.out (Nat.le_refl w.heap.size) _) (Nat.le_refl w.heap.size) _) (Nat.le_refl w.heap.size) _) (Nat.le_refl w.heap.size) _)⟩; clear hws C0 C1 C2 C3 F0 F1 F2 F3; clear HO HB HTB; have HTB := n4_; have HO := n5_; have HB := n6_; clear n4_ n5_ n6_; have C0 := blk_cell HTB.out 0; have C1 := blk_cell HTB.out 1; have C2 := blk_cell HTB.out 2; have C3 := blk_cell HTB.out 3; have F0 := blk_frozen HTB.out 0; have F1 := blk_frozen HTB.out 1; have F2 := blk_frozen HTB.out 2; have F3 := blk_frozen HTB.out 3) | ((with_reducible refine gate_store (t := 3) (p := 42) rfl ?_); refine store_event (t := 3) (p := 42) (v := ?vo_w7) (w1 := (w6.setCell ⟨w.heap.size, 3, none⟩ (.int .i64 (i : Int)))) ?hg ?ho ?hN ?hr ?_; (case ho => rfl); (case hg => rfl); (case hN => rfl); (case hr => first | (go_simp; done) | (go_simp; rfl)); intro w7 hws; have n4_ : Aside0 (w7.heap[w.heap.size]? = some (.cells #[.int .i64 t1, .string t2, .int .i64 t3, .int .i64 (i : Int)] 155 (0, 0))) := ⟨by rw [hws]; have := (blk_set HTB.out 3 (.int .i64 (i : Int))); simpa using this⟩; have n5_ : Aside0 (Kd.R k155 155 w7 w.heap.size (fun b => b ≠ w.heap.size) v acc) := ⟨by rw [hws]; exact (Kd.R_far (p := ⟨w.heap.size, 3, none⟩) HO.out (fun _ hk => hk) _)⟩; have n6_ : Aside0 (Below w.heap.size w w7) := ⟨by rw [hws]; exact (Below.setCell (p := ⟨w.heap.size, 3, none⟩) HB.out (Nat.le_refl w.heap.size) _)⟩; clear hws C0 C1 C2 C3 F0 F1 F2 F3; clear HO HB HTB; have HTB := n4_; have HO := n5_; have HB := n6_; clear n4_ n5_ n6_; have C0 := blk_cell HTB.out 0; have C1 := blk_cell HTB.out 1; have C2 := blk_cell HTB.out 2; have C3 := blk_cell HTB.out 3; have F0 := blk_frozen HTB.out 0; have F1 := blk_frozen HTB.out 1; have F2 := blk_frozen HTB.out 2; have F3 := blk_frozen HTB.out 3) | ((with_reducible refine gate_builtin (b := .append) (xs := #[.tmp 43, .tmp 45]) rfl ?_); at_builtin; refine Kd.R_append k155 (w0 := w) w.heap.size rfl (.tmp 43) (.tmp 45) 161 155 (.agg #[.int .i64 0, .string ⟨#[]⟩, .int .i64 0, .int .i64 0]) 40 rfl Tryz.underlying161 info155 rfl (by decide) (by omega) v acc ⟨t1, t2, t3, (i : Int)⟩ [.int .i64 t1, .string t2, .int .i64 t3, .int .i64 (i : Int)] (fun b => b ≠ w.heap.size) (fun _ => False) rfl rfl ?aP (fun _ hk => hk.elim) ?aF ?aO ?aB ?aS ?aL ?_; (case aP => exact k155_mkM _ _ _ _); (case aF => intro b hb; have := blk_lt HTB.out; (try simp at hb); omega); (case aO => exact (by repeat (first | (with_reducible first | apply Kd.R_alloc | apply Kd.R_drewN | apply Kd.R_drew | refine Kd.R_far (p := ⟨w.heap.size, _, none⟩) ?_ (fun _ hk => hk) _) | exact HO.out))); (case aB => exact (by repeat (first | (with_reducible first | exact HB.out | apply below_alloc | apply pw_below_drewN | apply below_drew1) | exact HB.out))); (case aS => have := HB.out.size; (try simp); omega); (case aL => have := HL.out; omega); intro v1 w9 hR9 hB9 hg9 hat9; have n1_ := Aside0.mk hR9; have n2_ := Aside0.mk hB9; have n3_ := Aside0.mk hg9; clear hR9 hB9 hg9 hat9))
            (try go_step3)
            obtain ⟨m, rfl⟩ := Int.eq_ofNat_of_zero_le (Int.le_of_lt hn0)
            have HFX := HF.out
            rw [Int.toNat_natCast] at HFX
            exact ⟨rfl, ⟨i + m, v1, acc ++ [⟨t1, t2, t3, (i : Int)⟩], f, t1, t2, t3, (i : Int), _, _, _, _, _, _, _, _, _, _, _, _, _, _, _, _, _, _, _, _, _, _, _, _, _, _, _, _, _, _, _, _, _, _, _, _, _, _, _, _, _, _, _, _, rfl, ⟨by omega, by rw [List.length_append, List.length_singleton]; omega, HFX, n1_.out, blk_grown HTB.out n3_.out (by intro he; exact (HO.out.1 _ he.symm) rfl), n2_.out⟩⟩, by simp [intOf]; omega⟩
          · rw [if_neg hn] at hr2; cases hr2
  case first =>
    intro PASS
    go_wp2
    go_step3
    refine (by assumption : ∀ (a : Act) (w : World), Code.wp _ _ _ a w → _) _ _ ?_
    refine PASS.out _ _ ?_
    exact ⟨0, _, [], s.size + 1, 0, ⟨#[]⟩, 0, 0, _, _, _, _, _, _, _, _, _, _, _, _, _, _, _, _, _, _, _, _, _, _, _, _, _, _, _, _, _, _, _, _, _, _, _, _, _, _, _, _, _, _, _, _, rfl, ⟨by omega, Nat.le_refl _, H0.out, Kd.R_nil _ _ _ _ _, heap_alloc_new w _, Below.alloc (Below.refl _ _) (Nat.le_refl _) _⟩⟩
theorem lex_Tokens.calls (k : Nat) (a0 : ByteArray) (r1 : List S155) (r2 r3 : Int) (w : World) (hT : TabW w) (h : lex_Tokens.f k a0 = some (r1, r2, r3)) :
    Calls Tryz.prog 103 #[.string a0] w fun e w' => ∃ v0_ : Value, e = .returned (.tuple #[v0_, .int .i64 r2, .int .i64 r3]) ∧ Kd.R k155 155 w' w.heap.size (fun _ => True) v0_ r1 ∧ Below w.heap.size w w' := by
  unfold lex_Tokens.f at h
  by_cases hs : a0.size > 4000
  · rw [if_pos hs] at h
    simp only [Option.some.injEq, Prod.mk.injEq] at h
    obtain ⟨rfl, rfl, rfl⟩ := h
    have e0 : decide ((a0.size : Int) > 4000) = true := decide_eq_true (by omega)
    clear hT
    show Calls Tryz.prog 103 #[.string a0] w (TokPost w ([], 0, 3))
    go_enter Tryz.func103, Tryz.ntmps103
    go_wp2
    go_step3
    go_wp2
    (try rw [Exit.noGoto_ret])
    go_ret3
    exact ⟨_, rfl, Kd.R_nil _ _ _ _ _, by repeat (first | exact Below.refl _ _ | refine Below.alloc ?_ (by simp) _)⟩
  · rw [if_neg hs] at h
    exact tokens_calls k a0 (r1, r2, r3) w hT (by omega) h
end Go.Proofs.YtaofmmnfenlofaaGreatDoor.QTc
namespace Go.Proofs.YtaofmmnfenlofaaGreatDoor.QTc
open Go.RowKit Go.Proofs.YtaofmmnfenlofaaGreatDoorW.PrintWords Go.Proofs.YtaofmmnfenlofaaGreatDoorW.PrintLast Go.Proofs.YtaofmmnfenlofaaGreatDoorW.PrintMore
attribute [local go_sem] max2_int min2_int max_two min_two max_three min_three max_four min_four
set_option linter.unusedVariables false
set_option linter.unusedSimpArgs false
def task_isRegions.f (l0 : List Int) : Option (Bool) := if (l0.length : Int) ≥ 1 then (if (l0.length : Int) ≤ 8 then ((task_oddRegions.f l0).bind fun t148 => (some (!t148))) else (some false)) else (some false)
set_option maxHeartbeats 8000000 in
set_option maxRecDepth 100000 in
theorem task_isRegions.calls (A0 : Option Addr) (c0 : Nat) (l0 : List Int) (r : Bool) (w : World) (hr0 : Kd.C (Kd.int .i64) w A0 l0.length l0) (hc0 : l0.length ≤ c0) (h : task_isRegions.f l0 = some r) :
  Calls Tryz.prog 63 #[.slice A0 l0.length c0] w fun e w' => e = .returned (.bool r) ∧ Drawn0 w w' := by
 have HR0 := Aside0.mk hr0
 have HC0 := Aside0.mk hc0
 clear hr0 hc0
 have H : (if (l0.length : Int) ≥ 1 then (if (l0.length : Int) ≤ 8 then ((task_oddRegions.f l0).bind fun t148 => (some (!t148))) else (some false)) else (some false)) = some r := h
 clear h
 by_cases c2 : (l0.length : Int) ≥ 1
 ·rw [if_pos c2] at H
  have c2b0 : decide (1 ≤ (l0.length : Int)) = true := decide_eq_true c2
  have c2b1 : decide (1 ≤ l0.length) = true := decide_eq_true (by omega)
  clear c2
  by_cases c3 : (l0.length : Int) ≤ 8
  ·rw [if_pos c3] at H
   have c3b0 : decide ((l0.length : Int) ≤ 8) = true := decide_eq_true c3
   have c3b1 : decide (l0.length ≤ 8) = true := decide_eq_true (by omega)
   clear c3
   replace H := Option.bind_eq_some_iff.mp H
   obtain ⟨t148, A40, H⟩ := H
   replace H : (some (!t148)) = some r := H
   have A4 := Aside0.mk A40
   clear A40
   obtain rfl := Option.some.inj H
   go_enter Tryz.func63, Tryz.ntmps63
   go_wp2_with (first | (go_at_call 77; (with_reducible refine (task_oddRegions.calls _ _ l0 t148 _ ?side1 ?side2 A4.out).mono ?_); (case side1 => repeat (first | exact HR0.out | (with_reducible refine Kd.C_alloc ?_ _) | (with_reducible refine Kd.C_drewN ?_ _) | (with_reducible refine Kd.C_drew ?_))); (case side2 => exact HC0.out); rintro e w' ⟨rfl, ⟨nd, rfl⟩⟩))
   go_ret
   exact ⟨by first | rfl | (simp; done) | (simp [*]; done), by repeat (first | exact Drawn0.refl _ | apply Drawn0.step)⟩
  ·rw [if_neg c3] at H
   have c3b0 : decide ((l0.length : Int) ≤ 8) = false := decide_eq_false c3
   have c3b1 : decide (l0.length ≤ 8) = false := decide_eq_false (by omega)
   clear c3
   obtain rfl := Option.some.inj H
   go_enter Tryz.func63, Tryz.ntmps63
   go_wp2
   go_ret
   exact ⟨by first | rfl | (simp; done) | (simp [*]; done), by repeat (first | exact Drawn0.refl _ | apply Drawn0.step)⟩
 ·rw [if_neg c2] at H
  have c2b0 : decide (1 ≤ (l0.length : Int)) = false := decide_eq_false c2
  have c2b1 : decide (1 ≤ l0.length) = false := decide_eq_false (by omega)
  clear c2
  obtain rfl := Option.some.inj H
  go_enter Tryz.func63, Tryz.ntmps63
  go_wp2
  go_ret
  exact ⟨by first | rfl | (simp; done) | (simp [*]; done), by repeat (first | exact Drawn0.refl _ | apply Drawn0.step)⟩
def task_isMode.f (a0_0 : ByteArray) (a0_1 : Int) (a0_2 : Int) (a0_3 : Int) (a0_4 : Int) (a0_5 : Int) (l0_6 : List Int) (a0_7 : Int) (a0_8 : Int) (a1 : Int) : Option (Bool) := if a0_3 = 0 then (if a0_4 = 0 then (some (a0_5 == 0)) else (some false)) else (if a0_3 = 1 then ((task_isTime.f a0_4 0).bind fun t150 => (if t150 = true then (some (a0_5 == 0)) else (some false))) else (if a0_3 = 2 then (if a0_4 = 0 then (if a0_5 ≥ 0 then (some (decide (a0_5 ≤ a1))) else (some false)) else (some false)) else (some false)))
set_option maxHeartbeats 8000000 in
set_option maxRecDepth 100000 in
theorem task_isMode.calls (a0_0 : ByteArray) (a0_1 : Int) (a0_2 : Int) (a0_3 : Int) (a0_4 : Int) (a0_5 : Int) (A0_6 : Option Addr) (c0_6 : Nat) (l0_6 : List Int) (a0_7 : Int) (a0_8 : Int) (a1 : Int) (r : Bool) (w : World) (hr0_6 : Kd.C (Kd.int .i64) w A0_6 l0_6.length l0_6) (hc0_6 : l0_6.length ≤ c0_6) (h : task_isMode.f a0_0 a0_1 a0_2 a0_3 a0_4 a0_5 l0_6 a0_7 a0_8 a1 = some r) :
  Calls Tryz.prog 64 #[.agg #[.string a0_0, .int .i64 a0_1, .int .i64 a0_2, .int .i64 a0_3, .int .i64 a0_4, .int .i64 a0_5, .slice A0_6 l0_6.length c0_6, .int .u64 a0_7, .int .u64 a0_8], .int .i64 a1] w fun e w' => e = .returned (.bool r) ∧ Below w.heap.size w w' := by
 have hu46 := Tryz.underlying46
 have HR0_6 := Aside0.mk hr0_6
 have HC0_6 := Aside0.mk hc0_6
 clear hr0_6 hc0_6
 have HB := Aside0.mk (Below.refl w.heap.size w)
 have H : (if a0_3 = 0 then (if a0_4 = 0 then (some (a0_5 == 0)) else (some false)) else (if a0_3 = 1 then ((task_isTime.f a0_4 0).bind fun t150 => (if t150 = true then (some (a0_5 == 0)) else (some false))) else (if a0_3 = 2 then (if a0_4 = 0 then (if a0_5 ≥ 0 then (some (decide (a0_5 ≤ a1))) else (some false)) else (some false)) else (some false)))) = some r := h
 clear h
 by_cases c3 : a0_3 = 0
 ·rw [if_pos c3] at H
  have c3b0 : (a0_3 == 0) = true := beq_iff_eq.mpr c3
  have c3b1 : (a0_3 != 0) = false := bne_eq_false_iff_eq.mpr c3
  clear c3
  by_cases c4 : a0_4 = 0
  ·rw [if_pos c4] at H
   have c4b0 : (a0_4 == 0) = true := beq_iff_eq.mpr c4
   have c4b1 : (a0_4 != 0) = false := bne_eq_false_iff_eq.mpr c4
   clear c4
   obtain rfl := Option.some.inj H
   go_enter Tryz.func64, Tryz.ntmps64
   go_wp2_with (first | ((with_reducible refine gate_dst (N := 2) rfl ?_); refine box_event ?hg (N := 2) ?hd (cs := #[.string a0_0, .int .i64 a0_1, .int .i64 a0_2, .int .i64 a0_3, .int .i64 a0_4, .int .i64 a0_5, .slice A0_6 l0_6.length c0_6, .int .u64 a0_7, .int .u64 a0_8]) (t := 46) ?hr ?_; (case hd => rfl); (case hg => rfl); (case hr => first | (go_simp; done) | (go_simp; rfl)); intro gb149 hg w5 hbox hb; have n0_ := Aside0.mk (below_step (by repeat (first | (with_reducible first | exact HB.out | apply below_alloc | apply pw_below_drewN | apply below_drew1) | exact HB.out)) hb); have n1_ := Aside0.mk (hbox); have n2_ := Aside0.mk ((by rw [hg]; exact (below_size (by repeat (first | (with_reducible first | exact HB.out | apply below_alloc | apply pw_below_drewN | apply below_drew1) | exact HB.out))) : w.heap.size ≤ gb149)); have n3_ := Aside0.mk ((by rw [hg]; exact (below_size (by repeat (first | (with_reducible first | exact HB.out | apply below_alloc | apply pw_below_drewN | apply below_drew1) | exact HB.out))) : w.heap.size ≤ gb149)); clear HB; have HB := n0_; have BK149 := n1_; have GW149 := n2_; have GE149 := n3_; clear n0_ n1_ n2_ n3_; clear hb hbox hg; have hcz6_0 : w5.cell? ⟨gb149, 0, none⟩ = some (.string a0_0) := (blk_cell BK149.out 0).trans rfl; have hcz6_1 : w5.cell? ⟨gb149, 1, none⟩ = some (.int .i64 a0_1) := (blk_cell BK149.out 1).trans rfl; have hcz6_2 : w5.cell? ⟨gb149, 2, none⟩ = some (.int .i64 a0_2) := (blk_cell BK149.out 2).trans rfl; have hcz6_3 : w5.cell? ⟨gb149, 3, none⟩ = some (.int .i64 a0_3) := (blk_cell BK149.out 3).trans rfl; have hcz6_4 : w5.cell? ⟨gb149, 4, none⟩ = some (.int .i64 a0_4) := (blk_cell BK149.out 4).trans rfl; have hcz6_5 : w5.cell? ⟨gb149, 5, none⟩ = some (.int .i64 a0_5) := (blk_cell BK149.out 5).trans rfl; have hcz6_6 : w5.cell? ⟨gb149, 6, none⟩ = some (.slice A0_6 l0_6.length c0_6) := (blk_cell BK149.out 6).trans rfl; have hcz6_7 : w5.cell? ⟨gb149, 7, none⟩ = some (.int .u64 a0_7) := (blk_cell BK149.out 7).trans rfl; have hcz6_8 : w5.cell? ⟨gb149, 8, none⟩ = some (.int .u64 a0_8) := (blk_cell BK149.out 8).trans rfl; have hfz6_0 := blk_frozen BK149.out 0; have hfz6_1 := blk_frozen BK149.out 1; have hfz6_2 := blk_frozen BK149.out 2; have hfz6_3 := blk_frozen BK149.out 3; have hfz6_4 := blk_frozen BK149.out 4; have hfz6_5 := blk_frozen BK149.out 5; have hfz6_6 := blk_frozen BK149.out 6; have hfz6_7 := blk_frozen BK149.out 7; have hfz6_8 := blk_frozen BK149.out 8))
   go_ret
   exact ⟨by first | rfl | (simp [errW_none, errW_some] <;> rfl) | (simp [*, errW_none, errW_some] <;> rfl), by repeat (first | (with_reducible first | exact HB.out | apply below_alloc | apply pw_below_drewN | apply below_drew1 | refine below_set ?_ GE149.out) | exact HB.out)⟩
  ·rw [if_neg c4] at H
   have c4b0 : (a0_4 == 0) = false := beq_eq_false_iff_ne.mpr c4
   have c4b1 : (a0_4 != 0) = true := bne_iff_ne.mpr c4
   obtain rfl := Option.some.inj H
   go_enter Tryz.func64, Tryz.ntmps64
   go_wp2_with (first | ((with_reducible refine gate_dst (N := 2) rfl ?_); refine box_event ?hg (N := 2) ?hd (cs := #[.string a0_0, .int .i64 a0_1, .int .i64 a0_2, .int .i64 a0_3, .int .i64 a0_4, .int .i64 a0_5, .slice A0_6 l0_6.length c0_6, .int .u64 a0_7, .int .u64 a0_8]) (t := 46) ?hr ?_; (case hd => rfl); (case hg => rfl); (case hr => first | (go_simp; done) | (go_simp; rfl)); intro gb149 hg w7 hbox hb; have n0_ := Aside0.mk (below_step (by repeat (first | (with_reducible first | exact HB.out | apply below_alloc | apply pw_below_drewN | apply below_drew1) | exact HB.out)) hb); have n1_ := Aside0.mk (hbox); have n2_ := Aside0.mk ((by rw [hg]; exact (below_size (by repeat (first | (with_reducible first | exact HB.out | apply below_alloc | apply pw_below_drewN | apply below_drew1) | exact HB.out))) : w.heap.size ≤ gb149)); have n3_ := Aside0.mk ((by rw [hg]; exact (below_size (by repeat (first | (with_reducible first | exact HB.out | apply below_alloc | apply pw_below_drewN | apply below_drew1) | exact HB.out))) : w.heap.size ≤ gb149)); clear HB; have HB := n0_; have BK149 := n1_; have GW149 := n2_; have GE149 := n3_; clear n0_ n1_ n2_ n3_; clear hb hbox hg; have hcz8_0 : w7.cell? ⟨gb149, 0, none⟩ = some (.string a0_0) := (blk_cell BK149.out 0).trans rfl; have hcz8_1 : w7.cell? ⟨gb149, 1, none⟩ = some (.int .i64 a0_1) := (blk_cell BK149.out 1).trans rfl; have hcz8_2 : w7.cell? ⟨gb149, 2, none⟩ = some (.int .i64 a0_2) := (blk_cell BK149.out 2).trans rfl; have hcz8_3 : w7.cell? ⟨gb149, 3, none⟩ = some (.int .i64 a0_3) := (blk_cell BK149.out 3).trans rfl; have hcz8_4 : w7.cell? ⟨gb149, 4, none⟩ = some (.int .i64 a0_4) := (blk_cell BK149.out 4).trans rfl; have hcz8_5 : w7.cell? ⟨gb149, 5, none⟩ = some (.int .i64 a0_5) := (blk_cell BK149.out 5).trans rfl; have hcz8_6 : w7.cell? ⟨gb149, 6, none⟩ = some (.slice A0_6 l0_6.length c0_6) := (blk_cell BK149.out 6).trans rfl; have hcz8_7 : w7.cell? ⟨gb149, 7, none⟩ = some (.int .u64 a0_7) := (blk_cell BK149.out 7).trans rfl; have hcz8_8 : w7.cell? ⟨gb149, 8, none⟩ = some (.int .u64 a0_8) := (blk_cell BK149.out 8).trans rfl; have hfz8_0 := blk_frozen BK149.out 0; have hfz8_1 := blk_frozen BK149.out 1; have hfz8_2 := blk_frozen BK149.out 2; have hfz8_3 := blk_frozen BK149.out 3; have hfz8_4 := blk_frozen BK149.out 4; have hfz8_5 := blk_frozen BK149.out 5; have hfz8_6 := blk_frozen BK149.out 6; have hfz8_7 := blk_frozen BK149.out 7; have hfz8_8 := blk_frozen BK149.out 8))
   go_ret
   exact ⟨by first | rfl | (simp [errW_none, errW_some] <;> rfl) | (simp [*, errW_none, errW_some] <;> rfl), by repeat (first | (with_reducible first | exact HB.out | apply below_alloc | apply pw_below_drewN | apply below_drew1 | refine below_set ?_ GE149.out) | exact HB.out)⟩
 ·rw [if_neg c3] at H
  have c3b0 : (a0_3 == 0) = false := beq_eq_false_iff_ne.mpr c3
  have c3b1 : (a0_3 != 0) = true := bne_iff_ne.mpr c3
  by_cases c9 : a0_3 = 1
  ·rw [if_pos c9] at H
   have c9b0 : (a0_3 == 1) = true := beq_iff_eq.mpr c9
   have c9b1 : (a0_3 != 1) = false := bne_eq_false_iff_eq.mpr c9
   clear c9
   replace H := Option.bind_eq_some_iff.mp H
   obtain ⟨t150, A100, H⟩ := H
   replace H : (if t150 = true then (some (a0_5 == 0)) else (some false)) = some r := H
   have A10 := Aside0.mk A100
   clear A100
   by_cases c11 : t150 = true
   ·subst c11
    have H1 : (some (a0_5 == 0)) = some r := by rw [if_pos rfl] at H; exact H
    clear H
    have H := H1
    clear H1
    obtain rfl := Option.some.inj H
    go_enter Tryz.func64, Tryz.ntmps64
    go_wp2_with (first | ((with_reducible refine gate_dst (N := 2) rfl ?_); refine box_event ?hg (N := 2) ?hd (cs := #[.string a0_0, .int .i64 a0_1, .int .i64 a0_2, .int .i64 a0_3, .int .i64 a0_4, .int .i64 a0_5, .slice A0_6 l0_6.length c0_6, .int .u64 a0_7, .int .u64 a0_8]) (t := 46) ?hr ?_; (case hd => rfl); (case hg => rfl); (case hr => first | (go_simp; done) | (go_simp; rfl)); intro gb149 hg w12 hbox hb; have n0_ := Aside0.mk (below_step (by repeat (first | (with_reducible first | exact HB.out | apply below_alloc | apply pw_below_drewN | apply below_drew1) | exact HB.out)) hb); have n1_ := Aside0.mk (hbox); have n2_ := Aside0.mk ((by rw [hg]; exact (below_size (by repeat (first | (with_reducible first | exact HB.out | apply below_alloc | apply pw_below_drewN | apply below_drew1) | exact HB.out))) : w.heap.size ≤ gb149)); have n3_ := Aside0.mk ((by rw [hg]; exact (below_size (by repeat (first | (with_reducible first | exact HB.out | apply below_alloc | apply pw_below_drewN | apply below_drew1) | exact HB.out))) : w.heap.size ≤ gb149)); clear HB; have HB := n0_; have BK149 := n1_; have GW149 := n2_; have GE149 := n3_; clear n0_ n1_ n2_ n3_; clear hb hbox hg; have hcz13_0 : w12.cell? ⟨gb149, 0, none⟩ = some (.string a0_0) := (blk_cell BK149.out 0).trans rfl; have hcz13_1 : w12.cell? ⟨gb149, 1, none⟩ = some (.int .i64 a0_1) := (blk_cell BK149.out 1).trans rfl; have hcz13_2 : w12.cell? ⟨gb149, 2, none⟩ = some (.int .i64 a0_2) := (blk_cell BK149.out 2).trans rfl; have hcz13_3 : w12.cell? ⟨gb149, 3, none⟩ = some (.int .i64 a0_3) := (blk_cell BK149.out 3).trans rfl; have hcz13_4 : w12.cell? ⟨gb149, 4, none⟩ = some (.int .i64 a0_4) := (blk_cell BK149.out 4).trans rfl; have hcz13_5 : w12.cell? ⟨gb149, 5, none⟩ = some (.int .i64 a0_5) := (blk_cell BK149.out 5).trans rfl; have hcz13_6 : w12.cell? ⟨gb149, 6, none⟩ = some (.slice A0_6 l0_6.length c0_6) := (blk_cell BK149.out 6).trans rfl; have hcz13_7 : w12.cell? ⟨gb149, 7, none⟩ = some (.int .u64 a0_7) := (blk_cell BK149.out 7).trans rfl; have hcz13_8 : w12.cell? ⟨gb149, 8, none⟩ = some (.int .u64 a0_8) := (blk_cell BK149.out 8).trans rfl; have hfz13_0 := blk_frozen BK149.out 0; have hfz13_1 := blk_frozen BK149.out 1; have hfz13_2 := blk_frozen BK149.out 2; have hfz13_3 := blk_frozen BK149.out 3; have hfz13_4 := blk_frozen BK149.out 4; have hfz13_5 := blk_frozen BK149.out 5; have hfz13_6 := blk_frozen BK149.out 6; have hfz13_7 := blk_frozen BK149.out 7; have hfz13_8 := blk_frozen BK149.out 8) | ((with_reducible refine gate_callee (f := 33) rfl ?_); refine goesL_ (some 21) rfl rfl Tryz.func33 (by kernel_rfl) rfl #[.int .i64 a0_4, .int .i64 0] rfl (by (try simp only [List.map_toArray, List.map_cons, List.map_nil]); first | done | rfl | (simp only [List.length_drop, List.length_take]; rfl)) ?_; (with_reducible refine (task_isTime.calls a0_4 0 true _ A10.out).mono ?_); rintro e w' ⟨rfl, ⟨nd, rfl⟩⟩; refine ⟨_, rfl, ?_⟩))
    go_ret
    exact ⟨by first | rfl | (simp [errW_none, errW_some] <;> rfl) | (simp [*, errW_none, errW_some] <;> rfl), by repeat (first | (with_reducible first | exact HB.out | apply below_alloc | apply pw_below_drewN | apply below_drew1 | refine below_set ?_ GE149.out) | exact HB.out)⟩
   ·replace c11 := Bool.eq_false_iff.mpr c11
    subst c11
    have H1 : (some false) = some r := by rw [if_neg (show ¬ (false = true) by decide)] at H; exact H
    clear H
    have H := H1
    clear H1
    obtain rfl := Option.some.inj H
    go_enter Tryz.func64, Tryz.ntmps64
    go_wp2_with (first | ((with_reducible refine gate_dst (N := 2) rfl ?_); refine box_event ?hg (N := 2) ?hd (cs := #[.string a0_0, .int .i64 a0_1, .int .i64 a0_2, .int .i64 a0_3, .int .i64 a0_4, .int .i64 a0_5, .slice A0_6 l0_6.length c0_6, .int .u64 a0_7, .int .u64 a0_8]) (t := 46) ?hr ?_; (case hd => rfl); (case hg => rfl); (case hr => first | (go_simp; done) | (go_simp; rfl)); intro gb149 hg w14 hbox hb; have n0_ := Aside0.mk (below_step (by repeat (first | (with_reducible first | exact HB.out | apply below_alloc | apply pw_below_drewN | apply below_drew1) | exact HB.out)) hb); have n1_ := Aside0.mk (hbox); have n2_ := Aside0.mk ((by rw [hg]; exact (below_size (by repeat (first | (with_reducible first | exact HB.out | apply below_alloc | apply pw_below_drewN | apply below_drew1) | exact HB.out))) : w.heap.size ≤ gb149)); have n3_ := Aside0.mk ((by rw [hg]; exact (below_size (by repeat (first | (with_reducible first | exact HB.out | apply below_alloc | apply pw_below_drewN | apply below_drew1) | exact HB.out))) : w.heap.size ≤ gb149)); clear HB; have HB := n0_; have BK149 := n1_; have GW149 := n2_; have GE149 := n3_; clear n0_ n1_ n2_ n3_; clear hb hbox hg; have hcz15_0 : w14.cell? ⟨gb149, 0, none⟩ = some (.string a0_0) := (blk_cell BK149.out 0).trans rfl; have hcz15_1 : w14.cell? ⟨gb149, 1, none⟩ = some (.int .i64 a0_1) := (blk_cell BK149.out 1).trans rfl; have hcz15_2 : w14.cell? ⟨gb149, 2, none⟩ = some (.int .i64 a0_2) := (blk_cell BK149.out 2).trans rfl; have hcz15_3 : w14.cell? ⟨gb149, 3, none⟩ = some (.int .i64 a0_3) := (blk_cell BK149.out 3).trans rfl; have hcz15_4 : w14.cell? ⟨gb149, 4, none⟩ = some (.int .i64 a0_4) := (blk_cell BK149.out 4).trans rfl; have hcz15_5 : w14.cell? ⟨gb149, 5, none⟩ = some (.int .i64 a0_5) := (blk_cell BK149.out 5).trans rfl; have hcz15_6 : w14.cell? ⟨gb149, 6, none⟩ = some (.slice A0_6 l0_6.length c0_6) := (blk_cell BK149.out 6).trans rfl; have hcz15_7 : w14.cell? ⟨gb149, 7, none⟩ = some (.int .u64 a0_7) := (blk_cell BK149.out 7).trans rfl; have hcz15_8 : w14.cell? ⟨gb149, 8, none⟩ = some (.int .u64 a0_8) := (blk_cell BK149.out 8).trans rfl; have hfz15_0 := blk_frozen BK149.out 0; have hfz15_1 := blk_frozen BK149.out 1; have hfz15_2 := blk_frozen BK149.out 2; have hfz15_3 := blk_frozen BK149.out 3; have hfz15_4 := blk_frozen BK149.out 4; have hfz15_5 := blk_frozen BK149.out 5; have hfz15_6 := blk_frozen BK149.out 6; have hfz15_7 := blk_frozen BK149.out 7; have hfz15_8 := blk_frozen BK149.out 8) | ((with_reducible refine gate_callee (f := 33) rfl ?_); refine goesL_ (some 21) rfl rfl Tryz.func33 (by kernel_rfl) rfl #[.int .i64 a0_4, .int .i64 0] rfl (by (try simp only [List.map_toArray, List.map_cons, List.map_nil]); first | done | rfl | (simp only [List.length_drop, List.length_take]; rfl)) ?_; (with_reducible refine (task_isTime.calls a0_4 0 false _ A10.out).mono ?_); rintro e w' ⟨rfl, ⟨nd, rfl⟩⟩; refine ⟨_, rfl, ?_⟩))
    go_ret
    exact ⟨by first | rfl | (simp [errW_none, errW_some] <;> rfl) | (simp [*, errW_none, errW_some] <;> rfl), by repeat (first | (with_reducible first | exact HB.out | apply below_alloc | apply pw_below_drewN | apply below_drew1 | refine below_set ?_ GE149.out) | exact HB.out)⟩
  ·rw [if_neg c9] at H
   have c9b0 : (a0_3 == 1) = false := beq_eq_false_iff_ne.mpr c9
   have c9b1 : (a0_3 != 1) = true := bne_iff_ne.mpr c9
   by_cases c16 : a0_3 = 2
   ·rw [if_pos c16] at H
    have c16b0 : (a0_3 == 2) = true := beq_iff_eq.mpr c16
    have c16b1 : (a0_3 != 2) = false := bne_eq_false_iff_eq.mpr c16
    clear c16
    by_cases c17 : a0_4 = 0
    ·rw [if_pos c17] at H
     have c17b0 : (a0_4 == 0) = true := beq_iff_eq.mpr c17
     have c17b1 : (a0_4 != 0) = false := bne_eq_false_iff_eq.mpr c17
     clear c17
     by_cases c18 : a0_5 ≥ 0
     ·rw [if_pos c18] at H
      have c18b0 : decide (0 ≤ a0_5) = true := decide_eq_true c18
      clear c18
      obtain rfl := Option.some.inj H
      go_enter Tryz.func64, Tryz.ntmps64
      go_wp2_with (first | ((with_reducible refine gate_dst (N := 2) rfl ?_); refine box_event ?hg (N := 2) ?hd (cs := #[.string a0_0, .int .i64 a0_1, .int .i64 a0_2, .int .i64 a0_3, .int .i64 a0_4, .int .i64 a0_5, .slice A0_6 l0_6.length c0_6, .int .u64 a0_7, .int .u64 a0_8]) (t := 46) ?hr ?_; (case hd => rfl); (case hg => rfl); (case hr => first | (go_simp; done) | (go_simp; rfl)); intro gb149 hg w19 hbox hb; have n0_ := Aside0.mk (below_step (by repeat (first | (with_reducible first | exact HB.out | apply below_alloc | apply pw_below_drewN | apply below_drew1) | exact HB.out)) hb); have n1_ := Aside0.mk (hbox); have n2_ := Aside0.mk ((by rw [hg]; exact (below_size (by repeat (first | (with_reducible first | exact HB.out | apply below_alloc | apply pw_below_drewN | apply below_drew1) | exact HB.out))) : w.heap.size ≤ gb149)); have n3_ := Aside0.mk ((by rw [hg]; exact (below_size (by repeat (first | (with_reducible first | exact HB.out | apply below_alloc | apply pw_below_drewN | apply below_drew1) | exact HB.out))) : w.heap.size ≤ gb149)); clear HB; have HB := n0_; have BK149 := n1_; have GW149 := n2_; have GE149 := n3_; clear n0_ n1_ n2_ n3_; clear hb hbox hg; have hcz20_0 : w19.cell? ⟨gb149, 0, none⟩ = some (.string a0_0) := (blk_cell BK149.out 0).trans rfl; have hcz20_1 : w19.cell? ⟨gb149, 1, none⟩ = some (.int .i64 a0_1) := (blk_cell BK149.out 1).trans rfl; have hcz20_2 : w19.cell? ⟨gb149, 2, none⟩ = some (.int .i64 a0_2) := (blk_cell BK149.out 2).trans rfl; have hcz20_3 : w19.cell? ⟨gb149, 3, none⟩ = some (.int .i64 a0_3) := (blk_cell BK149.out 3).trans rfl; have hcz20_4 : w19.cell? ⟨gb149, 4, none⟩ = some (.int .i64 a0_4) := (blk_cell BK149.out 4).trans rfl; have hcz20_5 : w19.cell? ⟨gb149, 5, none⟩ = some (.int .i64 a0_5) := (blk_cell BK149.out 5).trans rfl; have hcz20_6 : w19.cell? ⟨gb149, 6, none⟩ = some (.slice A0_6 l0_6.length c0_6) := (blk_cell BK149.out 6).trans rfl; have hcz20_7 : w19.cell? ⟨gb149, 7, none⟩ = some (.int .u64 a0_7) := (blk_cell BK149.out 7).trans rfl; have hcz20_8 : w19.cell? ⟨gb149, 8, none⟩ = some (.int .u64 a0_8) := (blk_cell BK149.out 8).trans rfl; have hfz20_0 := blk_frozen BK149.out 0; have hfz20_1 := blk_frozen BK149.out 1; have hfz20_2 := blk_frozen BK149.out 2; have hfz20_3 := blk_frozen BK149.out 3; have hfz20_4 := blk_frozen BK149.out 4; have hfz20_5 := blk_frozen BK149.out 5; have hfz20_6 := blk_frozen BK149.out 6; have hfz20_7 := blk_frozen BK149.out 7; have hfz20_8 := blk_frozen BK149.out 8))
      go_ret
      exact ⟨by first | rfl | (simp [errW_none, errW_some] <;> rfl) | (simp [*, errW_none, errW_some] <;> rfl), by repeat (first | (with_reducible first | exact HB.out | apply below_alloc | apply pw_below_drewN | apply below_drew1 | refine below_set ?_ GE149.out) | exact HB.out)⟩
     ·rw [if_neg c18] at H
      have c18b0 : decide (0 ≤ a0_5) = false := decide_eq_false c18
      clear c18
      obtain rfl := Option.some.inj H
      go_enter Tryz.func64, Tryz.ntmps64
      go_wp2_with (first | ((with_reducible refine gate_dst (N := 2) rfl ?_); refine box_event ?hg (N := 2) ?hd (cs := #[.string a0_0, .int .i64 a0_1, .int .i64 a0_2, .int .i64 a0_3, .int .i64 a0_4, .int .i64 a0_5, .slice A0_6 l0_6.length c0_6, .int .u64 a0_7, .int .u64 a0_8]) (t := 46) ?hr ?_; (case hd => rfl); (case hg => rfl); (case hr => first | (go_simp; done) | (go_simp; rfl)); intro gb149 hg w21 hbox hb; have n0_ := Aside0.mk (below_step (by repeat (first | (with_reducible first | exact HB.out | apply below_alloc | apply pw_below_drewN | apply below_drew1) | exact HB.out)) hb); have n1_ := Aside0.mk (hbox); have n2_ := Aside0.mk ((by rw [hg]; exact (below_size (by repeat (first | (with_reducible first | exact HB.out | apply below_alloc | apply pw_below_drewN | apply below_drew1) | exact HB.out))) : w.heap.size ≤ gb149)); have n3_ := Aside0.mk ((by rw [hg]; exact (below_size (by repeat (first | (with_reducible first | exact HB.out | apply below_alloc | apply pw_below_drewN | apply below_drew1) | exact HB.out))) : w.heap.size ≤ gb149)); clear HB; have HB := n0_; have BK149 := n1_; have GW149 := n2_; have GE149 := n3_; clear n0_ n1_ n2_ n3_; clear hb hbox hg; have hcz22_0 : w21.cell? ⟨gb149, 0, none⟩ = some (.string a0_0) := (blk_cell BK149.out 0).trans rfl; have hcz22_1 : w21.cell? ⟨gb149, 1, none⟩ = some (.int .i64 a0_1) := (blk_cell BK149.out 1).trans rfl; have hcz22_2 : w21.cell? ⟨gb149, 2, none⟩ = some (.int .i64 a0_2) := (blk_cell BK149.out 2).trans rfl; have hcz22_3 : w21.cell? ⟨gb149, 3, none⟩ = some (.int .i64 a0_3) := (blk_cell BK149.out 3).trans rfl; have hcz22_4 : w21.cell? ⟨gb149, 4, none⟩ = some (.int .i64 a0_4) := (blk_cell BK149.out 4).trans rfl; have hcz22_5 : w21.cell? ⟨gb149, 5, none⟩ = some (.int .i64 a0_5) := (blk_cell BK149.out 5).trans rfl; have hcz22_6 : w21.cell? ⟨gb149, 6, none⟩ = some (.slice A0_6 l0_6.length c0_6) := (blk_cell BK149.out 6).trans rfl; have hcz22_7 : w21.cell? ⟨gb149, 7, none⟩ = some (.int .u64 a0_7) := (blk_cell BK149.out 7).trans rfl; have hcz22_8 : w21.cell? ⟨gb149, 8, none⟩ = some (.int .u64 a0_8) := (blk_cell BK149.out 8).trans rfl; have hfz22_0 := blk_frozen BK149.out 0; have hfz22_1 := blk_frozen BK149.out 1; have hfz22_2 := blk_frozen BK149.out 2; have hfz22_3 := blk_frozen BK149.out 3; have hfz22_4 := blk_frozen BK149.out 4; have hfz22_5 := blk_frozen BK149.out 5; have hfz22_6 := blk_frozen BK149.out 6; have hfz22_7 := blk_frozen BK149.out 7; have hfz22_8 := blk_frozen BK149.out 8))
      go_ret
      exact ⟨by first | rfl | (simp [errW_none, errW_some] <;> rfl) | (simp [*, errW_none, errW_some] <;> rfl), by repeat (first | (with_reducible first | exact HB.out | apply below_alloc | apply pw_below_drewN | apply below_drew1 | refine below_set ?_ GE149.out) | exact HB.out)⟩
    ·rw [if_neg c17] at H
     have c17b0 : (a0_4 == 0) = false := beq_eq_false_iff_ne.mpr c17
     have c17b1 : (a0_4 != 0) = true := bne_iff_ne.mpr c17
     obtain rfl := Option.some.inj H
     go_enter Tryz.func64, Tryz.ntmps64
     go_wp2_with (first | ((with_reducible refine gate_dst (N := 2) rfl ?_); refine box_event ?hg (N := 2) ?hd (cs := #[.string a0_0, .int .i64 a0_1, .int .i64 a0_2, .int .i64 a0_3, .int .i64 a0_4, .int .i64 a0_5, .slice A0_6 l0_6.length c0_6, .int .u64 a0_7, .int .u64 a0_8]) (t := 46) ?hr ?_; (case hd => rfl); (case hg => rfl); (case hr => first | (go_simp; done) | (go_simp; rfl)); intro gb149 hg w23 hbox hb; have n0_ := Aside0.mk (below_step (by repeat (first | (with_reducible first | exact HB.out | apply below_alloc | apply pw_below_drewN | apply below_drew1) | exact HB.out)) hb); have n1_ := Aside0.mk (hbox); have n2_ := Aside0.mk ((by rw [hg]; exact (below_size (by repeat (first | (with_reducible first | exact HB.out | apply below_alloc | apply pw_below_drewN | apply below_drew1) | exact HB.out))) : w.heap.size ≤ gb149)); have n3_ := Aside0.mk ((by rw [hg]; exact (below_size (by repeat (first | (with_reducible first | exact HB.out | apply below_alloc | apply pw_below_drewN | apply below_drew1) | exact HB.out))) : w.heap.size ≤ gb149)); clear HB; have HB := n0_; have BK149 := n1_; have GW149 := n2_; have GE149 := n3_; clear n0_ n1_ n2_ n3_; clear hb hbox hg; have hcz24_0 : w23.cell? ⟨gb149, 0, none⟩ = some (.string a0_0) := (blk_cell BK149.out 0).trans rfl; have hcz24_1 : w23.cell? ⟨gb149, 1, none⟩ = some (.int .i64 a0_1) := (blk_cell BK149.out 1).trans rfl; have hcz24_2 : w23.cell? ⟨gb149, 2, none⟩ = some (.int .i64 a0_2) := (blk_cell BK149.out 2).trans rfl; have hcz24_3 : w23.cell? ⟨gb149, 3, none⟩ = some (.int .i64 a0_3) := (blk_cell BK149.out 3).trans rfl; have hcz24_4 : w23.cell? ⟨gb149, 4, none⟩ = some (.int .i64 a0_4) := (blk_cell BK149.out 4).trans rfl; have hcz24_5 : w23.cell? ⟨gb149, 5, none⟩ = some (.int .i64 a0_5) := (blk_cell BK149.out 5).trans rfl; have hcz24_6 : w23.cell? ⟨gb149, 6, none⟩ = some (.slice A0_6 l0_6.length c0_6) := (blk_cell BK149.out 6).trans rfl; have hcz24_7 : w23.cell? ⟨gb149, 7, none⟩ = some (.int .u64 a0_7) := (blk_cell BK149.out 7).trans rfl; have hcz24_8 : w23.cell? ⟨gb149, 8, none⟩ = some (.int .u64 a0_8) := (blk_cell BK149.out 8).trans rfl; have hfz24_0 := blk_frozen BK149.out 0; have hfz24_1 := blk_frozen BK149.out 1; have hfz24_2 := blk_frozen BK149.out 2; have hfz24_3 := blk_frozen BK149.out 3; have hfz24_4 := blk_frozen BK149.out 4; have hfz24_5 := blk_frozen BK149.out 5; have hfz24_6 := blk_frozen BK149.out 6; have hfz24_7 := blk_frozen BK149.out 7; have hfz24_8 := blk_frozen BK149.out 8))
     go_ret
     exact ⟨by first | rfl | (simp [errW_none, errW_some] <;> rfl) | (simp [*, errW_none, errW_some] <;> rfl), by repeat (first | (with_reducible first | exact HB.out | apply below_alloc | apply pw_below_drewN | apply below_drew1 | refine below_set ?_ GE149.out) | exact HB.out)⟩
   ·rw [if_neg c16] at H
    have c16b0 : (a0_3 == 2) = false := beq_eq_false_iff_ne.mpr c16
    have c16b1 : (a0_3 != 2) = true := bne_iff_ne.mpr c16
    obtain rfl := Option.some.inj H
    go_enter Tryz.func64, Tryz.ntmps64
    go_wp2_with (first | ((with_reducible refine gate_dst (N := 2) rfl ?_); refine box_event ?hg (N := 2) ?hd (cs := #[.string a0_0, .int .i64 a0_1, .int .i64 a0_2, .int .i64 a0_3, .int .i64 a0_4, .int .i64 a0_5, .slice A0_6 l0_6.length c0_6, .int .u64 a0_7, .int .u64 a0_8]) (t := 46) ?hr ?_; (case hd => rfl); (case hg => rfl); (case hr => first | (go_simp; done) | (go_simp; rfl)); intro gb149 hg w25 hbox hb; have n0_ := Aside0.mk (below_step (by repeat (first | (with_reducible first | exact HB.out | apply below_alloc | apply pw_below_drewN | apply below_drew1) | exact HB.out)) hb); have n1_ := Aside0.mk (hbox); have n2_ := Aside0.mk ((by rw [hg]; exact (below_size (by repeat (first | (with_reducible first | exact HB.out | apply below_alloc | apply pw_below_drewN | apply below_drew1) | exact HB.out))) : w.heap.size ≤ gb149)); have n3_ := Aside0.mk ((by rw [hg]; exact (below_size (by repeat (first | (with_reducible first | exact HB.out | apply below_alloc | apply pw_below_drewN | apply below_drew1) | exact HB.out))) : w.heap.size ≤ gb149)); clear HB; have HB := n0_; have BK149 := n1_; have GW149 := n2_; have GE149 := n3_; clear n0_ n1_ n2_ n3_; clear hb hbox hg; have hcz26_0 : w25.cell? ⟨gb149, 0, none⟩ = some (.string a0_0) := (blk_cell BK149.out 0).trans rfl; have hcz26_1 : w25.cell? ⟨gb149, 1, none⟩ = some (.int .i64 a0_1) := (blk_cell BK149.out 1).trans rfl; have hcz26_2 : w25.cell? ⟨gb149, 2, none⟩ = some (.int .i64 a0_2) := (blk_cell BK149.out 2).trans rfl; have hcz26_3 : w25.cell? ⟨gb149, 3, none⟩ = some (.int .i64 a0_3) := (blk_cell BK149.out 3).trans rfl; have hcz26_4 : w25.cell? ⟨gb149, 4, none⟩ = some (.int .i64 a0_4) := (blk_cell BK149.out 4).trans rfl; have hcz26_5 : w25.cell? ⟨gb149, 5, none⟩ = some (.int .i64 a0_5) := (blk_cell BK149.out 5).trans rfl; have hcz26_6 : w25.cell? ⟨gb149, 6, none⟩ = some (.slice A0_6 l0_6.length c0_6) := (blk_cell BK149.out 6).trans rfl; have hcz26_7 : w25.cell? ⟨gb149, 7, none⟩ = some (.int .u64 a0_7) := (blk_cell BK149.out 7).trans rfl; have hcz26_8 : w25.cell? ⟨gb149, 8, none⟩ = some (.int .u64 a0_8) := (blk_cell BK149.out 8).trans rfl; have hfz26_0 := blk_frozen BK149.out 0; have hfz26_1 := blk_frozen BK149.out 1; have hfz26_2 := blk_frozen BK149.out 2; have hfz26_3 := blk_frozen BK149.out 3; have hfz26_4 := blk_frozen BK149.out 4; have hfz26_5 := blk_frozen BK149.out 5; have hfz26_6 := blk_frozen BK149.out 6; have hfz26_7 := blk_frozen BK149.out 7; have hfz26_8 := blk_frozen BK149.out 8))
    go_ret
    exact ⟨by first | rfl | (simp [errW_none, errW_some] <;> rfl) | (simp [*, errW_none, errW_some] <;> rfl), by repeat (first | (with_reducible first | exact HB.out | apply below_alloc | apply pw_below_drewN | apply below_drew1 | refine below_set ?_ GE149.out) | exact HB.out)⟩
def task_Work.l0 : Nat → Int → List Int → Int → Int → Option (Int)
 | 0, _, _, _, _ => none
 | k + 1, x3, x7, x8, x9 => if x9 < x8 then (if 0 ≤ x9 then (if x9 < (x7.length : Int) then (task_Work.l0 k (wrap64 (x3 + (rd x7 x9))) x7 x8 (wrap64 (x9 + 1))) else (none)) else (none)) else (some x3)
def task_Work.f (k : Nat) (a0_0 : ByteArray) (a0_1 : Int) (a0_2 : Int) (a0_3 : Int) (a0_4 : Int) (a0_5 : Int) (l0_6 : List Int) (a0_7 : Int) (a0_8 : Int) : Option (Int) := task_Work.l0 k 0 l0_6 (l0_6.length : Int) 0
set_option maxHeartbeats 8000000 in
set_option maxRecDepth 100000 in
theorem task_Work.calls (k : Nat) (a0_0 : ByteArray) (a0_1 : Int) (a0_2 : Int) (a0_3 : Int) (a0_4 : Int) (a0_5 : Int) (A0_6 : Option Addr) (c0_6 : Nat) (l0_6 : List Int) (a0_7 : Int) (a0_8 : Int) (r : Int) (w : World) (hr0_6 : Kd.C (Kd.int .i64) w A0_6 l0_6.length l0_6) (hc0_6 : l0_6.length ≤ c0_6) (h : task_Work.f k a0_0 a0_1 a0_2 a0_3 a0_4 a0_5 l0_6 a0_7 a0_8 = some r) :
  Calls Tryz.prog 59 #[.agg #[.string a0_0, .int .i64 a0_1, .int .i64 a0_2, .int .i64 a0_3, .int .i64 a0_4, .int .i64 a0_5, .slice A0_6 l0_6.length c0_6, .int .u64 a0_7, .int .u64 a0_8]] w fun e w' => e = .returned (.int .i64 r) ∧ Below w.heap.size w w' := by
 have hu46 := Tryz.underlying46
 have HR0_6 := Aside0.mk hr0_6
 have HC0_6 := Aside0.mk hc0_6
 clear hr0_6 hc0_6
 have HB := Aside0.mk (Below.refl w.heap.size w)
 have H : (task_Work.l0 k 0 l0_6 (l0_6.length : Int) 0) = some r := h
 clear h
 have H' := Aside0.mk H
 clear H
 go_enter Tryz.func59, Tryz.ntmps59
 go_wp2_with (first | ((with_reducible refine gate_dst (N := 1) rfl ?_); refine box_event ?hg (N := 1) ?hd (cs := #[.string a0_0, .int .i64 a0_1, .int .i64 a0_2, .int .i64 a0_3, .int .i64 a0_4, .int .i64 a0_5, .slice A0_6 l0_6.length c0_6, .int .u64 a0_7, .int .u64 a0_8]) (t := 46) ?hr ?_; (case hd => rfl); (case hg => rfl); (case hr => first | (go_simp; done) | (go_simp; rfl)); intro gb105 hg w2 hbox hb; have n0_ := Aside0.mk (below_step (by repeat (first | (with_reducible first | exact HB.out | apply below_alloc | apply pw_below_drewN | apply below_drew1) | exact HB.out)) hb); have n1_ := Aside0.mk (hbox); have n2_ := Aside0.mk ((by rw [hg]; exact (below_size (by repeat (first | (with_reducible first | exact HB.out | apply below_alloc | apply pw_below_drewN | apply below_drew1) | exact HB.out))) : w.heap.size ≤ gb105)); have n3_ := Aside0.mk ((by rw [hg]; exact (below_size (by repeat (first | (with_reducible first | exact HB.out | apply below_alloc | apply pw_below_drewN | apply below_drew1) | exact HB.out))) : w.heap.size ≤ gb105)); clear HB; have HB := n0_; have BK105 := n1_; have GW105 := n2_; have GE105 := n3_; clear n0_ n1_ n2_ n3_; clear hb hbox hg; have hcz3_0 : w2.cell? ⟨gb105, 0, none⟩ = some (.string a0_0) := (blk_cell BK105.out 0).trans rfl; have hcz3_1 : w2.cell? ⟨gb105, 1, none⟩ = some (.int .i64 a0_1) := (blk_cell BK105.out 1).trans rfl; have hcz3_2 : w2.cell? ⟨gb105, 2, none⟩ = some (.int .i64 a0_2) := (blk_cell BK105.out 2).trans rfl; have hcz3_3 : w2.cell? ⟨gb105, 3, none⟩ = some (.int .i64 a0_3) := (blk_cell BK105.out 3).trans rfl; have hcz3_4 : w2.cell? ⟨gb105, 4, none⟩ = some (.int .i64 a0_4) := (blk_cell BK105.out 4).trans rfl; have hcz3_5 : w2.cell? ⟨gb105, 5, none⟩ = some (.int .i64 a0_5) := (blk_cell BK105.out 5).trans rfl; have hcz3_6 : w2.cell? ⟨gb105, 6, none⟩ = some (.slice A0_6 l0_6.length c0_6) := (blk_cell BK105.out 6).trans rfl; have hcz3_7 : w2.cell? ⟨gb105, 7, none⟩ = some (.int .u64 a0_7) := (blk_cell BK105.out 7).trans rfl; have hcz3_8 : w2.cell? ⟨gb105, 8, none⟩ = some (.int .u64 a0_8) := (blk_cell BK105.out 8).trans rfl; have hfz3_0 := blk_frozen BK105.out 0; have hfz3_1 := blk_frozen BK105.out 1; have hfz3_2 := blk_frozen BK105.out 2; have hfz3_3 := blk_frozen BK105.out 3; have hfz3_4 := blk_frozen BK105.out 4; have hfz3_5 := blk_frozen BK105.out 5; have hfz3_6 := blk_frozen BK105.out 6; have hfz3_7 := blk_frozen BK105.out 7; have hfz3_8 := blk_frozen BK105.out 8))
 go_loopg [3, 9] k (fun kq v3 v9 w' => ∃ (x3_1 : Int) (x9_1 : Int), v3 = .int .i64 x3_1 ∧ v9 = .int .i64 x9_1 ∧ Aside0 (task_Work.l0 kq x3_1 l0_6 (l0_6.length : Int) x9_1 = some r) ∧ Aside0 (kq ≤ k) ∧ Aside0 (w'.heap[gb105]? = some (.cells #[.string a0_0, .int .i64 a0_1, .int .i64 a0_2, .int .i64 a0_3, .int .i64 a0_4, .int .i64 a0_5, (.slice A0_6 l0_6.length c0_6), .int .u64 a0_7, .int .u64 a0_8] 46 (0, 0))) ∧ Aside0 (Below w.heap.size w w'))
 case atStart => exact ⟨(0), (0), (by first | rfl | (simp; done) | (simp [*]; done)), (by first | rfl | (simp; done) | (simp [*]; done)), H', ⟨Nat.le_refl _⟩, ⟨by (with_reducible repeat (first | refine blk_drewN ?_ _ | refine blk_drew ?_ | refine blk_alloc ?_ _)); exact BK105.out⟩, ⟨by repeat (first | (with_reducible first | exact HB.out | apply below_alloc | apply pw_below_drewN | apply below_drew1 | refine below_set ?_ GE105.out) | exact HB.out)⟩⟩
 case round =>
  clear H'
  try clear p2
  try clear hcz3_0
  try clear hcz3_1
  try clear hcz3_2
  try clear hcz3_3
  try clear hcz3_4
  try clear hcz3_5
  try clear hcz3_6
  try clear hcz3_7
  try clear hcz3_8
  try clear hfz3_0
  try clear hfz3_1
  try clear hfz3_2
  try clear hfz3_3
  try clear hfz3_4
  try clear hfz3_5
  try clear hfz3_6
  try clear hfz3_7
  try clear hfz3_8
  obtain ⟨x3_1, x9_1, rfl, rfl, HA, HK1, BK105, HB⟩ := hrel
  cases gk with
  | zero => exact absurd HA.out (by simp [task_Work.l0])
  | succ k1 =>
   have H := HA.out
   clear HA
   simp only [task_Work.l0] at H
   by_cases c4 : x9_1 < (l0_6.length : Int)
   ·rw [if_pos c4] at H
    have c4b0 : decide (x9_1 < (l0_6.length : Int)) = true := decide_eq_true c4
    clear c4
    by_cases c5 : 0 ≤ x9_1
    ·rw [if_pos c5] at H
     have c5b0 : decide (0 ≤ x9_1) = true := decide_eq_true c5
     clear c5
     by_cases c6 : x9_1 < (l0_6.length : Int)
     ·rw [if_pos c6] at H
      have c6b0 : decide (x9_1 < (l0_6.length : Int)) = true := decide_eq_true c6
      clear c6
      have H' := Aside0.mk H
      clear H
      have p106 : 0 ≤ (x9_1 : Int) := of_decide_eq_true (by first | (with_reducible assumption) | assumption)
      have q106 : x9_1 < (l0_6.length : Int) := of_decide_eq_true (by first | (with_reducible assumption) | assumption)
      obtain ⟨ad106, e106, hx106_0⟩ := Kd.at_int HR0_6.out x9_1 p106 q106
      cases e106
      replace hx106_0 := (HB.out.cell (World.block_lt_of_cell? w _ hx106_0)).trans hx106_0
      replace p106 := eq_true p106
      replace q106 := eq_true q106
      go_wp2
      go_roundg k1
      case measure => have := HK1.out; omega
      case rel => exact ⟨(wrap64 (x3_1 + (rd l0_6 x9_1))), (wrap64 (x9_1 + 1)), (by first | rfl | (simp; done) | (simp [*]; done)), (by first | rfl | (simp; done) | (simp [*]; done)), H', ⟨by have := HK1.out; omega⟩, ⟨by (with_reducible repeat (first | refine blk_drewN ?_ _ | refine blk_drew ?_ | refine blk_alloc ?_ _)); exact BK105.out⟩, ⟨by repeat (first | (with_reducible first | exact HB.out | apply below_alloc | apply pw_below_drewN | apply below_drew1 | refine below_set ?_ GE105.out) | exact HB.out)⟩⟩
     ·rw [if_neg c6] at H
      exact absurd H (by simp)
    ·rw [if_neg c5] at H
     exact absurd H (by simp)
   ·rw [if_neg c4] at H
    have c4b0 : decide (x9_1 < (l0_6.length : Int)) = false := decide_eq_false c4
    clear c4
    obtain rfl := Option.some.inj H
    go_wp2
    go_ret
    exact ⟨by first | rfl | (simp [errW_none, errW_some] <;> rfl) | (simp [*, errW_none, errW_some] <;> rfl), by repeat (first | (with_reducible first | exact HB.out | apply below_alloc | apply pw_below_drewN | apply below_drew1 | refine below_set ?_ GE105.out) | exact HB.out)⟩
end Go.Proofs.YtaofmmnfenlofaaGreatDoor.QTc
namespace Go.Proofs.YtaofmmnfenlofaaGreatDoor.QTc
open Go.RowKit Go.Proofs.YtaofmmnfenlofaaGreatDoorW.PrintWords Go.Proofs.YtaofmmnfenlofaaGreatDoorW.PrintLast Go.Proofs.YtaofmmnfenlofaaGreatDoorW.PrintMore
set_option linter.unusedVariables false
set_option linter.unusedSimpArgs false
theorem tok_two {w : World} {base : Nat} {ok : Nat → Prop} {v : Value} {a b : S155} (h : Kd.R k155 155 w base ok v [a, b]) :
    ∃ g o c, v = .slice (some ⟨g, o, none⟩) 2 c ∧ w.cell? ⟨g, o, none⟩ = some (.int .i64 a.f0) ∧ w.cell? ⟨g, o + 1, none⟩ = some (.string a.f1) := by
  obtain ⟨A, c, rfl, hlc, hC⟩ := Kd.R_reads h
  obtain ⟨ad, rfl, hc0, hc1, hc2, hc3⟩ := at_T155 hC 0 (Int.le_refl 0) (by simp)
  have e0 : ad.add ((0 : Int).toNat * 4) = ad := rfl
  rw [e0] at hc0 hc1
  have hsp : ad.spot = none := by
    unfold World.cell? at hc0
    split at hc0
    · split at hc0
      · cases hc0
      · next hs => simpa using hs
    · cases hc0
  obtain ⟨g, o, sp⟩ := ad
  have hsp' : sp = none := hsp
  subst hsp'
  exact ⟨g, o, c, rfl, hc0, hc1⟩
set_option maxHeartbeats 4000000 in
theorem isName_yes (k : Nat) (s : ByteArray) (x y m : Int) (t : S155) (w : World) (hT : TabW w) (h : lex_Tokens.f k s = some ([⟨1, s, x, y⟩, t], m, 0)) :
    Calls Tryz.prog 62 #[.string s] w fun e w' => e = .returned (.bool true) ∧ Below w.heap.size w w' := by
  have HT := Aside0.mk hT
  have HK := Aside0.mk h
  clear hT h
  go_enter Tryz.func62, Tryz.ntmps62
  go_wp2_with (go_at_call 103; (with_reducible refine (lex_Tokens.calls k s _ m 0 _ HT.out HK.out).mono ?_); (rintro e w5 ⟨v, rfl, hR, hb⟩; obtain ⟨g, o, c, rfl, hc0, hc1⟩ := tok_two hR; have i1 : (0 : Int) < (2 : Int) := (by omega); have HB := Aside0.mk hb; clear hR hb))
  go_ret
  exact ⟨by first | rfl | (simp; done) | (simp [*]; done), HB.out⟩
structure BoxT (w : World) (B : Nat) (a0_0 : ByteArray) (a0_1 a0_2 a0_3 a0_4 a0_5 : Int) (A0_6 : Option Addr) (c0_6 : Nat) (l0_6 : List Int) (a0_7 a0_8 : Int) (W : World) : Prop where
  blk : W.heap[B]? = some (.cells #[.string a0_0, .int .i64 a0_1, .int .i64 a0_2, .int .i64 a0_3, .int .i64 a0_4, .int .i64 a0_5, .slice A0_6 l0_6.length c0_6, .int .u64 a0_7, .int .u64 a0_8] 46 (0, 0))
  below : Below B w W
theorem BoxT.all {w W : World} {B : Nat} {a0_0 : ByteArray} {a0_1 a0_2 a0_3 a0_4 a0_5 : Int} {A0_6 : Option Addr} {c0_6 : Nat} {l0_6 : List Int} {a0_7 a0_8 : Int} (h : BoxT w B a0_0 a0_1 a0_2 a0_3 a0_4 a0_5 A0_6 c0_6 l0_6 a0_7 a0_8 W) : BoxT w B a0_0 a0_1 a0_2 a0_3 a0_4 a0_5 A0_6 c0_6 l0_6 a0_7 a0_8 W ∧ W.cell? ⟨B, 0, none⟩ = some (.string a0_0) ∧ W.cell? ⟨B, 1, none⟩ = some (.int .i64 a0_1) ∧ W.cell? ⟨B, 2, none⟩ = some (.int .i64 a0_2) ∧ W.cell? ⟨B, 3, none⟩ = some (.int .i64 a0_3) ∧ W.cell? ⟨B, 4, none⟩ = some (.int .i64 a0_4) ∧ W.cell? ⟨B, 5, none⟩ = some (.int .i64 a0_5) ∧ W.cell? ⟨B, 6, none⟩ = some (.slice A0_6 l0_6.length c0_6) ∧ W.cell? ⟨B, 7, none⟩ = some (.int .u64 a0_7) ∧ W.cell? ⟨B, 8, none⟩ = some (.int .u64 a0_8) :=
  ⟨h, blk_cell h.blk 0, blk_cell h.blk 1, blk_cell h.blk 2, blk_cell h.blk 3, blk_cell h.blk 4, blk_cell h.blk 5, blk_cell h.blk 6, blk_cell h.blk 7, blk_cell h.blk 8⟩
theorem BoxT.step {w W W' : World} {B : Nat} {a0_0 : ByteArray} {a0_1 a0_2 a0_3 a0_4 a0_5 : Int} {A0_6 : Option Addr} {c0_6 : Nat} {l0_6 : List Int} {a0_7 a0_8 : Int} (h : BoxT w B a0_0 a0_1 a0_2 a0_3 a0_4 a0_5 A0_6 c0_6 l0_6 a0_7 a0_8 W) (hb : Below W.heap.size W W') : BoxT w B a0_0 a0_1 a0_2 a0_3 a0_4 a0_5 A0_6 c0_6 l0_6 a0_7 a0_8 W' :=
  ⟨(hb.block _ (blk_lt h.blk)).trans h.blk, h.below.trans (hb.mono (Nat.le_of_lt (blk_lt h.blk)))⟩
theorem BoxT.drewN {w W : World} {B : Nat} {a0_0 : ByteArray} {a0_1 a0_2 a0_3 a0_4 a0_5 : Int} {A0_6 : Option Addr} {c0_6 : Nat} {l0_6 : List Int} {a0_7 a0_8 : Int} (h : BoxT w B a0_0 a0_1 a0_2 a0_3 a0_4 a0_5 A0_6 c0_6 l0_6 a0_7 a0_8 W) (n : Nat) : BoxT w B a0_0 a0_1 a0_2 a0_3 a0_4 a0_5 A0_6 c0_6 l0_6 a0_7 a0_8 (W.drewN n) := ⟨h.blk, pw_below_drewN h.below n⟩
set_option maxHeartbeats 8000000 in
set_option maxRecDepth 100000 in
theorem Is_yes (k : Nat) (a0_0 : ByteArray) (a0_1 a0_2 a0_3 a0_4 a0_5 : Int) (A0_6 : Option Addr) (c0_6 : Nat) (l0_6 : List Int) (a0_7 a0_8 p n x y m : Int) (t : S155) (w : World) (hT : TabW w)
    (hr : Kd.C (Kd.int .i64) w A0_6 l0_6.length l0_6) (hc : l0_6.length ≤ c0_6) (hN : lex_Tokens.f k a0_0 = some ([⟨1, a0_0, x, y⟩, t], m, 0)) (hR : task_isRegions.f l0_6 = some true)
    (hW : task_Work.f k a0_0 a0_1 a0_2 a0_3 a0_4 a0_5 l0_6 a0_7 a0_8 = some n) (h1 : n ≤ a0_2) (h2 : a0_2 ≤ a0_1) (h3 : task_isTime.f a0_1 0 = some true)
    (hM : task_isMode.f a0_0 a0_1 a0_2 a0_3 a0_4 a0_5 l0_6 a0_7 a0_8 p = some true) (h4 : (Go.bits .andNot .u64 a0_8 a0_7 == 0) = true) :
    Calls Tryz.prog 34 #[.agg #[.string a0_0, .int .i64 a0_1, .int .i64 a0_2, .int .i64 a0_3, .int .i64 a0_4, .int .i64 a0_5, .slice A0_6 l0_6.length c0_6, .int .u64 a0_7, .int .u64 a0_8], .int .i64 p] w fun e w' => e = .returned (.bool true) ∧ Below w.heap.size w w' := by
  have HT := Aside0.mk hT
  have HR := Aside0.mk hr
  have HC := Aside0.mk hc
  have HN := Aside0.mk hN
  have HReg := Aside0.mk hR
  have HWk := Aside0.mk hW
  have HTm := Aside0.mk h3
  have HMd := Aside0.mk hM
  have q1 : decide (n ≤ a0_2) = true := decide_eq_true h1
  have q2 : decide (a0_2 ≤ a0_1) = true := decide_eq_true h2
  clear hT hr hc hN hR hW h3 hM
  have hu := Tryz.underlying46
  go_enter Tryz.func34, Tryz.ntmps34
  go_wp2_with fail
  have hbox : (w.alloc (.cells #[.string a0_0, .int .i64 a0_1, .int .i64 a0_2, .int .i64 a0_3, .int .i64 a0_4, .int .i64 a0_5, .slice A0_6 l0_6.length c0_6, .int .u64 a0_7, .int .u64 a0_8] 46)).heap[w.heap.size]? = some (.cells #[.string a0_0, .int .i64 a0_1, .int .i64 a0_2, .int .i64 a0_3, .int .i64 a0_4, .int .i64 a0_5, .slice A0_6 l0_6.length c0_6, .int .u64 a0_7, .int .u64 a0_8] 46 (0, 0)) := heap_alloc_new w _
  have hb0 : Below w.heap.size w (w.alloc (.cells #[.string a0_0, .int .i64 a0_1, .int .i64 a0_2, .int .i64 a0_3, .int .i64 a0_4, .int .i64 a0_5, .slice A0_6 l0_6.length c0_6, .int .u64 a0_7, .int .u64 a0_8] 46)) := Below.alloc (Below.refl _ _) (Nat.le_refl _) _
  generalize w.alloc (.cells #[.string a0_0, .int .i64 a0_1, .int .i64 a0_2, .int .i64 a0_3, .int .i64 a0_4, .int .i64 a0_5, .slice A0_6 l0_6.length c0_6, .int .u64 a0_7, .int .u64 a0_8] 46) = w1 at hbox hb0 ⊢
  have hS0 := BoxT.mk hbox hb0
  clear hbox hb0
  go_region_held3 (fun W => BoxT w w.heap.size a0_0 a0_1 a0_2 a0_3 a0_4 a0_5 A0_6 c0_6 l0_6 a0_7 a0_8 W ∧ W.cell? ⟨w.heap.size, 0, none⟩ = some (.string a0_0) ∧ W.cell? ⟨w.heap.size, 1, none⟩ = some (.int .i64 a0_1) ∧ W.cell? ⟨w.heap.size, 2, none⟩ = some (.int .i64 a0_2) ∧ W.cell? ⟨w.heap.size, 3, none⟩ = some (.int .i64 a0_3) ∧ W.cell? ⟨w.heap.size, 4, none⟩ = some (.int .i64 a0_4) ∧ W.cell? ⟨w.heap.size, 5, none⟩ = some (.int .i64 a0_5) ∧ W.cell? ⟨w.heap.size, 6, none⟩ = some (.slice A0_6 l0_6.length c0_6) ∧ W.cell? ⟨w.heap.size, 7, none⟩ = some (.int .u64 a0_7) ∧ W.cell? ⟨w.heap.size, 8, none⟩ = some (.int .u64 a0_8))
    (first | exact BoxT.all (BoxT.drewN hS0 1) | exact BoxT.all (by assumption) | exact BoxT.all (BoxT.drewN (by assumption) _))
    ((first | (go_at_call 62; (with_reducible refine (isName_yes k a0_0 x y m t _ ?sideT HN.out).mono ?_); (case sideT => exact TabW.below HT.out (Below.mono (BoxT.below (by (first | exact BoxT.drewN hS0 1 | assumption | exact BoxT.drewN (by assumption) _))) (Nat.le_refl _))); rintro e w5 ⟨rfl, hb⟩; have hS5 := BoxT.step (W := _) (by (first | exact BoxT.drewN hS0 1 | assumption | exact BoxT.drewN (by assumption) _)) hb; clear hb) | (go_at_call 63; (with_reducible refine (task_isRegions.calls A0_6 c0_6 l0_6 true _ ?sideR HC.out HReg.out).mono ?_); (case sideR => exact Kd.C_below HR.out (BoxT.below (by (first | exact BoxT.drewN hS0 1 | assumption | exact BoxT.drewN (by assumption) _)))); rintro e w5 ⟨rfl, ⟨nd, rfl⟩⟩) | (go_at_call 59; (with_reducible refine (task_Work.calls k a0_0 a0_1 a0_2 a0_3 a0_4 a0_5 A0_6 c0_6 l0_6 a0_7 a0_8 n _ ?sideR HC.out HWk.out).mono ?_); (case sideR => exact Kd.C_below HR.out (BoxT.below (by (first | exact BoxT.drewN hS0 1 | assumption | exact BoxT.drewN (by assumption) _)))); rintro e w5 ⟨rfl, hb⟩; have hS5 := BoxT.step (W := _) (by (first | exact BoxT.drewN hS0 1 | assumption | exact BoxT.drewN (by assumption) _)) hb; clear hb) | (go_at_call 33; (with_reducible refine (task_isTime.calls a0_1 0 true _ HTm.out).mono ?_); rintro e w5 ⟨rfl, ⟨nd, rfl⟩⟩) | (go_at_call 64; (with_reducible refine (task_isMode.calls a0_0 a0_1 a0_2 a0_3 a0_4 a0_5 A0_6 c0_6 l0_6 a0_7 a0_8 p true _ ?sideR HC.out HMd.out).mono ?_); (case sideR => exact Kd.C_below HR.out (BoxT.below (by (first | exact BoxT.drewN hS0 1 | assumption | exact BoxT.drewN (by assumption) _)))); rintro e w5 ⟨rfl, hb⟩; have hS5 := BoxT.step (W := _) (by (first | exact BoxT.drewN hS0 1 | assumption | exact BoxT.drewN (by assumption) _)) hb; clear hb)))
  go_wp2
  go_ret
  exact ⟨by first | rfl | (simp; done) | (simp [*]; done), by first | exact BoxT.below (by assumption) | exact BoxT.below (BoxT.drewN (by assumption) _)⟩
end Go.Proofs.YtaofmmnfenlofaaGreatDoor.QTc
namespace Go.Proofs.YtaofmmnfenlofaaGreatDoor.QTc
open Go.RowKit Go.Maps Go.WideMaps Go.Proofs.YtaofmmnfenlofaaGreatDoorW.PrintWords Go.Proofs.YtaofmmnfenlofaaGreatDoorW.PrintLast Go.Proofs.YtaofmmnfenlofaaGreatDoorW.PrintMore
set_option linter.unusedVariables false
set_option linter.unusedSimpArgs false
structure IsOk (k : Nat) (t : S46) (p : Int) : Prop where
  name : ∃ x y m tk, lex_Tokens.f k t.f0 = some ([⟨1, t.f0, x, y⟩, tk], m, 0)
  reg : task_isRegions.f t.f6 = some true
  work : ∃ n, task_Work.f k t.f0 t.f1 t.f2 t.f3 t.f4 t.f5 t.f6 t.f7 t.f8 = some n ∧ n ≤ t.f2
  le : t.f2 ≤ t.f1
  time : task_isTime.f t.f1 0 = some true
  mode : task_isMode.f t.f0 t.f1 t.f2 t.f3 t.f4 t.f5 t.f6 t.f7 t.f8 p = some true
  sets : (Go.bits .andNot .u64 t.f8 t.f7 == 0) = true
def keyN (t : S46) : Lit := .string t.f0.data.toList
def setN (l : List S46) (k : Nat) : DataW Unit := setOf (.lit (.bool true)) ((l.take k).map keyN)
theorem law9 : Keyed Tryz.prog 9 := string_keyed Tryz.underlying9
theorem setN_succ (l : List S46) (k : Nat) (hk : k < l.length) : setN l (k + 1) = (setN l k).put (keyN (rd_T46 l (k : Int))) (.lit (.bool true)) := by
  unfold setN rd_T46
  rw [List.take_add_one, List.map_append, List.getElem?_eq_getElem hk, Int.toNat_natCast, List.getD_eq_getElem?_getD, List.getElem?_eq_getElem hk]
  exact setOf_snoc _ _ _
theorem setN_zero (l : List S46) : setN l 0 = .map [] := by simp [setN, setOf]
theorem keyN_is (t : S46) : WideAt.IsKeyLit (keyN t) := trivial
theorem setN_no (l : List S46) (k : Nat) (t : S46) (hd : ∀ x ∈ l.take k, x.f0 ≠ t.f0) : has (setN l k) (keyN t) = false := by
  unfold setN
  rw [has_setOf _ _ _ (fun x hx => by obtain ⟨y, _, rfl⟩ := List.mem_map.mp hx; exact keyN_is y)]
  rw [List.any_eq_false]
  intro x hx
  obtain ⟨y, hy, rfl⟩ := List.mem_map.mp hx
  rw [Bool.not_eq_true]
  refine sameKey_ne (fun e => hd y hy ?_)
  have e2 : y.f0.data.toList = t.f0.data.toList := by injection e
  have e3 : y.f0.data = t.f0.data := Array.toList_inj.mp e2
  exact ByteArray.ext e3
theorem look_no {w : World} {b n : Nat} {D : DataW Unit} (hown : w.ownsMap Tryz.prog 9 (plainElem Tryz.prog 4) b n D) {s : ByteArray} {kl : Lit} (hkey : keyOf Tryz.prog 9 (.string s) = some kl) (hh : has D kl = false) :
    (Instr.lookup 78 (.map (some b)) (.string s) false).run Tryz.prog w = .ok (.bool false) w := by
  have hz : (zeroValue 4).run Tryz.prog w = .ok (.bool false) w := by kernel_rfl
  obtain ⟨v, ps, hrun, hv⟩ := hown.lookup law9 Tryz.underlying78 hz (plainElem_bool Tryz.underlying4 false) hkey
  rw [atKey_of_not_has hh] at hv
  rw [hrun]
  have : v = .bool false := by
    cases v <;> simp [plainElem, Tryz.underlying4] at hv <;> simp_all
  rw [this]
set_option maxHeartbeats 8000000 in
set_option maxRecDepth 100000 in
theorem All_yes (k : Nat) (rl : Int) (A : Option Addr) (c : Nat) (l : List S46) (w : World) (hT : TabW w) (hr : Kd.C k46 w A l.length l) (hc : l.length ≤ c) (h0 : task_isTime.f rl 0 = some true) (h1 : 1 ≤ l.length) (h8 : l.length ≤ 8)
    (hI : ∀ j : Nat, j < l.length → IsOk k (rd_T46 l (j : Int)) (j : Int)) (hD : ∀ j : Nat, j < l.length → ∀ x ∈ l.take j, x.f0 ≠ (rd_T46 l (j : Int)).f0) (hS : ∀ j : Nat, j < l.length → (rd_T46 l (j : Int)).f0.size ≤ 4000) :
    Calls Tryz.prog 20 #[.agg #[.int .i64 rl, .slice A l.length c]] w fun e w' => e = .returned (.bool true) ∧ Below w.heap.size w w' := by
  have HT := Aside0.mk hT
  have HR := Aside0.mk hr
  have HI := Aside0.mk hI
  have HD := Aside0.mk hD
  have HS := Aside0.mk hS
  have HTm := Aside0.mk h0
  have q1 : decide ((l.length : Int) < 1) = false := decide_eq_false (by omega)
  have q2 : decide ((l.length : Int) > 8) = false := decide_eq_false (by omega)
  have q3 : decide (8 < l.length) = false := decide_eq_false (by omega)
  have q4 : decide (l.length < 1) = false := decide_eq_false (by omega)
  clear hT hr hI hD hS h0
  have hu := Tryz.underlying46
  have hmm := @run_makeMap Tryz.prog
  go_enter Tryz.func20, Tryz.ntmps20
  go_wp2_with (go_at_call 33; (with_reducible refine (task_isTime.calls rl 0 true _ HTm.out).mono ?_); rintro e w5 ⟨rfl, ⟨nd, rfl⟩⟩)
  go_loopg [26] (l.length + 1) (fun kq v26 w' => ∃ j : Nat, kq + j = l.length + 1 ∧ v26 = .int .i64 (j : Int) ∧ j ≤ l.length ∧ w'.ownsMap Tryz.prog 9 (plainElem Tryz.prog 4) (w.heap.size + 1) j (setN l j) ∧ Below w.heap.size w w')
  case atStart => exact ⟨0, by omega, rfl, by omega, by rw [setN_zero]; have := World.ownsMap_made (H := Unit) ((w.alloc (.cells #[.int .i64 rl, .slice A l.length c] 24)).drewN nd) Tryz.prog 9 (plainElem Tryz.prog 4); simpa using this, Below.alloc (pw_below_drewN (Below.alloc (Below.refl _ _) (Nat.le_refl _) _) nd) (by simp) _⟩
  case round =>
    obtain ⟨j, hq, rfl, hj, hown, hB⟩ := hrel
    cases gk with
    | zero => exfalso; omega
    | succ k1 =>
    by_cases hlt : j < l.length
    · have hlt1 : decide ((j : Int) < (l.length : Int)) = true := decide_eq_true (by omega)
      have j0 : 0 ≤ (j : Int) := by omega
      have j1 : (j : Int) < (l.length : Int) := by omega
      obtain ⟨ad, A6, c6, ead, c0, c1, c2, c3, c4, c5, c6', c7, c8, hl6, hC6⟩ := at_T46 (Kd.C_below HR.out hB) (j : Int) j0 j1
      subst ead
      rw [Int.toNat_natCast] at c0 c1 c2 c3 c4 c5 c6' c7 c8
      have OK := HI.out j hlt
      have hno := setN_no l j (rd_T46 l (j : Int)) (HD.out j hlt)
      have hsucc := setN_succ l j hlt
      have hs4 := HS.out j hlt
      generalize rd_T46 l (j : Int) = t at c0 c1 c2 c3 c4 c5 c6' c7 c8 hl6 hC6 OK hno hsucc hs4
      have hkey : keyOf Tryz.prog 9 (.string t.f0) = some (keyN t) := keyOf_string_mk Tryz.underlying9 (by unfold maxLen; omega)
      obtain ⟨⟨x, y, m, tk, hn⟩, hreg, ⟨n, hwk, hwn⟩, hle, htm, hmd, hst⟩ := OK
      have HY := Aside0.mk (fun (W : World) (hb : Below wr.heap.size wr W) => Is_yes k t.f0 t.f1 t.f2 t.f3 t.f4 t.f5 A6 c6 t.f6 t.f7 t.f8 (j : Int) n x y m tk W (TabW.below HT.out (below_step hB hb)) (Kd.C_below hC6 hb) hl6 hn hreg hwk hwn hle htm hmd hst)
      have HOWN := Aside0.mk hown
      have HB := Aside0.mk hB
      have HKEY := Aside0.mk hkey
      have HNO := Aside0.mk hno
      have HSUC := Aside0.mk hsucc
      clear hown hB hkey hno hsucc hn hreg hwk hwn hle htm hmd hst hC6 hl6 hs4
      go_wp2_with (first | (go_at_call 34; (with_reducible refine (HY.out _ (by repeat (first | exact Below.refl _ _ | refine Below.alloc ?_ (Nat.le_refl _) _))).mono ?_); rintro e w5 ⟨rfl, hb⟩; have HB5 := Aside0.mk ((Below.alloc (Below.refl _ _) (Nat.le_refl _) _).trans (hb.mono (by simp)) : Below wr.heap.size wr w5); have C0 : w5.cell? ⟨wr.heap.size, 0, none⟩ = some (.string t.f0) := (hb.cell (p := ⟨wr.heap.size, 0, none⟩) (by simp)).trans (blk_cell (heap_alloc_new wr _) 0); have HO5 := Aside0.mk (World.ownsMap.kept HOWN.out (grown_of_below HB5.out none) (by simp)); have hrun := look_no HO5.out HKEY.out HNO.out; clear hb) | (at_mapUpdate; refine wpList_mapUpdate_own _ rfl _ _ _ 78 rfl 9 4 law9 Tryz.underlying78 (plainElem (H := Unit) Tryz.prog 4) (w.heap.size + 1) j _ rfl HO5.out (by unfold maxLen; omega) _ _ _ rfl rfl HKEY.out _ [] (plainElem_bool Tryz.underlying4 true) ?_; intro w6 hown6 hg6; have H6 := Aside0.mk hown6; have G6 := Aside0.mk hg6; clear hown6 hg6))
      go_roundg k1
      case measure => exact Nat.lt_succ_self _
      case rel => exact ⟨j + 1, by omega, by rw [show ((j : Int) + 1) = ((j + 1 : Nat) : Int) by omega], by omega, by rw [HSUC.out]; exact H6.out, Below.grown (below_step HB.out HB5.out) G6.out (below_step HB.out HB5.out).size (fun b hb => by cases hb; omega)⟩
    · have hlt1 : decide ((j : Int) < (l.length : Int)) = false := decide_eq_false (by omega)
      clear hown
      go_wp2
      go_ret
      exact ⟨by first | rfl | (simp; done), hB⟩
end Go.Proofs.YtaofmmnfenlofaaGreatDoor.QTc
namespace Go.Proofs.YtaofmmnfenlofaaGreatDoor.QTc
open Go.RowKit Go.Proofs.YtaofmmnfenlofaaGreatDoorW.PrintWords Go.Proofs.YtaofmmnfenlofaaGreatDoorW.PrintLast Go.Proofs.YtaofmmnfenlofaaGreatDoorW.PrintMore
set_option linter.unusedVariables false
set_option linter.unusedSimpArgs false
theorem info139 : (Tryz.prog.info? 139).map (fun i => (i.zero, i.size, i.bytes)) = some (some (.agg #[.pointer none, .int .u64 0, .int .i64 0]), 3, 24) := by kernel_rfl
theorem info46k : (Tryz.prog.info? 46).map (fun i => (i.zero, i.size, i.bytes)) = some (some (.agg #[.string ByteArray.empty, .int .i64 0, .int .i64 0, .int .i64 0, .int .i64 0, .int .i64 0, .slice none 0 0, .int .u64 0, .int .u64 0]), 9, 96) := by kernel_rfl
abbrev bsN (n : Nat) : Bs := ⟨n, n, Nat.le_refl _⟩
def newA (T : List S46) : KA := ⟨0, -1, watL (T.map (·.f1)), List.replicate T.length z132, List.replicate T.length 0, List.replicate T.length zJ, []⟩
structure NI (w : World) (g : Nat) (rl : Int) (T : List S46) (cb tb sb ob : Nat) (tv pv : Value) (i j : Nat) (W : World) : Prop where
  ker : W.heap[g]? = some (.cells #[.int .i64 rl, tv, .int .i64 0, .int .i64 (-1), .pointer none, .pointer (some ⟨cb, 0, none⟩), .pointer (some ⟨tb, 0, none⟩), .slice (some ⟨ob, 0, none⟩) T.length T.length, .slice none 0 0] 96 (0, 0))
  tasks : Kd.R k46 46 W w.heap.size (fun k => some k ≠ pv.ownBlock) tv (T.take i)
  per : Kd.R (Kd.int .i64) 2 W w.heap.size (fun _ => True) pv ((T.take j).map (·.f1))
  cac : CacIs W cb
  tab : TabIs W tb sb (List.replicate T.length z132)
  own : RowE encO 3 139 W ob (List.replicate T.length zO)
  hB : Below w.heap.size w W
  ge : w.heap.size ≤ g ∧ w.heap.size ≤ cb ∧ w.heap.size ≤ sb ∧ w.heap.size ≤ ob
theorem CacIs.below {w w' : World} {c : Nat} (h : CacIs w c) (hb : Below w.heap.size w w') : CacIs w' c := h.kept (S := fun _ => False) (Kp.of_below hb _) id
theorem TabIs.below {w w' : World} {t b : Nat} {l : List S132} (h : TabIs w t b l) (hb : Below w.heap.size w w') : TabIs w' t b l := h.kept (S := fun _ => False) (Kp.of_below hb _) id id
theorem RowE.below {α : Type} {enc : α → List Value} {sz e : Nat} {w w' : World} {b : Nat} {l : List α} (h : RowE enc sz e w b l) (hb : Below w.heap.size w w') : RowE enc sz e w' b l := h.kept (S := fun _ => False) (Kp.of_below hb _) id
theorem ni_start {w W : World} {T : List S46} {cb tb sb ob : Nat} (hcac : CacIs W cb) (htab : TabIs W tb sb (List.replicate T.length z132)) (hown : RowE encO 3 139 W ob (List.replicate T.length zO)) (hB : Below w.heap.size w W) (ge : w.heap.size ≤ cb ∧ w.heap.size ≤ sb ∧ w.heap.size ≤ ob) :
    NI w W.heap.size 0 T cb tb sb ob (.slice none 0 0) (.slice none 0 0) 0 0 (W.alloc (.cells #[.int .i64 0, .slice none 0 0, .int .i64 0, .int .i64 (-1), .pointer none, .pointer (some ⟨cb, 0, none⟩), .pointer (some ⟨tb, 0, none⟩), .slice (some ⟨ob, 0, none⟩) T.length T.length, .slice none 0 0] 96)) := by
  have ha : ∀ o, Below W.heap.size W (W.alloc o) := fun o => Below.alloc (Below.refl _ _) (Nat.le_refl _) o
  exact ⟨heap_alloc_new W _, Kd.R_nil _ _ _ _ _, Kd.R_nil _ _ _ _ _, hcac.below (ha _), htab.below (ha _), hown.below (ha _), Below.alloc hB hB.size _, hB.size, ge⟩
def Cut3 (w : World) (rl : Int) (T : List S46) (A0 : Option Addr) (c0 : Nat) (s4 : Value) (wx : World) : Prop :=
  ∃ g cb tb sb ob, s4 = .pointer (some ⟨g, 0, none⟩) ∧ NI w g 0 T cb tb sb ob (.slice none 0 0) (.slice none 0 0) 0 0 wx ∧ wx.heap[w.heap.size]? = some (.cells #[.int .i64 rl, .slice A0 T.length c0] 24 (0, 0))
section
variable {w W W' : World} {g : Nat} {rl : Int} {T : List S46} {cb tb sb ob : Nat} {tv pv : Value} {i j : Nat}
theorem NI.below (h : NI w g rl T cb tb sb ob tv pv i j W) (hb : Below W.heap.size W W') : NI w g rl T cb tb sb ob tv pv i j W' :=
  ⟨(hb.block g (blk_lt h.ker)).trans h.ker, Kd.R_below h.tasks hb, Kd.R_below h.per hb, h.cac.below hb, h.tab.below hb, h.own.below hb, h.hB.trans (hb.mono h.hB.size), h.ge⟩
theorem NI.setRl (h : NI w g 0 T cb tb sb ob (.slice none 0 0) (.slice none 0 0) 0 0 W) (rl : Int) : NI w g rl T cb tb sb ob (.slice none 0 0) (.slice none 0 0) 0 0 ((W.setCell ⟨g, 0, none⟩ (.int .i64 rl)).setCell ⟨g, 1, none⟩ (.slice none 0 0)) := by
  have b2 := blk_set (blk_set h.ker 0 (.int .i64 rl)) 1 (.slice none 0 0)
  have hk : KpT (bsN w.heap.size) W ((W.setCell ⟨g, 0, none⟩ (.int .i64 rl)).setCell ⟨g, 1, none⟩ (.slice none 0 0)) [96] := KpT.one (Kp.set1 (Kp.set1 (Kp.refl _ _) _ _) _ _) h.ker h.ge.1
  exact ⟨b2, Kd.R_nil _ _ _ _ _, Kd.R_nil _ _ _ _ _, hk.cac h.cac (by decide), hk.tab h.tab (by decide) (by decide), hk.rowE h.own (by decide), h.hB.trans (hk.below h.hB.size), h.ge⟩
theorem KpT.of_row {α : Type} {d : Kd α} {e : Nat} {B0 : Bs} {ok : Nat → Prop} {v : Value} {xs : List α} (h : Kd.R d e W B0.b ok v xs) (hg : W.grownBy W' v.ownBlock) (he : e ≠ 43 := by decide) : KpT B0 W W' [e] :=
  ⟨fun k => some k = v.ownBlock, Kp.of_grown hg (fun k e _ => e.symm), fun k hk hlt => by
    obtain ⟨_, inner, ho, _⟩ := h
    obtain ⟨cs, hcs⟩ := own_typed ho k hk.symm
    exact ⟨own_base ho k hk.symm, cs, e, hcs, by simp, fun x => absurd x he⟩⟩
theorem NI.addTask (h : NI w g rl T cb tb sb ob tv pv i j W) {w9 : World} {tv1 : Value} (hR : Kd.R k46 46 w9 w.heap.size (fun k => some k ≠ pv.ownBlock) tv1 (T.take (i + 1))) (hB : Below w.heap.size w w9) (hg : W.grownBy w9 tv.ownBlock) :
    NI w g rl T cb tb sb ob tv1 pv (i + 1) j (w9.setCell ⟨g, 1, none⟩ tv1) := by
  have hk := KpT.of_row (B0 := bsN w.heap.size) h.tasks hg
  have b9 := hk.blk h.ker (by decide)
  have hk2 : KpT (bsN w.heap.size) w9 (w9.setCell ⟨g, 1, none⟩ tv1) [96] := KpT.one (Kp.set1 (Kp.refl _ _) _ _) b9 h.ge.1
  have b10 := blk_set b9 1 tv1
  refine ⟨by simpa using b10, hk2.row hR (fun q hq => by rcases k46_E q hq with rfl | rfl <;> decide), hk2.row (hk.row h.per (fun q hq => by rw [List.mem_singleton.mp hq]; decide)) (fun q hq => by rw [List.mem_singleton.mp hq]; decide), hk2.cac (hk.cac h.cac (by decide)) (by decide), hk2.tab (hk.tab h.tab (by decide) (by decide)) (by decide) (by decide), hk2.rowE (hk.rowE h.own (by decide)) (by decide), hB.trans (hk2.below hB.size), h.ge⟩
theorem NI.addPer (h : NI w g rl T cb tb sb ob tv pv i j W) {w9 : World} {pv1 : Value} (hR : Kd.R (Kd.int .i64) 2 w9 w.heap.size (fun _ => True) pv1 ((T.take (j + 1)).map (·.f1))) (hB : Below w.heap.size w w9) (hg : W.grownBy w9 pv.ownBlock) (hat : pv1.ownBlock = pv.ownBlock ∨ ∃ b, pv1.ownBlock = some b ∧ W.heap.size ≤ b) :
    NI w g rl T cb tb sb ob tv pv1 i (j + 1) w9 := by
  have hk := KpT.of_row (B0 := bsN w.heap.size) h.per hg
  refine ⟨hk.blk h.ker (by decide), ?_, hR, hk.cac h.cac (by decide), hk.tab h.tab (by decide) (by decide), hk.rowE h.own (by decide), hB, h.ge⟩
  refine Kd.R_mono (Kd.R_grown (Kd.R_bound h.tasks) hg (fun k hk => hk.1)) (fun k hk e => ?_)
  rcases hat with hat | ⟨b, hb, hle⟩
  · exact hk.1 (by rw [e, hat])
  · rw [hb] at e
    injection e with e
    have := hk.2.2.1
    omega
end
theorem rep_f0 (n i : Nat) : (rd_T132 (List.replicate n z132) (i : Int)).f0 = false := by
  unfold rd_T132
  rw [Int.toNat_natCast, List.getD_eq_getElem?_getD, List.getElem?_replicate]
  split <;> rfl
theorem own_lt_R {α : Type} {d : Kd α} {e B0 : Nat} {w : World} {ok : Nat → Prop} {v : Value} {xs : List α} (h : Kd.R d e w B0 ok v xs) : ∀ k, v.ownBlock = some k → k < w.heap.size := fun k hk => by
  obtain ⟨_, inner, ho, _⟩ := h
  exact own_lt ho k hk
theorem cut3_of {w W w1 : World} {rl : Int} {T : List S46} {A0 : Option Addr} {c0 g cb tb sb ob : Nat} (hg : W.heap.size = g) (hcac : CacIs W cb) (htab : TabIs W tb sb (List.replicate T.length z132)) (hown : RowE encO 3 139 W ob (List.replicate T.length zO)) (hw1 : Below w.heap.size w w1) (hbx : w1.heap[w.heap.size]? = some (.cells #[.int .i64 rl, .slice A0 T.length c0] 24 (0, 0))) (hB : Below w1.heap.size w1 W) (ge : w1.heap.size ≤ cb ∧ w1.heap.size ≤ sb ∧ w1.heap.size ≤ ob) :
    Cut3 w rl T A0 c0 (.pointer (some ⟨g, 0, none⟩)) (W.alloc (.cells #[.int .i64 0, .slice none 0 0, .int .i64 0, .int .i64 (-1), .pointer none, .pointer (some ⟨cb, 0, none⟩), .pointer (some ⟨tb, 0, none⟩), .slice (some ⟨ob, 0, none⟩) T.length T.length, .slice none 0 0] 96)) := by
  subst hg
  have hs := hw1.size
  refine ⟨_, _, _, _, _, rfl, ni_start hcac htab hown (hw1.trans (hB.mono hs)) (by omega), ?_⟩
  have h2 := (hB.block w.heap.size (blk_lt hbx)).trans hbx
  exact ((Below.alloc (Below.refl W.heap.size W) (Nat.le_refl _) _).block w.heap.size (blk_lt h2)).trans h2
set_option maxHeartbeats 16000000 in
set_option maxRecDepth 100000 in
theorem kNew_calls (w : World) (rl : Int) (A0 : Option Addr) (c0 : Nat) (T : List S46) (hr : Kd.C k46 w A0 T.length T) (hc : T.length ≤ c0) (h1 : 1 ≤ T.length) (h8 : T.length ≤ 8)
    (hall : ∀ W, Below w.heap.size w W → Calls Tryz.prog 20 #[.agg #[.int .i64 rl, .slice A0 T.length c0]] W fun e w' => e = .returned (.bool true) ∧ Below W.heap.size W w')
    (hodd : ∀ t ∈ T, 1 ≤ t.f6.length ∧ t.f6.length ≤ 8) (hper : (T.map (·.f1)).any oddTime = false) :
    Calls Tryz.prog 26 #[.agg #[.int .i64 rl, .slice A0 T.length c0]] w fun e w' => ∃ g L K ev, e = .returned (.tuple #[.pointer (some ⟨g, 0, none⟩), .int .i64 0]) ∧ KInv (bsN w.heap.size) w' g rl T L K ev none ∧ K.abs = newA T ∧ Below w.heap.size w w' := by
  have HA := Aside0.mk hall
  have HR := Aside0.mk hr
  have HO := Aside0.mk hodd
  have HP := Aside0.mk hper
  obtain ⟨i0, hi, hzz⟩ := Option.map_eq_some_iff.1 info139
  simp only [Prod.mk.injEq] at hzz
  obtain ⟨hz0, hz1, hz2⟩ := hzz
  have hmk : ∀ w : World, (Instr.makeSlice 93 (.int .i64 (T.length : Int)) (.int .i64 (T.length : Int))).run Tryz.prog w = .ok (.slice (some ⟨w.heap.size, 0, none⟩) T.length T.length) (w.alloc (.cells (madeCells #[.pointer none, .int .u64 0, .int .i64 0] (T.length * 3)) 139)) := fun w => by
    have := run_makeSlice (P := Tryz.prog) (w := w) 93 139 i0 _ Tryz.underlying93 hi hz0 .i64 .i64 (T.length : Int) (T.length : Int) (by omega) (Int.le_refl _) (by rw [hz1]; omega) (by rw [hz2]; omega) (by omega)
    rw [hz1] at this
    simpa [Value.cells] using this
  clear hi hz0 hz1 hz2
  have G := Aside0.mk (fun W : World => RowE.made encO 3 139 W zO #[.pointer none, .int .u64 0, .int .i64 0] rfl rfl (by decide) T.length)
  generalize madeCells #[.pointer none, .int .u64 0, .int .i64 0] (T.length * 3) = cs at hmk G
  have HC := Aside0.mk cNew_calls
  have HTN := Aside0.mk (fun W => tabNew_calls W T.length h1 h8)
  have HB := Aside0.mk (show Below w.heap.size w (w.alloc (.cells #[.int .i64 rl, .slice A0 T.length c0] 24)) from Below.alloc (Below.refl _ _) (Nat.le_refl _) _)
  clear hall hr hodd hper
  go_enter Tryz.func26, Tryz.ntmps26
  go_upto_region 3 with (go_at_call 20; (with_reducible refine (HA.out _ HB.out).mono ?_); rintro e w1 ⟨rfl, hb⟩; have HB1 := Aside0.mk hb; have b0 : w1.cell? ⟨w.heap.size, 0, none⟩ = some (.int .i64 rl) := (hb.cell (p := ⟨w.heap.size, 0, none⟩) (by simp)).trans (blk_cell (heap_alloc_new w _) 0); have b1 : w1.cell? ⟨w.heap.size, 1, none⟩ = some (.slice A0 T.length c0) := (hb.cell (p := ⟨w.heap.size, 1, none⟩) (by simp)).trans (blk_cell (heap_alloc_new w _) 1); have hs1 : w.heap.size + 1 ≤ w1.heap.size := (by have := hb.size; simpa using this); clear hb)
  have hlt1 : w.heap.size < w1.heap.size := by omega
  have hbx : w1.heap[w.heap.size]? = some (.cells #[.int .i64 rl, .slice A0 T.length c0] 24 (0, 0)) := (HB1.out.block w.heap.size (by simp)).trans (heap_alloc_new w _)
  go_cut [4] (fun s4 wx => Cut3 w rl T A0 c0 s4 wx)
  case first =>
    go_region_held3 (fun W => W.cell? ⟨w.heap.size, 1, none⟩ = some (.slice A0 T.length c0))
      (first | exact b1 | exact pw_cell_below HB2.out b1 | exact pw_cell_below HB3.out b1 | go_keep)
      ((first | (go_at_call 46; (with_reducible refine (HC.out _).mono ?_); rintro e w2 ⟨rfl, hcac, hb⟩; have HB2 := Aside0.mk (show Below w1.heap.size w1 w2 from (by first | exact (below_drew1 (Below.refl _ _)).trans hb | exact (Below.alloc (below_drew1 (Below.refl _ _)) (Nat.le_refl _) _).trans (hb.mono (by simp)))); have HCA := Aside0.mk hcac; have HBC := Aside0.mk hb; have hsc := hb.size; clear hb hcac) | (go_at_call 47; (with_reducible refine (HTN.out _).mono ?_); rintro e w3 ⟨rfl, htab, hb⟩; have HB3 := Aside0.mk (show Below w1.heap.size w1 w3 from (by first | exact (Below.alloc HB2.out HB2.out.size _).trans (hb.mono (Below.alloc HB2.out HB2.out.size _).size) | exact HB2.out.trans (hb.mono HB2.out.size))); have HTA := Aside0.mk htab; have HB23 := Aside0.mk hb; have hs23 := hb.size; clear hb htab)))
    all_goals have hw1 : Below w.heap.size w w1 := HB.out.trans (HB1.out.mono HB.out.size)
    all_goals have hsz := HB2.out.size
    · go_wp2_with fail
      go_meet
      have hal : ∀ o, Below w3.heap.size w3 (w3.alloc o) := fun o => Below.alloc (Below.refl _ _) (Nat.le_refl _) o
      exact cut3_of (W := w3.alloc (.cells cs 139)) (by simp) ((HCA.out.below HB23.out).below (hal _)) (HTA.out.below (hal _)) (G.out w3) hw1 hbx (HB3.out.trans ((hal _).mono HB3.out.size)) ⟨Nat.le_refl _, hsz, HB3.out.size⟩
    · go_wp2_with fail
      go_meet
      have hal : ∀ o, Below w2.heap.size w2 (w2.alloc o) := fun o => Below.alloc (Below.refl _ _) (Nat.le_refl _) o
      have hT := HTA.out
      rw [show (w2.alloc (.cells cs 139)).heap.size = w2.heap.size + 1 by simp] at hT
      exact cut3_of (W := w3) rfl ((HCA.out.below (hal _)).below HB23.out) hT ((G.out w2).below HB23.out) hw1 hbx HB3.out ⟨Nat.le_refl _, by omega, hsz⟩
    · go_wp2_with fail
      go_meet
      have hC := HCA.out
      rw [show (w1.alloc (.cells cs 139)).drew.heap.size = w1.heap.size + 1 by simp] at hC
      exact cut3_of (W := w3) rfl (hC.below HB23.out) HTA.out ((((G.out w1).below (below_drew1 (Below.refl _ _))).below HBC.out).below HB23.out) hw1 hbx HB3.out ⟨by omega, by omega, Nat.le_refl _⟩
  case rest =>
    obtain ⟨g, cb, tb, sb, ob, rfl, N0, bx⟩ := hcut
    have x0 : wc.cell? ⟨w.heap.size, 0, none⟩ = some (.int .i64 rl) := blk_cell bx 0
    have x1 : wc.cell? ⟨w.heap.size, 1, none⟩ = some (.slice A0 T.length c0) := blk_cell bx 1
    have g0 : wc.cell? ⟨g, 0, none⟩ = some (.int .i64 0) := blk_cell N0.ker 0
    have g1 : wc.cell? ⟨g, 1, none⟩ = some (.slice none 0 0) := blk_cell N0.ker 1
    have q0 := blk_frozen N0.ker 0
    have q1 := blk_frozen N0.ker 1
    have N := Aside0.mk N0
    have HBX := Aside0.mk bx
    have hnb : w.heap.size ≠ g := blk_ne bx N0.ker (by decide)
    clear N0 bx HB1 HB HC HTN hmk G b0 b1 hbx
    go_wp2
    generalize hW0 : (wc.setCell ⟨g, 0, none⟩ (.int .i64 rl)).setCell ⟨g, 1, none⟩ (.slice none 0 0) = W0
    have N1 := Aside0.mk (show NI w g rl T cb tb sb ob (.slice none 0 0) (.slice none 0 0) 0 0 W0 by rw [← hW0]; exact N.out.setRl rl)
    clear hW0 N x0 x1 g0 g1 q0 q1 HBX hnb
    go_loopg [5, 7, 31] (T.length + 1) (fun kq v5 v7 v31 w' => ∃ (i : Nat) (A : Option Addr) (q : Nat) (P : Option Addr) (p : Nat), kq + i = T.length + 1 ∧ v31 = .int .i64 (i : Int) ∧ v5 = .slice P i p ∧ i ≤ T.length ∧ NI w g rl T cb tb sb ob (.slice A i q) (.slice P i p) i i w')
    case atStart => exact ⟨0, none, 0, none, 0, by omega, rfl, rfl, by omega, by simpa using N1.out⟩
    case round =>
      clear N1
      obtain ⟨i, A, q, P, p, hq, rfl, rfl, hi, INV⟩ := hrel
      cases gk with
      | zero => exfalso; omega
      | succ k1 =>
      by_cases hlt : i < T.length
      · have hlt1 : decide ((i : Int) < (T.length : Int)) = true := decide_eq_true (by omega)
        have i0 : 0 ≤ (i : Int) := by omega
        have i1 : (i : Int) < (T.length : Int) := by omega
        obtain ⟨ad, A6, c6, rfl, d0, d1, d2, d3, d4, d5, d6, d7, d8, hl6, hC6⟩ := at_T46 (Kd.C_below HR.out INV.hB) (i : Int) i0 i1
        rw [Int.toNat_natCast] at d0 d1 d2 d3 d4 d5 d6 d7 d8
        have hmem : rd_T46 T (i : Int) ∈ T := by
          unfold rd_T46
          rw [Int.toNat_natCast, List.getD_eq_getElem?_getD, List.getElem?_eq_getElem hlt]; exact List.getElem_mem hlt
        have htk : T.take (i + 1) = T.take i ++ [rd_T46 T (i : Int)] := by
          rw [List.take_add_one, List.getElem?_eq_getElem hlt]
          unfold rd_T46
          rw [Int.toNat_natCast, List.getD_eq_getElem?_getD, List.getElem?_eq_getElem hlt]; rfl
        have ho6 := HO.out _ hmem
        generalize rd_T46 T (i : Int) = t at d0 d1 d2 d3 d4 d5 d6 d7 d8 hl6 hC6 htk ho6
        obtain ⟨t0, t1, t2, t3, t4, t5, t6, t7, t8⟩ := t
        dsimp only at d0 d1 d2 d3 d4 d5 d6 d7 d8 hl6 hC6 ho6
        have HI := Aside0.mk INV
        have HTK := Aside0.mk htk
        have HC6 := Aside0.mk hC6
        clear INV hmem htk hC6
        go_upto_region 9 with fail
        have hlb := heap_alloc_new wr (.cells #[.string t0, .int .i64 t1, .int .i64 t2, .int .i64 t3, .int .i64 t4, .int .i64 t5, .slice A6 t6.length c6, .int .u64 t7, .int .u64 t8] 46)
        have hb2 : Below wr.heap.size wr (wr.alloc (.cells #[.string t0, .int .i64 t1, .int .i64 t2, .int .i64 t3, .int .i64 t4, .int .i64 t5, .slice A6 t6.length c6, .int .u64 t7, .int .u64 t8] 46)) := Below.alloc (Below.refl _ _) (Nat.le_refl _) _
        have hsz2 : (wr.alloc (.cells #[.string t0, .int .i64 t1, .int .i64 t2, .int .i64 t3, .int .i64 t4, .int .i64 t5, .slice A6 t6.length c6, .int .u64 t7, .int .u64 t8] 46)).heap.size = wr.heap.size + 1 := by simp
        generalize wr.alloc (.cells #[.string t0, .int .i64 t1, .int .i64 t2, .int .i64 t3, .int .i64 t4, .int .i64 t5, .slice A6 t6.length c6, .int .u64 t7, .int .u64 t8] 46) = W2 at hlb hb2 hsz2 ⊢
        have e6 : W2.cell? ⟨wr.heap.size, 6, none⟩ = some (.slice A6 t6.length c6) := blk_cell hlb 6
        have HLB := Aside0.mk hlb
        have HB2 := Aside0.mk hb2
        have HSZ := Aside0.mk hsz2
        have hltb : wr.heap.size < W2.heap.size := by omega
        clear hlb hb2 hsz2 d0 d1 d2 d3 d4 d5 d6 d7 d8
        go_upto_region 10 with ((with_reducible refine gate_builtin (b := .append) (xs := #[.tmp 35, .tmp 37]) rfl ?_); at_builtin; (refine Kd.R_append_rows (Kd.int .i64) (Rr := (Kd.int .i64).K (W2.alloc (.cells #[] 2))) (w0 := W2) W2.heap.size rfl (.tmp 35) (.tmp 37) 28 2 (.int .i64 0) 8 rfl Tryz.underlying28 info2k rfl (by decide) (by omega) (.slice (some ⟨W2.heap.size, 0, none⟩) 0 0) [] t6 A6 t6.length c6 (fun _ => True) (fun _ => False) rfl rfl ?aO ?aR ?aK (fun _ hk => hk.elim) (fun _ _ => trivial) ?aB ?aS ?aL ?_; (case aO => exact Kd.R_empty _ _ _ _ (Nat.le_refl _) _ trivial); (case aR => exact Kd.C_below (Kd.C_below HC6.out HB2.out) (Below.alloc (Below.refl _ _) (Nat.le_refl _) _)); (case aK => intro x cs h; exact h); (case aB => exact Below.alloc (Below.refl _ _) (Nat.le_refl _) _); (case aS => first | exact Nat.le_succ _ | simp); (case aL => have := ho6.2; (try simp); omega); intro v9 w9 hR9 hB9 hg9 hat9; replace hR9 : Kd.R (Kd.int .i64) 2 w9 W2.heap.size (fun _ => True) v9 t6 := (by simpa using hR9); obtain ⟨A9, q9, rfl⟩ := Kd.R_slice hR9; have HR9 := Aside0.mk hR9; have HB9 := Aside0.mk hB9; have e69 : w9.cell? ⟨wr.heap.size, 6, none⟩ = some (.slice A6 t6.length c6) := (hB9.cell (p := ⟨wr.heap.size, 6, none⟩) hltb).trans e6; have z69 : w9.frozen? ⟨wr.heap.size, 6, none⟩ = false := (hB9.frozen (p := ⟨wr.heap.size, 6, none⟩) hltb).trans (blk_frozen HLB.out 6); clear hR9 hB9 hg9 hat9))
        have hb3 : Below wr.heap.size wr (w9.setCell ⟨wr.heap.size, 6, none⟩ (.slice A9 t6.length q9)) := Below.setCell (HB2.out.trans (HB9.out.mono HB2.out.size)) (Nat.le_refl _) _
        have hlb9 := (HB9.out.block wr.heap.size hltb).trans HLB.out
        have hlb3 : (w9.setCell ⟨wr.heap.size, 6, none⟩ (.slice A9 t6.length q9)).heap[wr.heap.size]? = some (.cells #[.string t0, .int .i64 t1, .int .i64 t2, .int .i64 t3, .int .i64 t4, .int .i64 t5, .slice A9 t6.length q9, .int .u64 t7, .int .u64 t8] 46 (0, 0)) := by simpa using blk_set hlb9 6 (.slice A9 t6.length q9)
        have hR3 : Kd.R (Kd.int .i64) 2 (w9.setCell ⟨wr.heap.size, 6, none⟩ (.slice A9 t6.length q9)) W2.heap.size (fun _ => True) (.slice A9 t6.length q9) t6 := Kd.R_set HR9.out hlb9 (fun q hq => by rw [List.mem_singleton.mp hq]; decide) 6 _
        have hN3 := HI.out.below hb3
        have hsz3 : W2.heap.size ≤ (w9.setCell ⟨wr.heap.size, 6, none⟩ (.slice A9 t6.length q9)).heap.size := by have := HB9.out.size; simpa using this
        generalize w9.setCell ⟨wr.heap.size, 6, none⟩ (.slice A9 t6.length q9) = W3 at hb3 hlb3 hR3 hN3 hsz3 ⊢
        have g1 : W3.cell? ⟨g, 1, none⟩ = some (.slice A i q) := blk_cell hN3.ker 1
        have l0 : W3.cell? ⟨wr.heap.size, 0, none⟩ = some (.string t0) := blk_cell hlb3 0
        have l1 : W3.cell? ⟨wr.heap.size, 1, none⟩ = some (.int .i64 t1) := blk_cell hlb3 1
        have l2 : W3.cell? ⟨wr.heap.size, 2, none⟩ = some (.int .i64 t2) := blk_cell hlb3 2
        have l3 : W3.cell? ⟨wr.heap.size, 3, none⟩ = some (.int .i64 t3) := blk_cell hlb3 3
        have l4 : W3.cell? ⟨wr.heap.size, 4, none⟩ = some (.int .i64 t4) := blk_cell hlb3 4
        have l5 : W3.cell? ⟨wr.heap.size, 5, none⟩ = some (.int .i64 t5) := blk_cell hlb3 5
        have l6 : W3.cell? ⟨wr.heap.size, 6, none⟩ = some (.slice A9 t6.length q9) := blk_cell hlb3 6
        have l7 : W3.cell? ⟨wr.heap.size, 7, none⟩ = some (.int .u64 t7) := blk_cell hlb3 7
        have l8 : W3.cell? ⟨wr.heap.size, 8, none⟩ = some (.int .u64 t8) := blk_cell hlb3 8
        have n1 := World.new_ne W3 ⟨g, 1, none⟩ g1
        have m0 := World.new_ne W3 ⟨wr.heap.size, 0, none⟩ l0
        have m1 := World.new_ne W3 ⟨wr.heap.size, 1, none⟩ l1
        have m2 := World.new_ne W3 ⟨wr.heap.size, 2, none⟩ l2
        have m3 := World.new_ne W3 ⟨wr.heap.size, 3, none⟩ l3
        have m4 := World.new_ne W3 ⟨wr.heap.size, 4, none⟩ l4
        have m5 := World.new_ne W3 ⟨wr.heap.size, 5, none⟩ l5
        have m6 := World.new_ne W3 ⟨wr.heap.size, 6, none⟩ l6
        have m7 := World.new_ne W3 ⟨wr.heap.size, 7, none⟩ l7
        have m8 := World.new_ne W3 ⟨wr.heap.size, 8, none⟩ l8
        have N3 := Aside0.mk hN3
        have HLB3 := Aside0.mk hlb3
        have hown := own_lt_R HI.out.tasks
        have hownp := own_lt_R HI.out.per
        have HM : Aside0 (Kd.M k46 W3.drew w.heap.size (fun k => W2.heap.size ≤ k) ⟨t0, t1, t2, t3, t4, t5, t6, t7, t8⟩ [.string t0, .int .i64 t1, .int .i64 t2, .int .i64 t3, .int .i64 t4, .int .i64 t5, .slice A9 t6.length q9, .int .u64 t7, .int .u64 t8]) := Aside0.mk (k46_mkM _ _ _ ⟨t0, t1, t2, t3, t4, t5, t6, t7, t8⟩ (Kd.R_drew (Kd.R_lower (Kd.R_mono (Kd.R_bound hR3) (fun k hk => hk.2.1)) (by have := HI.out.hB.size; have := HSZ.out; omega))))
        have HTL := Aside0.mk (show (T.take i).length = i by rw [List.length_take]; omega)
        have HTL2 := Aside0.mk (show (T.take (i + 1)).length = i + 1 by rw [List.length_take]; omega)
        have HK1 := Aside0.mk (show ∀ k, W2.heap.size ≤ k → some k ≠ (Value.slice P i p).ownBlock ∧ some k ≠ (Value.slice A i q).ownBlock from fun k hk => ⟨fun e => by have := hownp k e.symm; have := HSZ.out; omega, fun e => by have := hown k e.symm; have := HSZ.out; omega⟩)
        have HK2 := Aside0.mk (show ∀ k, W3.heap.size ≤ k → some k ≠ (Value.slice P i p).ownBlock from fun k hk e => by have := hownp k e.symm; have := HSZ.out; omega)
        have hg3 := blk_lt N3.out.ker
        have HNE := Aside0.mk (show some g ≠ (Value.slice A i q).ownBlock from Kd.R_ne N3.out.tasks N3.out.ker (by decide))
        have hlt3 : wr.heap.size < W3.heap.size := by have := HSZ.out; omega
        have HNL := Aside0.mk (show some wr.heap.size ≠ (Value.slice A i q).ownBlock from fun e => by have := hown _ e.symm; omega)
        clear hb3 hlb9 hlb3 hR3 hN3 hown hownp e6 e69 z69
        go_region_law (refine Kd.R_append_step k46 (w0 := w) (W := W3.drew) w.heap.size (by rfl) _ _ 22 46 (.agg #[.string ByteArray.empty, .int .i64 0, .int .i64 0, .int .i64 0, .int .i64 0, .int .i64 0, .slice none 0 0, .int .u64 0, .int .u64 0]) 96 (by rfl) Tryz.underlying22 info46k rfl (by decide) (by omega) (.slice A i q) (T.take i) ⟨t0, t1, t2, t3, t4, t5, t6, t7, t8⟩ [.string t0, .int .i64 t1, .int .i64 t2, .int .i64 t3, .int .i64 t4, .int .i64 t5, .slice A9 t6.length q9, .int .u64 t7, .int .u64 t8] (fun k => some k ≠ (Value.slice P i p).ownBlock) (fun k => W2.heap.size ≤ k) (by rfl) (by rfl) HM.out HK1.out HK2.out (Kd.R_drew N3.out.tasks) (N3.out.hB.trans (below_drew1 (Below.refl _ _)) ) N3.out.hB.size (by have := HTL.out; omega) ?_; intro v1 w10 hR10 hB10 hg10 hat10; rw [← HTK.out] at hR10; obtain ⟨A10, q10, e10⟩ := Kd.R_slice hR10; rw [HTL2.out] at e10; subst e10; have H10 := Aside0.mk (NI.addTask N3.out hR10 hB10 ⟨hg10.os, hg10.tape, hg10.output, hg10.size, hg10.block⟩); have hb10 := blk_grown (w := W3.drew) N3.out.ker hg10 HNE.out; have z10 := blk_frozen hb10 1; have c10 : w10.cell? ⟨g, 1, none⟩ = some (.slice A i q) := blk_cell hb10 1; have lb10 : w10.heap[wr.heap.size]? = some (.cells #[.string t0, .int .i64 t1, .int .i64 t2, .int .i64 t3, .int .i64 t4, .int .i64 t5, .slice A9 t6.length q9, .int .u64 t7, .int .u64 t8] 46 (0, 0)) := blk_grown (w := W3.drew) HLB3.out hg10 HNL.out; have HLB10 := Aside0.mk lb10; clear lb10 hb10 hR10 hB10 hg10 hat10)
        all_goals
          go_upto_region 11 with fail
          have hlb5 : (w10.setCell ⟨g, 1, none⟩ (.slice A10 (i + 1) q10)).heap[wr.heap.size]? = _ := blk_far HLB10.out (p := ⟨g, 1, none⟩) (fun e => by have := blk_lt HI.out.ker; have : wr.heap.size = g := e; omega) _
          generalize w10.setCell ⟨g, 1, none⟩ (.slice A10 (i + 1) q10) = W5 at H10 hlb5 ⊢
          have f1 : W5.cell? ⟨wr.heap.size, 1, none⟩ = some (.int .i64 t1) := blk_cell hlb5 1
          have HPE := Aside0.mk (show (T.take (i + 1)).map (·.f1) = (T.take i).map (·.f1) ++ [t1] by rw [HTK.out, List.map_append]; rfl)
          have HPL := Aside0.mk (show ((T.take i).map (·.f1)).length = i by rw [List.length_map]; exact HTL.out)
          have HPL2 := Aside0.mk (show ((T.take (i + 1)).map (·.f1)).length = i + 1 by rw [List.length_map]; exact HTL2.out)
          clear hlb5 z10 c10 g1 l0 l1 l2 l3 l4 l5 l6 l7 l8 n1 m0 m1 m2 m3 m4 m5 m6 m7 m8
          go_wp2_with ((with_reducible refine gate_builtin (b := .append) (xs := #[.tmp 52, .tmp 55]) rfl ?_); at_builtin; (refine Kd.R_append (Kd.int .i64) (w0 := w) w.heap.size rfl (.tmp 52) (.tmp 55) 28 2 (.int .i64 0) 8 rfl Tryz.underlying28 info2k rfl (by decide) (by omega) (.slice P i p) ((T.take i).map (·.f1)) t1 [.int .i64 t1] (fun _ => True) (fun _ => False) rfl rfl ?aP (fun _ hk => hk.elim) (fun _ _ => trivial) ?aO ?aB ?aS ?aL ?_; (case aP => exact rfl); (case aO => exact H10.out.per); (case aB => exact H10.out.hB); (case aS => exact H10.out.hB.size); (case aL => have := HPL.out; omega); intro u1 w11 hR11 hB11 hg11 hat11; rw [← HPE.out] at hR11; obtain ⟨A11, q11, e11⟩ := Kd.R_slice hR11; rw [HPL2.out] at e11; subst e11; have H11 := Aside0.mk (NI.addPer H10.out hR11 hB11 hg11 hat11); clear hR11 hB11 hg11 hat11))
          go_roundg k1
          case measure => exact Nat.lt_succ_self _
          case rel => exact ⟨i + 1, A10, q10, A11, q11, by omega, by rw [show ((i : Int) + 1) = ((i + 1 : Nat) : Int) by omega], rfl, by omega, H11.out⟩
      · have hlt1 : decide ((i : Int) < (T.length : Int)) = false := decide_eq_false (by omega)
        have hil : i = T.length := by omega
        subst hil
        have htl : T.take T.length = T := List.take_length
        have hPe := INV.per
        rw [htl] at hPe
        have hC := Kd.R_reads' hPe
        have hm : (T.map (·.f1)).length = T.length := by rw [List.length_map]
        have HPN := Aside0.mk (pNew_calls wr P p (T.map (·.f1)) hC.2.2 (by rw [hm]; exact hC.2.1) (by rw [hm]; exact h1) (by rw [hm]; exact h8) HP.out)
        rw [hm] at HPN
        have HI := Aside0.mk INV
        replace htl := Aside0.mk htl
        clear INV hC hPe hm
        go_wp2_with (go_at_call 48; (with_reducible refine HPN.out.mono ?_); rintro e w12 ⟨pb, wb, rfl, hpol, hwb, hb⟩; have N12 := Aside0.mk (HI.out.below hb); have HPO := Aside0.mk hpol; have hwb := Aside0.mk hwb; have c4 : w12.cell? ⟨g, 4, none⟩ = some (.pointer none) := blk_cell (HI.out.below hb).ker 4; have z4 := blk_frozen (HI.out.below hb).ker 4; clear hb hpol)
        go_ret2
        have b12 := blk_set N12.out.ker 4 (.pointer (some ⟨pb, 0, none⟩))
        have hk : KpT (bsN w.heap.size) w12 (w12.setCell ⟨g, 4, none⟩ (.pointer (some ⟨pb, 0, none⟩))) [96] := KpT.one (Kp.set1 (Kp.refl _ _) _ _) N12.out.ker N12.out.ge.1
        have hta := N12.out.tasks
        rw [htl.out] at hta
        have hwb2 := hwb.out
        have hsz := HI.out.hB.size
        have hge := N12.out.ge
        refine ⟨g, ⟨.slice A T.length q, pb, wb, cb, tb, sb, ob⟩, ⟨0, -1, watL (T.map (·.f1)), List.replicate T.length z132, List.replicate T.length zO, List.replicate T.length zJ, []⟩, .slice none 0 0, rfl, ?_, by simp [KS.abs, newA, zO], N12.out.hB.trans (hk.below N12.out.hB.size)⟩
        exact { ker := by simpa [kcells] using b12, tasks := Kd.R_mono (hk.row hta (fun q hq => by rcases k46_E q hq with rfl | rfl <;> decide)) (fun _ _ => trivial), pol := hk.pol HPO.out (by decide) (by decide), cac := hk.cac N12.out.cac (by decide), tab := hk.tab N12.out.tab (by decide) (by decide), own := hk.rowE N12.out.own (by decide), evs := Kd.R_nil _ _ _ _ _, lw := by simp [watL], ls := by simp, lo := by simp, lj := by simp, n1 := h1, n8 := h8, job := fun i hi hx hp => absurd hp (by rw [rep_f0]; simp), inj := fun i i' j hi hi' hx hx' hp hp' => absurd hp (by rw [rep_f0]; simp), ge := ⟨hge.1, by show w.heap.size ≤ wb; omega, hge.2.1, hge.2.2.1, hge.2.2.2⟩, hadr := fun o ho => by rw [List.eq_of_mem_replicate ho]; exact ⟨Int.le_refl _, by decide⟩ }
def Over (rg dm : List Int) : Prop := ∃ k : Nat, k < rg.length ∧ k < dm.length ∧ rd dm (k : Int) > rd rg (k : Int)
structure JGood (J : J5) (G : Prop) : Prop where
  rdy : JRdy J
  pos : ∀ k : Nat, k < J.rg.length → 1 ≤ rd J.rg (k : Int) ∧ rd J.rg (k : Int) ≤ 10000 ∧ 1 ≤ rd J.dm (k : Int)
  h1 : J.had < rd J.rg (J.at_ : Int)
  h2 : J.had < rd J.dm (J.at_ : Int)
  done : ∀ k : Nat, k < J.at_ → rd J.dm (k : Int) ≤ rd J.rg (k : Int)
  g : G ↔ ∃ k : Nat, k < J.rg.length ∧ rd J.dm (k : Int) > rd J.rg (k : Int)
theorem JGood.step {J : J5} {G : Prop} (h : JGood J G) : (((stepJ J).2.1 = 0 ∨ (stepJ J).2.1 = 1) ∧ JGood (stepJ J).2.2 G) ∨ ((stepJ J).2.1 = 2 ∧ ¬ G) ∨ ((stepJ J).2.1 = 3 ∧ G) := by
  obtain ⟨rg, dm, i, had, how⟩ := J
  obtain ⟨⟨r0, r1, r2, r3, r4, r5⟩, pos, h1, h2, dn, g⟩ := h
  dsimp only at r0 r1 r2 r3 r4 r5 pos h1 h2 dn g
  unfold stepJ
  dsimp only
  by_cases hd : had + 1 = rd dm (i : Int)
  · rw [if_pos hd]
    by_cases hl : i + 1 = rg.length
    · rw [if_pos hl]
      refine Or.inr (Or.inl ⟨rfl, fun hG => ?_⟩)
      obtain ⟨k, hk, hx⟩ := g.mp hG
      by_cases e : k = i
      · subst e; omega
      · have := dn k (by omega); omega
    · rw [if_neg hl]
      refine Or.inl ⟨Or.inr rfl, ⟨⟨r0, by show i + 1 < rg.length; omega, r2, r3, Int.le_refl 0, by show (0 : Int) ≤ 10000; decide⟩, pos, ?_, ?_, ?_, g⟩⟩
      · have := pos (i + 1) (by omega); show (0 : Int) < rd rg ((i + 1 : Nat) : Int); omega
      · have := pos (i + 1) (by omega); show (0 : Int) < rd dm ((i + 1 : Nat) : Int); omega
      · intro k hk
        have hk2 : k < i + 1 := hk
        by_cases e : k = i
        · subst e; show rd dm (k : Int) ≤ rd rg (k : Int); omega
        · exact dn k (by omega)
  · rw [if_neg hd]
    by_cases hr : had + 1 = rd rg (i : Int)
    · rw [if_pos hr]
      exact Or.inr (Or.inr ⟨rfl, g.mpr ⟨i, r1, by omega⟩⟩)
    · rw [if_neg hr]
      have hp := pos i r1
      refine Or.inl ⟨Or.inl rfl, ⟨⟨r0, r1, r2, r3, by show (0 : Int) ≤ had + 1; omega, by show had + 1 ≤ (10000 : Int); omega⟩, pos, ?_, ?_, dn, g⟩⟩
      · show had + 1 < rd rg (i : Int); omega
      · show had + 1 < rd dm (i : Int); omega
theorem demL_rd (rg dm : List Int) (k : Nat) (hk : k < rg.length) : rd (demL rg dm) (k : Int) = if k < dm.length then mx 1 (rd dm (k : Int)) else 1 := by
  unfold rd
  rw [Int.toNat_natCast, List.getD_eq_getElem?_getD, List.getElem?_eq_getElem (by rw [demL_len]; exact hk)]
  simp [demL, rd]
theorem reg_pos {rg : List Int} (h : rg.any oddTime = false) (k : Nat) (hk : k < rg.length) : 1 ≤ rd rg (k : Int) ∧ rd rg (k : Int) ≤ 10000 := by
  have hm : rd rg (k : Int) ∈ rg := by
    unfold rd
    rw [Int.toNat_natCast, List.getD_eq_getElem?_getD, List.getElem?_eq_getElem hk]; exact List.getElem_mem hk
  rw [List.any_eq_false] at h
  have := h _ hm
  unfold oddTime at this
  simp at this
  omega
theorem JGood.new {rg dm : List Int} (h1 : 1 ≤ rg.length) (h8 : rg.length ≤ 8) (ho : rg.any oddTime = false) : JGood ⟨rg, demL rg dm, 0, 0, 0⟩ (Over rg dm) := by
  have hp : ∀ k : Nat, k < rg.length → 1 ≤ rd rg (k : Int) ∧ rd rg (k : Int) ≤ 10000 ∧ 1 ≤ rd (demL rg dm) (k : Int) := by
    intro k hk
    have := reg_pos ho k hk
    refine ⟨this.1, this.2, ?_⟩
    rw [demL_rd rg dm k hk]
    unfold mx
    split
    · split <;> omega
    · omega
  refine ⟨⟨rfl, by show 0 < rg.length; omega, demL_len rg dm, h8, Int.le_refl 0, by show (0 : Int) ≤ 10000; decide⟩, hp, ?_, ?_, fun k hk => absurd hk (Nat.not_lt_zero k), ?_⟩
  · have := hp 0 (by omega); show (0 : Int) < rd rg ((0 : Nat) : Int); omega
  · have := hp 0 (by omega); show (0 : Int) < rd (demL rg dm) ((0 : Nat) : Int); omega
  · show Over rg dm ↔ ∃ k : Nat, k < rg.length ∧ rd (demL rg dm) (k : Int) > rd rg (k : Int)
    constructor
    · rintro ⟨k, hk, hd, hx⟩
      refine ⟨k, hk, ?_⟩
      rw [demL_rd rg dm k hk, if_pos hd]
      have := reg_pos ho k hk
      unfold mx
      split <;> omega
    · rintro ⟨k, hk, hx⟩
      rw [demL_rd rg dm k hk] at hx
      have := reg_pos ho k hk
      by_cases hd : k < dm.length
      · rw [if_pos hd] at hx
        refine ⟨k, hk, hd, ?_⟩
        unfold mx at hx
        split at hx <;> omega
      · rw [if_neg hd] at hx; omega
def greedyB (t : S46) (d : List (List Int)) (i : Int) : Bool := if i ≥ (d.length : Int) then false else (List.range t.f6.length).any fun k => decide (k < (rd_L3 d i).length) && decide (rd (rd_L3 d i) (k : Int) > rd t.f6 (k : Int))
theorem greedyB_iff (t : S46) (d : List (List Int)) (i : Int) : greedyB t d i = true ↔ Over t.f6 (if i < (d.length : Int) then d.getD i.toNat [] else []) := by
  unfold greedyB
  by_cases h : i ≥ (d.length : Int)
  · rw [if_pos h, if_neg (by omega)]
    constructor
    · intro x; cases x
    · rintro ⟨k, _, hk, _⟩; exact absurd hk (Nat.not_lt_zero k)
  · rw [if_neg h, if_pos (by omega), List.any_eq_true]
    unfold Over rd_L3
    constructor
    · rintro ⟨k, hk, hx⟩
      rw [Bool.and_eq_true] at hx
      exact ⟨k, List.mem_range.mp hk, of_decide_eq_true hx.1, of_decide_eq_true hx.2⟩
    · rintro ⟨k, hk, hd, hx⟩
      exact ⟨k, List.mem_range.mpr hk, by rw [Bool.and_eq_true]; exact ⟨decide_eq_true hd, decide_eq_true hx⟩⟩
def lawEv (T : List S46) (I : List S52) (odd : Int → Bool) (e : S43) : Option (Int → Bool) :=
  if e.f2 < 0 ∨ e.f2 ≥ (T.length : Int) ∨ e.f0 < 0 ∨ e.f0 ≥ (I.length : Int) then some odd
  else if e.f1 = 1 then some (fun x => if x = e.f2 then greedyB (rd_T46 T e.f2) (rd_T52 I e.f0).f1 e.f2 else odd x)
  else if e.f1 = 8 then (if odd e.f2 = true then none else some odd)
  else if e.f1 = 9 then (if odd e.f2 = true then some odd else none)
  else some odd
def lawL (T : List S46) (I : List S52) : (Int → Bool) → List S43 → Option (Int → Bool)
  | odd, [] => some odd
  | odd, e :: l => (lawEv T I odd e).bind fun odd => lawL T I odd l
theorem lawL_append (T : List S46) (I : List S52) : ∀ (l l2 : List S43) (odd : Int → Bool), lawL T I odd (l ++ l2) = (lawL T I odd l).bind fun odd => lawL T I odd l2
  | [], l2, odd => rfl
  | e :: l, l2, odd => by
    show (lawEv T I odd e).bind _ = ((lawEv T I odd e).bind _).bind _
    cases h : lawEv T I odd e with
    | none => rfl
    | some o => exact lawL_append T I l l2 o
theorem lawEv_other {T : List S46} {I : List S52} {odd : Int → Bool} {e : S43} (h : e.f2 < 0 ∨ (e.f1 ≠ 1 ∧ e.f1 ≠ 8 ∧ e.f1 ≠ 9)) : lawEv T I odd e = some odd := by
  unfold lawEv
  split
  · rfl
  · rename_i hn
    rcases h with h | ⟨h1, h2, h3⟩
    · exact absurd (Or.inl h) hn
    · rw [if_neg h1, if_neg h2, if_neg h3]
structure PInv (T : List S46) (I : List S52) (j : Nat) (odd0 : Int → Bool) (A : KA) : Prop where
  ls : A.st.length = T.length
  lj : A.job.length = T.length
  tick : A.tick = (j : Int)
  ex : ∃ odd, lawL T I odd0 A.evs = some odd ∧ ∀ i : Nat, i < T.length → (rd_T132 A.st (i : Int)).f0 = true → JGood (A.job.getD i zJ) (odd (i : Int) = true)
section
variable {T : List S46} {I : List S52} {j : Nat} {odd0 : Int → Bool} {A : KA}
theorem PInv.note (h : PInv T I j odd0 A) (kind task n : Int) (hk : task < 0 ∨ (kind ≠ 1 ∧ kind ≠ 8 ∧ kind ≠ 9)) : PInv T I j odd0 (A.note kind task n) := by
  obtain ⟨ls, lj, tk, odd, ho, hg⟩ := h
  refine ⟨ls, lj, tk, odd, ?_, hg⟩
  show lawL T I odd0 (A.evs ++ [_]) = some odd
  rw [lawL_append, ho]
  show (lawEv T I odd ⟨A.tick, kind, task, n⟩).bind _ = _
  rw [lawEv_other hk]; rfl
theorem PInv.setSt (h : PInv T I j odd0 A) (i : Nat) (q : S132) (hq : q.f0 = true → (rd_T132 A.st (i : Int)).f0 = true) : PInv T I j odd0 { A with st := A.st.set i q } := by
  obtain ⟨ls, lj, tk, odd, ho, hg⟩ := h
  refine ⟨by show (A.st.set i q).length = _; rw [List.length_set]; exact ls, lj, tk, odd, ho, fun m hm hp => hg m hm ?_⟩
  have hp2 : (rd_T132 (A.st.set i q) (m : Int)).f0 = true := hp
  by_cases e : m = i
  · subst e
    rw [rdS_set_eq (by rw [ls]; exact hm)] at hp2
    exact hq hp2
  · rw [rdS_set_ne e] at hp2; exact hp2
theorem PInv.late : ∀ (d i : Nat) {A : KA}, PInv T I j odd0 A → PInv T I j odd0 (lateA T d i A)
  | 0, i, A, h => h
  | d + 1, i, A, h => by
    unfold lateA
    split
    · exact PInv.late d (i + 1) (h.note 3 _ 0 (Or.inr (by decide)))
    · exact PInv.late d (i + 1) h
theorem PInv.arrive1 (h : PInv T I j odd0 A) (hj : j < I.length) (hodd : ∀ t ∈ T, 1 ≤ t.f6.length ∧ t.f6.length ≤ 8 ∧ t.f6.any oddTime = false) (x : Int) (hx : 0 ≤ x) : PInv T I j odd0 (arrive1 T (rd_T52 I (j : Int)).f1 A x) := by
  unfold QTc.arrive1
  split
  · exact h
  · rename_i hlt
    split
    · exact h.note 2 _ 1 (Or.inr (by decide))
    · split
      · exact h.note 2 _ 2 (Or.inr (by decide))
      · obtain ⟨m, rfl⟩ := Int.eq_ofNat_of_zero_le hx
        have hm : m < T.length := by omega
        obtain ⟨ls, lj, tk, odd, ho, hg⟩ := h
        have hmem : rd_T46 T (m : Int) ∈ T := by
          unfold rd_T46
          rw [Int.toNat_natCast, List.getD_eq_getElem?_getD, List.getElem?_eq_getElem hm]; exact List.getElem_mem hm
        obtain ⟨t1, t8, tz⟩ := hodd _ hmem
        refine ⟨by show (A.st.set _ _).length = _; rw [List.length_set]; exact ls, by show (A.job.set _ _).length = _; rw [List.length_set]; exact lj, tk, (fun y => if y = (m : Int) then greedyB (rd_T46 T (m : Int)) (rd_T52 I (j : Int)).f1 (m : Int) else odd y), ?_, fun i hi hp => ?_⟩
        · show lawL T I odd0 (A.evs ++ [_]) = _
          rw [lawL_append, ho]
          show (lawEv T I odd ⟨A.tick, 1, (m : Int), 0⟩).bind _ = _
          unfold lawEv
          rw [if_neg (show ¬ ((m : Int) < 0 ∨ (m : Int) ≥ (T.length : Int) ∨ A.tick < 0 ∨ A.tick ≥ (I.length : Int)) by omega), if_pos rfl, tk]
          rfl
        · have hp2 : (rd_T132 (A.st.set (m : Int).toNat ⟨true, false, false, A.tick⟩) (i : Int)).f0 = true := hp
          rw [Int.toNat_natCast] at hp2
          by_cases e : i = m
          · subst e
            show JGood ((A.job.set (i : Int).toNat _).getD i zJ) _
            rw [Int.toNat_natCast, List.getD_eq_getElem?_getD, List.getElem?_set_self (by rw [lj]; exact hm)]
            show JGood ⟨_, demL _ _, 0, 0, 0⟩ ((if (i : Int) = (i : Int) then greedyB (rd_T46 T (i : Int)) (rd_T52 I (j : Int)).f1 (i : Int) else odd (i : Int)) = true)
            rw [if_pos rfl, greedyB_iff, Int.toNat_natCast]
            exact JGood.new t1 t8 tz
          · rw [rdS_set_ne e] at hp2
            show JGood ((A.job.set (m : Int).toNat _).getD i zJ) ((if (i : Int) = (m : Int) then greedyB (rd_T46 T (m : Int)) (rd_T52 I (j : Int)).f1 (m : Int) else odd (i : Int)) = true)
            rw [Int.toNat_natCast, List.getD_eq_getElem?_getD, List.getElem?_set_ne (fun x => e x.symm), ← List.getD_eq_getElem?_getD, if_neg (show ¬ (i : Int) = (m : Int) by omega)]
            exact hg i hi hp2
theorem PInv.arrive (hj : j < I.length) (hodd : ∀ t ∈ T, 1 ≤ t.f6.length ∧ t.f6.length ≤ 8 ∧ t.f6.any oddTime = false) : ∀ (l : List Int) {A : KA}, PInv T I j odd0 A → (∀ x ∈ l, 0 ≤ x) → PInv T I j odd0 (arriveA T (rd_T52 I (j : Int)).f1 l A)
  | [], A, h, hl => h
  | x :: l, A, h, hl => by
    unfold arriveA
    exact PInv.arrive hj hodd l (h.arrive1 hj hodd x (hl x List.mem_cons_self)) (fun y hy => hl y (List.mem_cons_of_mem _ hy))
theorem PInv.turn1 (h : PInv T I j odd0 A) (r : Int) : PInv T I j odd0 (turn1 A r) := by
  unfold QTc.turn1
  split
  · exact h.note 5 _ 0 (Or.inr (by decide))
  · exact h
theorem PInv.loads (h : PInv T I j odd0 A) (l : List Int) : PInv T I j odd0 { A with loads := l } := ⟨h.ls, h.lj, h.tick, h.ex⟩
theorem PInv.turn2 (h : PInv T I j odd0 A) (i : Nat) (x : Int) : PInv T I j odd0 (turn2 A (i : Int) x) := by
  unfold QTc.turn2
  split
  · exact (h.note 4 _ 0 (Or.inr (by decide))).setSt i _ (fun x => x)
  · split
    · exact (h.note 6 _ _ (Or.inr (by decide))).loads _
    · exact h
theorem PInv.run (h : PInv T I j odd0 A) (hj : j < I.length) (i : Nat) (hi : i < T.length) (hp : hasS A.st (i : Int) = true) : PInv T I j odd0 (runA A (i : Int)) := by
  have hf := hasS_f0 hp
  unfold runA
  rw [Int.toNat_natCast]
  split
  · exact (PInv.setSt h i ⟨(rd_T132 A.st (i : Int)).f0, (rd_T132 A.st (i : Int)).f1, true, (rd_T132 A.st (i : Int)).f3⟩ (fun x => x)).loads _
  · generalize hsj : stepJ (A.job.getD i zJ) = sj
    obtain ⟨odd, ho, hg⟩ := h.ex
    have hst := (hg i hi hf).step
    rw [hsj] at hst
    obtain ⟨reg, how, J2⟩ := sj
    dsimp only at hst ⊢
    generalize wrap64 (wrap64 (A.tick + 1) - (rd_T132 A.st (i : Int)).f3) = took
    have hms : ∀ m : Nat, m ≠ i → ∀ q : S132, rd_T132 (A.st.set i q) (m : Int) = rd_T132 A.st (m : Int) := fun m hm q => rdS_set_ne hm
    have hjs : ∀ m : Nat, m ≠ i → (A.job.set i J2).getD m zJ = A.job.getD m zJ := fun m hm => by
      rw [List.getD_eq_getElem?_getD, List.getElem?_set_ne (fun x => hm x.symm), ← List.getD_eq_getElem?_getD]
    have hji : (A.job.set i J2).getD i zJ = J2 := by
      rw [List.getD_eq_getElem?_getD, List.getElem?_set_self (by rw [h.lj]; exact hi)]; rfl
    rcases hst with ⟨hw, hG⟩ | ⟨rfl, hG⟩ | ⟨rfl, hG⟩
    · have h0 : PInv T I j odd0 { A with job := A.job.set i J2, st := midS A.st (i : Int) (decide (J2.had > 0)) } := by
        refine ⟨by show (A.st.set _ _).length = _; rw [List.length_set]; exact h.ls, by show (A.job.set _ _).length = _; rw [List.length_set]; exact h.lj, h.tick, odd, ho, fun m hm hp2 => ?_⟩
        have hp3 : (rd_T132 (A.st.set (i : Int).toNat ⟨(rd_T132 A.st (i : Int)).f0, (rd_T132 A.st (i : Int)).f1, decide (J2.had > 0), (rd_T132 A.st (i : Int)).f3⟩) (m : Int)).f0 = true := hp2
        rw [Int.toNat_natCast] at hp3
        show JGood ((A.job.set i J2).getD m zJ) _
        by_cases e : m = i
        · subst e; rw [hji]; exact hG
        · rw [hms m e] at hp3; rw [hjs m e]; exact hg m hm hp3
      rcases hw with rfl | rfl
      · exact h0
      · exact h0.note 7 _ _ (Or.inr (by decide))
    · have hodd : odd (i : Int) = false := by
        cases hb : odd (i : Int) with
        | false => rfl
        | true => exact absurd hb hG
      refine ⟨by show ((A.st.set _ _).set _ _).length = _; rw [List.length_set, List.length_set]; exact h.ls, by show (A.job.set _ _).length = _; rw [List.length_set]; exact h.lj, h.tick, odd, ?_, fun m hm hp2 => ?_⟩
      · show lawL T I odd0 ((A.evs ++ [_]) ++ [_]) = _
        rw [List.append_assoc, lawL_append, ho]
        show (lawEv T I odd ⟨A.tick, 7, (i : Int), reg⟩).bind _ = _
        rw [lawEv_other (Or.inr (by show (7 : Int) ≠ 1 ∧ (7 : Int) ≠ 8 ∧ (7 : Int) ≠ 9; decide))]
        show (lawEv T I odd ⟨A.tick, 8, (i : Int), took⟩).bind _ = _
        unfold lawEv
        have htk := h.tick
        rw [if_neg (show ¬ ((i : Int) < 0 ∨ (i : Int) ≥ (T.length : Int) ∨ A.tick < 0 ∨ A.tick ≥ (I.length : Int)) by omega), if_neg (show ¬ (8 : Int) = 1 by decide), if_pos rfl]
        show ((if odd (i : Int) = true then none else some odd).bind _) = _
        rw [hodd]; rfl
      · have hp3 : (rd_T132 ((A.st.set (i : Int).toNat ⟨(rd_T132 A.st (i : Int)).f0, (rd_T132 A.st (i : Int)).f1, decide (J2.had > 0), (rd_T132 A.st (i : Int)).f3⟩).set (i : Int).toNat z132) (m : Int)).f0 = true := hp2
        rw [Int.toNat_natCast] at hp3
        show JGood ((A.job.set i J2).getD m zJ) _
        by_cases e : m = i
        · subst e
          rw [rdS_set_eq (by rw [List.length_set, h.ls]; exact hi)] at hp3
          cases hp3
        · rw [rdS_set_ne e, hms m e] at hp3; rw [hjs m e]; exact hg m hm hp3
    · refine ⟨by show ((A.st.set _ _).set _ _).length = _; rw [List.length_set, List.length_set]; exact h.ls, by show (A.job.set _ _).length = _; rw [List.length_set]; exact h.lj, h.tick, odd, ?_, fun m hm hp2 => ?_⟩
      · show lawL T I odd0 (A.evs ++ [_]) = _
        rw [lawL_append, ho]
        show (lawEv T I odd ⟨A.tick, 9, (i : Int), took⟩).bind _ = _
        unfold lawEv
        have htk := h.tick
        rw [if_neg (show ¬ ((i : Int) < 0 ∨ (i : Int) ≥ (T.length : Int) ∨ A.tick < 0 ∨ A.tick ≥ (I.length : Int)) by omega), if_neg (show ¬ (9 : Int) = 1 by decide), if_neg (show ¬ (9 : Int) = 8 by decide), if_pos rfl]
        show ((if odd (i : Int) = true then some odd else none).bind _) = _
        rw [if_pos hG]; rfl
      · have hp3 : (rd_T132 ((A.st.set (i : Int).toNat ⟨(rd_T132 A.st (i : Int)).f0, (rd_T132 A.st (i : Int)).f1, decide (J2.had > 0), (rd_T132 A.st (i : Int)).f3⟩).set (i : Int).toNat z132) (m : Int)).f0 = true := hp2
        rw [Int.toNat_natCast] at hp3
        show JGood ((A.job.set i J2).getD m zJ) _
        by_cases e : m = i
        · subst e
          rw [rdS_set_eq (by rw [List.length_set, h.ls]; exact hi)] at hp3
          cases hp3
        · rw [rdS_set_ne e, hms m e] at hp3; rw [hjs m e]; exact hg m hm hp3
theorem PInv.go (h : PInv T I j odd0 A) (hj : j < I.length) (r x : Int) (hw : Who T A.st r) : PInv T I j odd0 (goA A r x) := by
  unfold goA
  rcases hw with rfl | ⟨i, rfl, hi, hp⟩
  · rw [if_pos rfl]; exact h.note 10 _ 0 (Or.inl (by decide))
  · rw [if_neg (show ¬ (i : Int) = -1 by omega)]
    refine ((h.turn1 _).turn2 i x).run hj i hi ?_
    exact turn_has A i x (by rw [h.ls]; exact hi) hp
theorem PInv.rdy (h : PInv T I j odd0 A) : ∀ i, i < T.length → hasS A.st (i : Int) = true → JRdy (A.job.getD i zJ) := fun i hi hp => by
  obtain ⟨odd, ho, hg⟩ := h.ex
  exact (hg i hi (hasS_f0 hp)).rdy
theorem PInv.mid (h : PInv T I j odd0 { A with evs := [] }) (hj : j < I.length) (hodd : ∀ t ∈ T, 1 ≤ t.f6.length ∧ t.f6.length ≤ 8 ∧ t.f6.any oddTime = false) (s : Nat) : PInv T I j odd0 (midA T (rd_T52 I (j : Int)).f1 s A) :=
  PInv.arrive hj hodd _ (PInv.late _ _ h) (fun x hx => (list_mem s 64 0 x hx).1)
def Greed (T : List S46) (j : Nat) (odd : Int → Bool) (A : KA) : Prop := A.st.length = T.length ∧ A.job.length = T.length ∧ A.tick = (j : Int) ∧ ∀ i : Nat, i < T.length → (rd_T132 A.st (i : Int)).f0 = true → JGood (A.job.getD i zJ) (odd (i : Int) = true)
theorem Greed.start (h : Greed T j odd0 A) : PInv T I j odd0 { A with evs := [] } := ⟨h.1, h.2.1, h.2.2.1, odd0, rfl, h.2.2.2⟩
theorem PInv.next (h : PInv T I j odd0 A) (r : Int) (hj : j < 1000000) : ∃ odd, lawL T I odd0 (endT A r).evs = some odd ∧ Greed T (j + 1) odd (endT A r) := by
  obtain ⟨odd, ho, hg⟩ := h.ex
  refine ⟨odd, ho, h.ls, h.lj, ?_, hg⟩
  show wrap64 (A.tick + 1) = _
  rw [h.tick, IntWalk.wrap64_in _ (by omega)]; omega
theorem Greed.new (T : List S46) : Greed T 0 (fun _ => false) (QTc.newA T) := by
  refine ⟨by simp [QTc.newA], by simp [QTc.newA], rfl, fun i hi hp => ?_⟩
  have : (rd_T132 (List.replicate T.length z132) (i : Int)).f0 = true := hp
  rw [rep_f0] at this; cases this
end
end Go.Proofs.YtaofmmnfenlofaaGreatDoor.QTc
namespace Go.Proofs.YtaofmmnfenlofaaGreatDoor.QTc
open Go.RowKit Go.Proofs.YtaofmmnfenlofaaGreatDoorW.PrintWords Go.Proofs.YtaofmmnfenlofaaGreatDoorW.PrintLast Go.Proofs.YtaofmmnfenlofaaGreatDoorW.PrintMore Go.Proofs.YtaofmmnfenlofaaGreatDoor.Pure
set_option linter.unusedVariables false
set_option linter.unusedSimpArgs false
theorem goA_len (A : KA) (r x : Int) : (goA A r x).evs.length ≤ A.evs.length + 4 := by
  unfold goA
  split
  · simp [KA.note]
  · have h := turn_len A r x
    generalize turn2 (turn1 A r) r x = A2 at h ⊢
    unfold runA
    split
    · show A2.evs.length ≤ _; omega
    · unfold endA
      split
      · simp only [KA.note, List.length_append, List.length_singleton]; omega
      · split
        · simp only [KA.note, KA.drop, List.length_append, List.length_singleton]; omega
        · split
          · simp only [KA.note, KA.drop, List.length_append, List.length_singleton]; omega
          · show A2.evs.length ≤ _; omega
theorem mid_len (T : List S46) (D : List (List Int)) (s : Nat) (A : KA) (h8 : T.length ≤ 8) : (midA T D s A).evs.length ≤ 72 := by
  have h2 := arriveA_len T D (listFrom s 64 0) (lateA T T.length 0 { A with evs := [] })
  have h3 := lateA_len T T.length 0 { A with evs := [] }
  have h4 := listFrom_le s 64 0
  exact Nat.le_trans h2 (Nat.le_trans (Nat.add_le_add h3 (Nat.le_refl _)) (by show 0 + T.length + (listFrom s 64 0).length ≤ 72; omega))
theorem KpT.rowEv {B0 : Bs} {w w' : World} {ts : List Nat} (h : KpT B0 w w' ts) {base : Nat} {ok : Nat → Prop} {v : Value} {xs : List S43} (hr : Kd.R k43 43 w base ok v xs) (he : w.heap.size ≤ B0.e) : Kd.R k43 43 w' base ok v xs := by
  refine Kd.R_mono (Kd.R_step (Kd.R_bound hr) (fun k hk hlt => ?_)) (fun _ hk => hk.1)
  obtain ⟨_, _, _, q, hq, cs, hcs⟩ := hk
  rw [List.mem_singleton.mp hq] at hcs
  exact (h.evs hcs (Nat.lt_of_lt_of_le hlt he)).trans hcs.symm
theorem KInv.out {B0 : Bs} {w w' : World} {g : Nat} {rl : Int} {T : List S46} {L : KL} {K : KS} {ev : Value} (h : KInv B0 w g rl T L K ev none) {v : Value} {xs : List S43} (hr : Kd.R k43 43 w B0.b (fun _ => True) v xs) (hv : ∀ k, v.ownBlock = some k → k < B0.e) (hg : w.grownBy w' v.ownBlock) : KInv (bsN B0.b) w' g rl T L K ev none := by
  have h2 : KInv (bsN B0.b) w g rl T L K ev none := h.rebase rfl (Kd.R_lower h.evs B0.le)
  have hk : KpT (bsN B0.b) w w' [96, 43] := ⟨fun k => some k = v.ownBlock, Kp.of_grown hg (fun k e _ => e.symm), fun k hk hlt => by
    obtain ⟨_, inner, ho, _⟩ := hr
    obtain ⟨cs, hcs⟩ := own_typed ho k hk.symm
    exact ⟨own_base ho k hk.symm, cs, 43, hcs, by simp, fun _ => own_base ho k hk.symm⟩⟩
  refine h2.setKer hk rfl rfl rfl rfl ?_ ?_
  · exact blk_grown h.ker hg (Kd.R_ne hr h.ker (by decide))
  · refine Kd.R_lower (Kd.R_mono (Kd.R_grown (Kd.R_bound h.evs) hg (fun k hk e => ?_)) (fun _ _ => trivial)) B0.le
    have := hv k e.symm
    have := hk.2.1
    omega
structure RI (w : World) (b g : Nat) (rl : Int) (T : List S46) (I : List S52) (L : KL) (i : Nat) (A : Option Addr) (c : Nat) (outs : List S43) (odd : Int → Bool) (K : KS) (ev : Value) (W : World) : Prop where
  inv : KInv (bsN b) W g rl T L K ev none
  greed : Greed T i odd K.abs
  law : lawL T I (fun _ => false) outs = some odd
  out : Kd.R k43 43 W b (fun _ => True) (.slice A outs.length c) outs
  len : outs.length ≤ i * 100
  hB : Below w.heap.size w W
  hb : w.heap.size ≤ b ∧ b ≤ W.heap.size
theorem ri_next {w wr w2 w9 : World} {b g : Nat} {rl : Int} {T : List S46} {I : List S52} {L : KL} {i : Nat} {A A9 : Option Addr} {c q9 : Nat} {outs : List S43} {odd : Int → Bool} {K K2 : KS} {ev ev2 : Value} {hbw : b ≤ wr.heap.size}
    (h : RI w b g rl T I L i A c outs odd K ev wr) (hk2 : KInv ⟨b, wr.heap.size, hbw⟩ w2 g rl T L K2 ev2 none) (ho2 : Kd.R k43 43 w2 b (fun _ => True) (.slice A outs.length c) outs) (hkt : KpT ⟨b, wr.heap.size, hbw⟩ wr w2 TsAll)
    (hnx : ∃ odd', lawL T I odd K2.evs = some odd' ∧ Greed T (i + 1) odd' K2.abs) (hle : K2.evs.length ≤ 76) (hR9 : Kd.R k43 43 w9 b (fun _ => True) (.slice A9 (outs ++ K2.evs).length q9) (outs ++ K2.evs)) (hB9 : Below b w2 w9) (hg9 : w2.grownBy w9 (Value.slice A outs.length c).ownBlock) :
    ∃ odd', RI w b g rl T I L (i + 1) A9 q9 (outs ++ K2.evs) odd' K2 ev2 w9 := by
  obtain ⟨odd', hl, hgr⟩ := hnx
  have h1 := KInv.out hk2 ho2 (fun k hk => own_lt_R h.out k hk) hg9
  have hs := hkt.size
  have hs2 := hB9.size
  refine ⟨odd', h1, hgr, ?_, hR9, ?_, (h.hB.trans ((hkt.below hbw).mono h.hb.1)).trans (hB9.mono h.hb.1), h.hb.1, by omega⟩
  · rw [lawL_append, h.law]; exact hl
  · rw [List.length_append]
    have := h.len
    omega
set_option maxHeartbeats 16000000 in
set_option maxRecDepth 100000 in
theorem lawRun_calls (w : World) (rl : Int) (A0 : Option Addr) (c0 : Nat) (T : List S46) (AI : Option Addr) (cI : Nat) (I : List S52) (hr : Kd.C k46 w A0 T.length T) (hc : T.length ≤ c0) (h1 : 1 ≤ T.length) (h8 : T.length ≤ 8)
    (hall : ∀ W, Below w.heap.size w W → Calls Tryz.prog 20 #[.agg #[.int .i64 rl, .slice A0 T.length c0]] W fun e w' => e = .returned (.bool true) ∧ Below W.heap.size W w')
    (hodd : ∀ t ∈ T, 1 ≤ t.f6.length ∧ t.f6.length ≤ 8 ∧ t.f6.any oddTime = false) (hper : (T.map (·.f1)).any oddTime = false)
    (hU : ∀ t ∈ T, (0 ≤ t.f7 ∧ t.f7 < 18446744073709551616) ∧ (0 ≤ t.f8 ∧ t.f8 < 18446744073709551616))
    (hI : Kd.C k52 w AI I.length I) (hcI : I.length ≤ cI) (hl : I.length ≤ 250) (hIU : ∀ x ∈ I, (0 ≤ x.f0 ∧ x.f0 < 18446744073709551616) ∧ (0 ≤ x.f2 ∧ x.f2 < 18446744073709551616)) (hTw : ∀ W, Below w.heap.size w W → TabW W) :
    Calls Tryz.prog 13 #[.agg #[.int .i64 rl, .slice A0 T.length c0], .slice AI I.length cI] w fun e w' => ∃ v evs odd, e = .returned (.tuple #[v, .bool true]) ∧ Kd.R k43 43 w' w.heap.size (fun _ => True) v evs ∧ evs.length ≤ 25000 ∧ lawL T I (fun _ => false) evs = some odd ∧ Below w.heap.size w w' := by
  have hbo : ∀ o, Below w.heap.size w (w.alloc o) := fun o => Below.alloc (Below.refl _ _) (Nat.le_refl _) o
  have HN := Aside0.mk (kNew_calls (w.alloc (.cells #[.int .i64 rl, .slice A0 T.length c0] 24)) rl A0 c0 T (Kd.C_below hr (hbo _)) hc h1 h8 (fun W hW => hall W ((hbo _).trans (hW.mono (by simp)))) (fun t ht => ⟨(hodd t ht).1, (hodd t ht).2.1⟩) hper)
  have HI := Aside0.mk hI
  have HO := Aside0.mk hodd
  have HU := Aside0.mk hU
  have HIU := Aside0.mk hIU
  have HT := Aside0.mk hTw
  have HBO := Aside0.mk hbo
  clear hr hall hodd hper hU hI hIU hTw hbo
  have hnp : ∀ (g : Nat) (w : World), (binOp .eql 65 (.pointer (some ⟨g, 0, none⟩)) (.pointer none)).run Tryz.prog w = .ok (.bool false) w := fun g w => by kernel_rfl
  go_enter Tryz.func13, Tryz.ntmps13
  go_wp2_with (go_at_call 26; (with_reducible refine HN.out.mono ?_); rintro e w1 ⟨g, L, K, ev, rfl, hk1, ha1, hb1⟩; have HB1 := Aside0.mk ((HBO.out _).trans (hb1.mono (by simp))); have HBS1 := Aside0.mk hb1.size; have HK1 := Aside0.mk hk1; have HA1 := Aside0.mk ha1; clear hk1 ha1 hb1)
  have N1 := Aside0.mk (show RI w (w.alloc (.cells #[.int .i64 rl, .slice A0 T.length c0] 24)).heap.size g rl T I L 0 none 0 [] (fun _ => false) K ev w1 from ⟨HK1.out, HA1.out ▸ Greed.new T, rfl, Kd.R_nil _ _ _ _ _, Nat.le_refl _, HB1.out, by simp, by have := HBS1.out; simpa using this⟩)
  generalize (w.alloc (.cells #[.int .i64 rl, .slice A0 T.length c0] 24)).heap.size = b at N1
  clear HB1 HBS1 HK1 HA1
  go_loopg [8, 9] (I.length + 1) (fun kq v8 v9 w' => ∃ (i : Nat) (A : Option Addr) (c : Nat) (outs : List S43) (odd : Int → Bool) (K : KS) (ev : Value), kq + i = I.length + 1 ∧ v9 = .int .i64 (i : Int) ∧ v8 = .slice A outs.length c ∧ i ≤ I.length ∧ RI w b g rl T I L i A c outs odd K ev w')
  case atStart => exact ⟨0, none, 0, [], _, K, ev, by omega, rfl, rfl, by omega, N1.out⟩
  case round =>
    clear N1
    obtain ⟨i, A, c, outs, odd, K, ev, hq, rfl, rfl, hi, INV⟩ := hrel
    cases gk with
    | zero => exfalso; omega
    | succ k1 =>
    by_cases hlt : i < I.length
    · have hlt1 : decide ((i : Int) < (I.length : Int)) = true := decide_eq_true (by omega)
      have i0 : 0 ≤ (i : Int) := by omega
      have i1 : (i : Int) < (I.length : Int) := by omega
      obtain ⟨ad, A1, c1, rfl, d0, d1, d2, hl1, hC1⟩ := at_T52 HI.out (i : Int) i0 i1
      rw [Int.toNat_natCast] at d0 d1 d2
      have hB := INV.hB
      have hlw := World.block_lt_of_cell? w _ d0
      have hcell : ∀ {a : Addr} {v : Value}, w.cell? a = some v → wr.cell? a = some v := fun {a v} h => (hB.cell (World.block_lt_of_cell? w a h)).trans h
      have d0 := hcell d0
      have d1 := hcell d1
      have d2 := hcell d2
      have hmem : rd_T52 I (i : Int) ∈ I := by
        unfold rd_T52
        rw [Int.toNat_natCast, List.getD_eq_getElem?_getD, List.getElem?_eq_getElem hlt]; exact List.getElem_mem hlt
      obtain ⟨⟨u0, u1⟩, u2, u3⟩ := HIU.out _ hmem
      have hpm : ∀ s, PInv T I i odd (midA T (rd_T52 I (i : Int)).f1 s K.abs) := fun s => INV.greed.start.mid hlt HO.out s
      generalize hin : rd_T52 I (i : Int) = x at d0 d1 d2 hl1 hC1 u0 u1 u2 u3 hpm
      obtain ⟨x0, D, x2⟩ := x
      dsimp only at d0 d1 d2 hl1 hC1 u0 u1 u2 u3 hpm
      obtain ⟨s, rfl⟩ := Int.eq_ofNat_of_zero_le u0
      obtain ⟨tn, rfl⟩ := Int.eq_ofNat_of_zero_le u2
      have hbw : b ≤ wr.heap.size := INV.hb.2
      have HST := Aside0.mk (step_calls (bsN b) ⟨b, wr.heap.size, hbw⟩ wr g rl T L K ev s A1 c1 D tn (fun W hW => HT.out _ (hB.trans ((hW.below hbw).mono INV.hb.1))) INV.inv rfl (Nat.le_refl _) (by omega) (by omega) (fun W hW => Kd.C_below hC1 (hB.trans ((hW.below hbw).mono INV.hb.1))) (by rw [show K.tick = K.abs.tick from rfl, INV.greed.2.2.1]; omega) (by rw [show K.tick = K.abs.tick from rfl, INV.greed.2.2.1]; omega) HO.out HU.out (hpm s).rdy)
      have HI2 := Aside0.mk INV
      have HPM := Aside0.mk (hpm s)
      have HML := Aside0.mk (mid_len T D s K.abs h8)
      generalize midA T D s K.abs = A2 at HST HPM HML
      clear INV hB hcell hpm hmem hC1 hin u0 u2
      go_wp2_with (first | (go_at_call 27; (with_reducible refine HST.out.mono ?_); rintro e w2 ⟨r, x, hcr, hwho, ⟨K2, ev2, rfl, hk2, ha2⟩, hkt⟩; obtain ⟨A3, c3, rfl⟩ := Kd.R_slice hk2.evs; have HR3 := Aside0.mk (Kd.R_reads' hk2.evs).2.2; have HO2 := Aside0.mk (hkt.rowEv HI2.out.out (Nat.le_refl _)); have HK2 := Aside0.mk hk2; have HKT := Aside0.mk hkt; have HNX := Aside0.mk (show ∃ odd', lawL T I odd K2.evs = some odd' ∧ Greed T (i + 1) odd' K2.abs by have h := (HPM.out.go hlt r x hwho).next r (by omega); rw [← ha2] at h; exact h); have HLE := Aside0.mk (show K2.evs.length ≤ 76 by have h1 := congrArg KA.evs ha2; have h2 := goA_len A2 r x; have h3 := HML.out; rw [show K2.evs = (goA A2 r x).evs from h1]; omega); clear hk2 ha2 hkt hcr hwho) | ((with_reducible refine gate_builtin (b := .append) (xs := #[.tmp 27, .tmp 33]) rfl ?_); at_builtin; (refine Kd.R_append_rows k43 (Rr := k43.K w2) (w0 := w2) b rfl (.tmp 27) (.tmp 33) 37 43 (.agg #[.int .i64 0, .int .i64 0, .int .i64 0, .int .i64 0]) 32 rfl Tryz.underlying37 info43k rfl (by decide) (by omega) (.slice A outs.length c) outs K2.evs A3 K2.evs.length c3 (fun _ => True) (fun _ => False) rfl rfl ?aO ?aR ?aK (fun _ hk => hk.elim) (fun _ _ => trivial) ?aB ?aS ?aL ?_; (case aO => exact HO2.out); (case aR => exact HR3.out); (case aK => intro x cs h; obtain rfl := k43_open h; exact k43_mkM _ _ _ _); (case aB => exact Below.refl _ _); (case aS => have := HKT.out.size; omega); (case aL => have := HLE.out; have := HI2.out.len; omega); intro v9 w9 hR9 hB9 hg9 hat9; obtain ⟨A9, q9, rfl⟩ := Kd.R_slice hR9; have H9 := Aside0.mk (ri_next HI2.out HK2.out HO2.out HKT.out HNX.out HLE.out hR9 hB9 hg9); clear hR9 hB9 hg9 hat9)))
      obtain ⟨odd', h9⟩ := H9.out
      replace h9 := Aside0.mk h9
      clear H9
      go_roundg k1
      case measure => exact Nat.lt_succ_self _
      case rel => exact ⟨i + 1, A9, q9, outs ++ K2.evs, odd', K2, _, by omega, by rw [show ((i : Int) + 1) = ((i + 1 : Nat) : Int) by omega], by rw [List.length_append], by omega, h9.out⟩
    · have hlt1 : decide ((i : Int) < (I.length : Int)) = false := decide_eq_false (by omega)
      have HI2 := Aside0.mk INV
      clear INV
      go_wp2
      go_ret2
      have h := HI2.out
      exact ⟨_, outs, odd, rfl, Kd.R_lower h.out h.hb.1, by have := h.len; omega, h.law, h.hB⟩
def tA : S46 := ⟨⟨#[97]⟩, 5, 5, 0, 0, 0, [2], 0, 0⟩
def kA1 : KA := ⟨1, 0, [⟨5, 0, true⟩], [⟨true, true, true, 0⟩], [0], [⟨[2], [2], 0, 1, 0⟩], [⟨0, 1, 0, 0⟩, ⟨0, 4, 0, 0⟩]⟩
def kA2 : KA := ⟨2, 0, [⟨5, 0, true⟩], [z132], [0], [⟨[2], [2], 1, 0, 2⟩], [⟨1, 7, 0, 0⟩, ⟨1, 8, 0, 2⟩]⟩
def kM1 : KA := ⟨0, -1, [⟨5, 0, true⟩], [⟨true, false, false, 0⟩], [0], [⟨[2], [2], 0, 0, 0⟩], [⟨0, 1, 0, 0⟩]⟩
def kM2 : KA := { kA1 with evs := [] }
set_option maxRecDepth 100000 in
theorem mid1 : midA [tA] [[2]] 1 (newA [tA]) = kM1 := by kernel_rfl
set_option maxRecDepth 100000 in
theorem mid2 : midA [tA] [] 0 kA1 = kM2 := by kernel_rfl
theorem cho1 : rule_Choose.f 20 0 [tA] kM1.st kM1.last kM1.tick = some 0 := by kernel_rfl
theorem cho2 : rule_Choose.f 20 0 [tA] kM2.st kM2.last kM2.tick = some 0 := by kernel_rfl
theorem go1 (x : Int) : endT (goA kM1 0 x) 0 = kA1 := by kernel_rfl
theorem go2 (x : Int) : endT (goA kM2 0 x) 0 = kA2 := by kernel_rfl
end Go.Proofs.YtaofmmnfenlofaaGreatDoor.QTc
namespace Go.Proofs.YtaofmmnfenlofaaGreatDoor.QTc
open Go.RowKit Go.Proofs.YtaofmmnfenlofaaGreatDoorW.PrintWords Go.Proofs.YtaofmmnfenlofaaGreatDoorW.PrintLast Go.Proofs.YtaofmmnfenlofaaGreatDoorW.PrintMore
attribute [local go_sem] max2_int min2_int max_two min_two max_three min_three max_four min_four
set_option linter.unusedVariables false
set_option linter.unusedSimpArgs false
def fix_isTop.f (a0 : Int) (a1 : Int) : Option (Bool) := if a0 ≥ a1 then (some (decide (a0 ≤ 1000000))) else (some false)
set_option maxHeartbeats 8000000 in
set_option maxRecDepth 100000 in
theorem fix_isTop.calls (a0 : Int) (a1 : Int) (r : Bool) (w : World) (h : fix_isTop.f a0 a1 = some r) :
  Calls Tryz.prog 143 #[.int .i64 a0, .int .i64 a1] w fun e w' => e = .returned (.bool r) ∧ Drawn0 w w' := by
 have H : (if a0 ≥ a1 then (some (decide (a0 ≤ 1000000))) else (some false)) = some r := h
 clear h
 by_cases c3 : a0 ≥ a1
 ·rw [if_pos c3] at H
  have c3b0 : decide (a1 ≤ a0) = true := decide_eq_true c3
  clear c3
  obtain rfl := Option.some.inj H
  go_enter Tryz.func143, Tryz.ntmps143
  go_wp2
  go_ret
  exact ⟨by first | rfl | (simp; done) | (simp [*]; done), by repeat (first | exact Drawn0.refl _ | apply Drawn0.step)⟩
 ·rw [if_neg c3] at H
  have c3b0 : decide (a1 ≤ a0) = false := decide_eq_false c3
  clear c3
  obtain rfl := Option.some.inj H
  go_enter Tryz.func143, Tryz.ntmps143
  go_wp2
  go_ret
  exact ⟨by first | rfl | (simp; done) | (simp [*]; done), by repeat (first | exact Drawn0.refl _ | apply Drawn0.step)⟩
end Go.Proofs.YtaofmmnfenlofaaGreatDoor.QTc
namespace Go.Proofs.YtaofmmnfenlofaaGreatDoor.QTc
open Go.RowKit Go.Proofs.YtaofmmnfenlofaaGreatDoorW.PrintWords Go.Proofs.YtaofmmnfenlofaaGreatDoorW.PrintLast Go.Proofs.YtaofmmnfenlofaaGreatDoorW.PrintMore
set_option linter.unusedVariables false
set_option linter.unusedSimpArgs false
def oddL (x : S165) : Bool := !(decide (1 ≤ x.f0 ∧ x.f0 ≤ 1000000) && decide (0 ≤ x.f1 ∧ x.f1 ≤ 1000000))
theorem isTop_eq (n l : Int) : fix_isTop.f n l = some (decide (l ≤ n ∧ n ≤ 1000000)) := by
  unfold fix_isTop.f
  by_cases h : l ≤ n
  · rw [if_pos (show n ≥ l from h)]; simp [h]
  · rw [if_neg (show ¬ n ≥ l from h)]; simp [h]
def idxL : List S165 → Int → Int
  | [], _ => -1
  | x :: l, i => if oddL x = true then i else idxL l (i + 1)
theorem idxL_any : ∀ (l : List S165) (i : Int), 0 ≤ i → decide (0 ≤ idxL l i) = l.any oddL
  | [], i, h => by simp [idxL]
  | x :: l, i, h => by
    unfold idxL
    by_cases hx : oddL x = true
    · rw [if_pos hx]; simp [hx, h]
    · rw [if_neg hx, idxL_any l (i + 1) (by omega)]; simp [hx]
theorem clos (x : S165) (w : World) :
    Calls Tryz.prog 166 #[.agg #[.int .i64 x.f0, .int .i64 x.f1]] w fun e w' => e = .returned (.bool (oddL x)) ∧ Below w.heap.size w w' := by
  have hu31 := Tryz.underlying165
  have A1 := Aside0.mk (isTop_eq x.f0 1)
  have A2 := Aside0.mk (isTop_eq x.f1 0)
  generalize hp : decide (1 ≤ x.f0 ∧ x.f0 ≤ 1000000) = p at A1
  generalize hq : decide (0 ≤ x.f1 ∧ x.f1 ≤ 1000000) = q at A2
  have E := Aside0.mk (show oddL x = (!(p && q)) by unfold oddL; rw [hp, hq])
  clear hp hq
  have HB := Aside0.mk (Below.refl w.heap.size w)
  cases p
  all_goals
    go_enter Tryz.func166, Tryz.ntmps166
    go_wp2_with (first | (go_at_call 143; (with_reducible refine (fix_isTop.calls x.f0 1 _ _ A1.out).mono ?_); rintro e w' ⟨rfl, ⟨nd, rfl⟩⟩) | (go_at_call 143; (with_reducible refine (fix_isTop.calls x.f1 0 _ _ A2.out).mono ?_); rintro e w' ⟨rfl, ⟨nd, rfl⟩⟩))
    go_ret
    exact ⟨by rw [E.out]; simp, by repeat (first | (with_reducible first | exact HB.out | apply below_alloc | apply pw_below_drewN | apply below_drew1) | exact HB.out)⟩
theorem idxL_step {l : List S165} {i : Int} (h0 : 0 ≤ i) (h1 : i < (l.length : Int)) : idxL (l.drop i.toNat) i = if oddL (rd_T165 l i) = true then i else idxL (l.drop (i + 1).toNat) (i + 1) := by
  have hl : i.toNat < l.length := by omega
  rw [List.drop_eq_getElem_cons hl, show (i + 1).toNat = i.toNat + 1 by omega]
  show (if oddL l[i.toNat] = true then i else _) = _
  unfold rd_T165
  rw [List.getD_eq_getElem?_getD, List.getElem?_eq_getElem hl]; rfl
theorem idxL_end {l : List S165} {i : Int} (h1 : (l.length : Int) ≤ i) : idxL (l.drop i.toNat) i = -1 := by
  rw [List.drop_eq_nil_of_le (by omega)]; rfl
set_option maxHeartbeats 1000000 in
theorem index (A1 : Option Addr) (c1 : Nat) (l1 : List (S165)) (w : World) (hr1 : Kd.C k165 w A1 l1.length l1) (hc1 : l1.length ≤ c1) (r : Int) (h : idxL l1 0 = r) :
    Calls Tryz.prog 183 #[.slice A1 l1.length c1, .func (.func 166) #[] #[]] w fun e w' => e = .returned (.int .i64 r) ∧ Below w.heap.size w w' := by
  have hu31 := Tryz.underlying165
  have HR1 := Aside0.mk hr1
  have HL := Aside0.mk hr1.2.1
  clear hr1
  have HB := Aside0.mk (Below.refl w.heap.size w)
  have H := Aside0.mk (show idxL (l1.drop (0 : Int).toNat) 0 = r from h)
  clear h
  go_enter Tryz.func183, Tryz.ntmps183
  go_wp2
  go_loopg [8] l1.length (fun kq v8 w' => ∃ i : Int, v8 = .int .i64 i ∧ Aside0 (0 ≤ i ∧ i ≤ l1.length ∧ (l1.length : Int) - i ≤ kq) ∧ Aside0 (idxL (l1.drop i.toNat) i = r) ∧ Aside0 (Below w.heap.size w w'))
  case atStart => exact ⟨0, rfl, ⟨by omega⟩, H, HB⟩
  case round =>
    clear HB H
    obtain ⟨i, rfl, HI, H, HB⟩ := hrel
    by_cases hlt : i < (l1.length : Int)
    · have p106 : 0 ≤ i := HI.out.1
      have q106 := hlt
      obtain ⟨ad106, e106, hx106_0, hx106_1⟩ := at_T165 HR1.out i p106 q106
      cases e106
      replace hx106_0 := (HB.out.cell (World.block_lt_of_cell? w _ hx106_0)).trans hx106_0
      replace hx106_1 := (HB.out.cell (World.block_lt_of_cell? w _ hx106_1)).trans hx106_1
      have c4b0 : decide (i < (l1.length : Int)) = true := decide_eq_true hlt
      have hw : wrap64 (i + 1) = i + 1 := by have := HL.out; unfold wrap64; omega
      have HW := Aside0.mk hw
      have hstep := idxL_step p106 q106
      rw [H.out] at hstep
      have HS := Aside0.mk hstep
      clear hstep hlt hw
      generalize ho : oddL (rd_T165 l1 i) = o at HS
      have HO := Aside0.mk (show ∀ w, Calls Tryz.prog 166 #[.agg #[.int .i64 (rd_T165 l1 i).f0, .int .i64 (rd_T165 l1 i).f1]] w fun e w' => e = .returned (.bool o) ∧ Below w.heap.size w w' by rw [← ho]; exact fun w => clos _ w)
      clear ho
      cases o
      · go_wp2_with (first | (go_at_call 166; (with_reducible refine (HO.out _).mono ?_); rintro e w' ⟨rfl, hb⟩; have HB2 := Aside0.mk (HB.out.trans (hb.mono HB.out.size)); clear hb))
        go_roundg (gk - 1)
        case measure => have := HI.out; omega
        case rel => exact ⟨i + 1, (by first | rfl | (rw [HW.out]; done) | (simp [HW.out]; done)), ⟨by have := HI.out; omega⟩, ⟨by have := HS.out; simpa using this.symm⟩, HB2⟩
      · go_wp2_with (first | (go_at_call 166; (with_reducible refine (HO.out _).mono ?_); rintro e w' ⟨rfl, hb⟩; have HB2 := Aside0.mk (HB.out.trans (hb.mono HB.out.size)); clear hb))
        go_ret
        have e : r = i := by have := HS.out; simpa using this
        subst e
        exact ⟨by first | rfl | (simp; done), HB2.out⟩
    · have c4b0 : decide (i < (l1.length : Int)) = false := decide_eq_false hlt
      have he := idxL_end (l := l1) (i := i) (by omega)
      rw [H.out] at he
      have HS := Aside0.mk he
      clear he hlt
      go_wp2
      go_ret
      have e : r = -1 := HS.out
      subst e
      exact ⟨by first | rfl | (simp; done), HB.out⟩
theorem contains (A1 : Option Addr) (c1 : Nat) (l1 : List (S165)) (w : World) (hr1 : Kd.C k165 w A1 l1.length l1) (hc1 : l1.length ≤ c1) (r : Bool) (h : l1.any oddL = r) :
    Calls Tryz.prog 165 #[.slice A1 l1.length c1, .func (.func 166) #[] #[]] w fun e w' => e = .returned (.bool r) ∧ Below w.heap.size w w' := by
  have hq := idxL_any l1 0 (by omega)
  rw [h] at hq
  have HQ := Aside0.mk (index A1 c1 l1 w hr1 hc1 _ rfl)
  have HR := Aside0.mk hr1
  clear hr1 hc1 h
  generalize idxL l1 0 = n at hq HQ
  cases r
  all_goals
    go_enter Tryz.func165, Tryz.ntmps165
    go_wp2_with (first | (go_at_call 183; (with_reducible refine (HQ.out).mono ?_); rintro e w' ⟨rfl, hb⟩; have HB2 := Aside0.mk hb; clear hb))
    go_ret
    exact ⟨by first | rfl | (simp; done) | (simp [*]; done), HB2.out⟩
def fix_is.f (a0 : Int) (l1 : List (S165)) : Option Bool := some (decide (0 ≤ a0 ∧ a0 ≤ 1000000) && (decide ((l1.length : Int) ≤ 64) && !(l1.any oddL)))
set_option maxHeartbeats 1000000 in
theorem fix_is.calls (a0 : Int) (A1 : Option Addr) (c1 : Nat) (l1 : List (S165)) (r : Bool) (w : World) (hr1 : Kd.C k165 w A1 l1.length l1) (hc1 : l1.length ≤ c1) (h : fix_is.f a0 l1 = some r) :
    Calls Tryz.prog 137 #[.int .i64 a0, .slice A1 l1.length c1] w fun e w' => e = .returned (.bool r) ∧ Below w.heap.size w w' := by
  have H : (decide (0 ≤ a0 ∧ a0 ≤ 1000000) && (decide ((l1.length : Int) ≤ 64) && !(l1.any oddL))) = r := Option.some.inj h
  clear h
  have A1' := Aside0.mk (isTop_eq a0 0)
  have HC := Aside0.mk (fun w (h : Kd.C k165 w A1 l1.length l1) => contains A1 c1 l1 w h hc1 _ rfl)
  have HR := Aside0.mk hr1
  have HB := Aside0.mk (Below.refl w.heap.size w)
  clear hr1 hc1
  generalize decide (0 ≤ a0 ∧ a0 ≤ 1000000) = p at H A1'
  generalize l1.any oddL = q at H HC
  cases p
  · simp at H
    subst H
    go_enter Tryz.func137, Tryz.ntmps137
    go_wp2_with (first | (go_at_call 143; (with_reducible refine (fix_isTop.calls a0 0 _ _ A1'.out).mono ?_); rintro e w' ⟨rfl, ⟨nd, rfl⟩⟩))
    go_ret
    exact ⟨rfl, by repeat (first | (with_reducible first | exact HB.out | apply below_alloc | apply pw_below_drewN | apply below_drew1) | exact HB.out)⟩
  · by_cases hl : (l1.length : Int) ≤ 64
    · have e1 : decide (l1.length ≤ 64) = true := decide_eq_true (by omega)
      have e2 : decide ((l1.length : Int) ≤ 64) = true := decide_eq_true hl
      rw [e2] at H
      simp at H
      subst H
      clear hl
      go_enter Tryz.func137, Tryz.ntmps137
      go_wp2_with (first | (go_at_call 143; (with_reducible refine (fix_isTop.calls a0 0 _ _ A1'.out).mono ?_); rintro e w' ⟨rfl, ⟨nd, rfl⟩⟩) | (go_at_call 165; (with_reducible refine (HC.out _ (Kd.C_below HR.out (by repeat (first | (with_reducible first | exact HB.out | apply below_alloc | apply pw_below_drewN | apply below_drew1) | exact HB.out)))).mono ?_); rintro e w' ⟨rfl, hb⟩; have HB2 := Aside0.mk hb; clear hb))
      go_ret
      exact ⟨rfl, (Drawn0.below ⟨⟨nd, rfl⟩⟩).trans (HB2.out.mono (Nat.le_refl _))⟩
    · have e1 : decide (l1.length ≤ 64) = false := decide_eq_false (by omega)
      have e2 : decide ((l1.length : Int) ≤ 64) = false := decide_eq_false hl
      rw [e2] at H
      simp at H
      subst H
      clear hl
      go_enter Tryz.func137, Tryz.ntmps137
      go_wp2_with (first | (go_at_call 143; (with_reducible refine (fix_isTop.calls a0 0 _ _ A1'.out).mono ?_); rintro e w' ⟨rfl, ⟨nd, rfl⟩⟩))
      go_ret
      exact ⟨rfl, by repeat (first | (with_reducible first | exact HB.out | apply below_alloc | apply pw_below_drewN | apply below_drew1) | exact HB.out)⟩
end Go.Proofs.YtaofmmnfenlofaaGreatDoor.QTc
namespace Go.Proofs.YtaofmmnfenlofaaGreatDoor.QTc
open Go.RowKit Go.Proofs.YtaofmmnfenlofaaGreatDoorW.PrintWords Go.Proofs.YtaofmmnfenlofaaGreatDoorW.PrintLast Go.Proofs.YtaofmmnfenlofaaGreatDoorW.PrintMore
attribute [local go_sem] max2_int min2_int max_two min_two max_three min_three max_four min_four
set_option linter.unusedVariables false
set_option linter.unusedSimpArgs false
def num_Is.f (a0 : Int) : Option (Bool) := if a0 ≥ 0 then (some (decide (a0 ≤ 1099511627776))) else (some false)
set_option maxHeartbeats 8000000 in
set_option maxRecDepth 100000 in
theorem num_Is.calls (a0 : Int) (r : Bool) (w : World) (h : num_Is.f a0 = some r) :
  Calls Tryz.prog 168 #[.int .i64 a0] w fun e w' => e = .returned (.bool r) ∧ Drawn0 w w' := by
 have H : (if a0 ≥ 0 then (some (decide (a0 ≤ 1099511627776))) else (some false)) = some r := h
 clear h
 by_cases c2 : a0 ≥ 0
 ·rw [if_pos c2] at H
  have c2b0 : decide (0 ≤ a0) = true := decide_eq_true c2
  clear c2
  obtain rfl := Option.some.inj H
  go_enter Tryz.func168, Tryz.ntmps168
  go_wp2
  go_ret
  exact ⟨by first | rfl | (simp; done) | (simp [*]; done), by repeat (first | exact Drawn0.refl _ | apply Drawn0.step)⟩
 ·rw [if_neg c2] at H
  have c2b0 : decide (0 ≤ a0) = false := decide_eq_false c2
  clear c2
  obtain rfl := Option.some.inj H
  go_enter Tryz.func168, Tryz.ntmps168
  go_wp2
  go_ret
  exact ⟨by first | rfl | (simp; done) | (simp [*]; done), by repeat (first | exact Drawn0.refl _ | apply Drawn0.step)⟩
def num_Floor.f (a0 : Int) (a1 : Int) : Option (Int × Bool) := (num_Is.f a0).bind fun t262 => (if t262 = true then ((num_Is.f a1).bind fun t263 => (if t263 = true then (if a1 = 0 then (some (0, false)) else (some (wrap64 (Int.tdiv a0 a1), true))) else (some (0, false)))) else (some (0, false)))
set_option maxHeartbeats 8000000 in
set_option maxRecDepth 100000 in
theorem num_Floor.calls (a0 : Int) (a1 : Int) (r1 : Int) (r2 : Bool) (w : World) (h : num_Floor.f a0 a1 = some (r1, r2)) :
  Calls Tryz.prog 184 #[.int .i64 a0, .int .i64 a1] w fun e w' => e = .returned (.tuple #[.int .i64 r1, .bool r2]) ∧ Drawn0 w w' := by
 have H : ((num_Is.f a0).bind fun t262 => (if t262 = true then ((num_Is.f a1).bind fun t263 => (if t263 = true then (if a1 = 0 then (some (0, false)) else (some (wrap64 (Int.tdiv a0 a1), true))) else (some (0, false)))) else (some (0, false)))) = some (r1, r2) := h
 clear h
 replace H := Option.bind_eq_some_iff.mp H
 obtain ⟨t262, A30, H⟩ := H
 replace H : (if t262 = true then ((num_Is.f a1).bind fun t263 => (if t263 = true then (if a1 = 0 then (some (0, false)) else (some (wrap64 (Int.tdiv a0 a1), true))) else (some (0, false)))) else (some (0, false))) = some (r1, r2) := H
 have A3 := Aside0.mk A30
 clear A30
 by_cases c4 : t262 = true
 ·subst c4
  have H1 : ((num_Is.f a1).bind fun t263 => (if t263 = true then (if a1 = 0 then (some (0, false)) else (some (wrap64 (Int.tdiv a0 a1), true))) else (some (0, false)))) = some (r1, r2) := by rw [if_pos rfl] at H; exact H
  clear H
  have H := H1
  clear H1
  replace H := Option.bind_eq_some_iff.mp H
  obtain ⟨t263, A50, H⟩ := H
  replace H : (if t263 = true then (if a1 = 0 then (some (0, false)) else (some (wrap64 (Int.tdiv a0 a1), true))) else (some (0, false))) = some (r1, r2) := H
  have A5 := Aside0.mk A50
  clear A50
  by_cases c6 : t263 = true
  ·subst c6
   have H1 : (if a1 = 0 then (some (0, false)) else (some (wrap64 (Int.tdiv a0 a1), true))) = some (r1, r2) := by rw [if_pos rfl] at H; exact H
   clear H
   have H := H1
   clear H1
   by_cases c7 : a1 = 0
   ·rw [if_pos c7] at H
    have c7b0 : (a1 == 0) = true := beq_iff_eq.mpr c7
    have c7b1 : (a1 != 0) = false := bne_eq_false_iff_eq.mpr c7
    clear c7
    simp only [Option.some.injEq, Prod.mk.injEq] at H
    obtain ⟨rfl, rfl⟩ := H
    go_enter Tryz.func184, Tryz.ntmps184
    go_wp2_with (first | ((with_reducible refine gate_callee (f := 168) rfl ?_); refine goesL_ (some 7) rfl rfl Tryz.func168 (by kernel_rfl) rfl #[.int .i64 a0] rfl (by (try simp only [List.map_toArray, List.map_cons, List.map_nil]); first | done | rfl | (simp only [List.length_drop, List.length_take]; rfl)) ?_; (with_reducible refine (num_Is.calls a0 true _ A3.out).mono ?_); rintro e w' ⟨rfl, ⟨nd, rfl⟩⟩; refine ⟨_, rfl, ?_⟩) | (go_at_call 168; (with_reducible refine (num_Is.calls a1 true _ A5.out).mono ?_); rintro e w' ⟨rfl, ⟨nd, rfl⟩⟩))
    go_ret2
    exact ⟨by first | rfl | (simp; done) | (simp [*]; done), by repeat (first | exact Drawn0.refl _ | apply Drawn0.step)⟩
   ·rw [if_neg c7] at H
    have c7b0 : (a1 == 0) = false := beq_eq_false_iff_ne.mpr c7
    have c7b1 : (a1 != 0) = true := bne_iff_ne.mpr c7
    simp only [Option.some.injEq, Prod.mk.injEq] at H
    obtain ⟨rfl, rfl⟩ := H
    go_enter Tryz.func184, Tryz.ntmps184
    go_wp2_with (first | ((with_reducible refine gate_callee (f := 168) rfl ?_); refine goesL_ (some 7) rfl rfl Tryz.func168 (by kernel_rfl) rfl #[.int .i64 a0] rfl (by (try simp only [List.map_toArray, List.map_cons, List.map_nil]); first | done | rfl | (simp only [List.length_drop, List.length_take]; rfl)) ?_; (with_reducible refine (num_Is.calls a0 true _ A3.out).mono ?_); rintro e w' ⟨rfl, ⟨nd, rfl⟩⟩; refine ⟨_, rfl, ?_⟩) | (go_at_call 168; (with_reducible refine (num_Is.calls a1 true _ A5.out).mono ?_); rintro e w' ⟨rfl, ⟨nd, rfl⟩⟩))
    go_ret2
    exact ⟨by first | rfl | (simp; done) | (simp [*]; done), by repeat (first | exact Drawn0.refl _ | apply Drawn0.step)⟩
  ·replace c6 := Bool.eq_false_iff.mpr c6
   subst c6
   have H1 : (some (0, false)) = some (r1, r2) := by rw [if_neg (show ¬ (false = true) by decide)] at H; exact H
   clear H
   have H := H1
   clear H1
   simp only [Option.some.injEq, Prod.mk.injEq] at H
   obtain ⟨rfl, rfl⟩ := H
   go_enter Tryz.func184, Tryz.ntmps184
   go_wp2_with (first | ((with_reducible refine gate_callee (f := 168) rfl ?_); refine goesL_ (some 7) rfl rfl Tryz.func168 (by kernel_rfl) rfl #[.int .i64 a0] rfl (by (try simp only [List.map_toArray, List.map_cons, List.map_nil]); first | done | rfl | (simp only [List.length_drop, List.length_take]; rfl)) ?_; (with_reducible refine (num_Is.calls a0 true _ A3.out).mono ?_); rintro e w' ⟨rfl, ⟨nd, rfl⟩⟩; refine ⟨_, rfl, ?_⟩) | (go_at_call 168; (with_reducible refine (num_Is.calls a1 false _ A5.out).mono ?_); rintro e w' ⟨rfl, ⟨nd, rfl⟩⟩))
   go_ret2
   exact ⟨by first | rfl | (simp; done) | (simp [*]; done), by repeat (first | exact Drawn0.refl _ | apply Drawn0.step)⟩
 ·replace c4 := Bool.eq_false_iff.mpr c4
  subst c4
  have H1 : (some (0, false)) = some (r1, r2) := by rw [if_neg (show ¬ (false = true) by decide)] at H; exact H
  clear H
  have H := H1
  clear H1
  simp only [Option.some.injEq, Prod.mk.injEq] at H
  obtain ⟨rfl, rfl⟩ := H
  go_enter Tryz.func184, Tryz.ntmps184
  go_wp2_with (first | ((with_reducible refine gate_callee (f := 168) rfl ?_); refine goesL_ (some 7) rfl rfl Tryz.func168 (by kernel_rfl) rfl #[.int .i64 a0] rfl (by (try simp only [List.map_toArray, List.map_cons, List.map_nil]); first | done | rfl | (simp only [List.length_drop, List.length_take]; rfl)) ?_; (with_reducible refine (num_Is.calls a0 false _ A3.out).mono ?_); rintro e w' ⟨rfl, ⟨nd, rfl⟩⟩; refine ⟨_, rfl, ?_⟩))
  go_ret2
  exact ⟨by first | rfl | (simp; done) | (simp [*]; done), by repeat (first | exact Drawn0.refl _ | apply Drawn0.step)⟩
def num_Ceil.f (a0 : Int) (a1 : Int) : Option (Int × Bool) := (num_Floor.f a0 a1).bind fun bt264 => (if bt264.2 = true then (if (wrap64 (bt264.1 * a1)) < a0 then (some (wrap64 (bt264.1 + 1), bt264.2)) else (some (bt264.1, bt264.2))) else (some (bt264.1, bt264.2)))
set_option maxHeartbeats 8000000 in
set_option maxRecDepth 100000 in
theorem num_Ceil.calls (a0 : Int) (a1 : Int) (r1 : Int) (r2 : Bool) (w : World) (h : num_Ceil.f a0 a1 = some (r1, r2)) :
  Calls Tryz.prog 167 #[.int .i64 a0, .int .i64 a1] w fun e w' => e = .returned (.tuple #[.int .i64 r1, .bool r2]) ∧ Drawn0 w w' := by
 have H : ((num_Floor.f a0 a1).bind fun bt264 => (if bt264.2 = true then (if (wrap64 (bt264.1 * a1)) < a0 then (some (wrap64 (bt264.1 + 1), bt264.2)) else (some (bt264.1, bt264.2))) else (some (bt264.1, bt264.2)))) = some (r1, r2) := h
 clear h
 replace H := Option.bind_eq_some_iff.mp H
 obtain ⟨⟨t264, t265⟩, A30, H⟩ := H
 replace H : (if t265 = true then (if (wrap64 (t264 * a1)) < a0 then (some (wrap64 (t264 + 1), t265)) else (some (t264, t265))) else (some (t264, t265))) = some (r1, r2) := H
 have A3 := Aside0.mk A30
 clear A30
 by_cases c4 : t265 = true
 ·subst c4
  have H1 : (if (wrap64 (t264 * a1)) < a0 then (some (wrap64 (t264 + 1), true)) else (some (t264, true))) = some (r1, r2) := by rw [if_pos rfl] at H; exact H
  clear H
  have H := H1
  clear H1
  by_cases c5 : (wrap64 (t264 * a1)) < a0
  ·rw [if_pos c5] at H
   have c5b0 : decide ((wrap64 (t264 * a1)) < a0) = true := decide_eq_true c5
   clear c5
   simp only [Option.some.injEq, Prod.mk.injEq] at H
   obtain ⟨rfl, rfl⟩ := H
   go_enter Tryz.func167, Tryz.ntmps167
   go_wp2_with (first | ((with_reducible refine gate_callee (f := 184) rfl ?_); refine goesL_ (some 11) rfl rfl Tryz.func184 (by kernel_rfl) rfl #[.int .i64 a0, .int .i64 a1] rfl (by (try simp only [List.map_toArray, List.map_cons, List.map_nil]); first | done | rfl | (simp only [List.length_drop, List.length_take]; rfl)) ?_; (with_reducible refine (num_Floor.calls a0 a1 t264 true _ A3.out).mono ?_); rintro e w' ⟨rfl, ⟨nd, rfl⟩⟩; refine ⟨_, rfl, ?_⟩))
   go_ret2
   exact ⟨by first | rfl | (simp; done) | (simp [*]; done), by repeat (first | exact Drawn0.refl _ | apply Drawn0.step)⟩
  ·rw [if_neg c5] at H
   have c5b0 : decide ((wrap64 (t264 * a1)) < a0) = false := decide_eq_false c5
   clear c5
   simp only [Option.some.injEq, Prod.mk.injEq] at H
   obtain ⟨rfl, rfl⟩ := H
   go_enter Tryz.func167, Tryz.ntmps167
   go_wp2_with (first | ((with_reducible refine gate_callee (f := 184) rfl ?_); refine goesL_ (some 11) rfl rfl Tryz.func184 (by kernel_rfl) rfl #[.int .i64 a0, .int .i64 a1] rfl (by (try simp only [List.map_toArray, List.map_cons, List.map_nil]); first | done | rfl | (simp only [List.length_drop, List.length_take]; rfl)) ?_; (with_reducible refine (num_Floor.calls a0 a1 t264 true _ A3.out).mono ?_); rintro e w' ⟨rfl, ⟨nd, rfl⟩⟩; refine ⟨_, rfl, ?_⟩))
   go_ret2
   exact ⟨by first | rfl | (simp; done) | (simp [*]; done), by repeat (first | exact Drawn0.refl _ | apply Drawn0.step)⟩
 ·replace c4 := Bool.eq_false_iff.mpr c4
  subst c4
  have H1 : (some (t264, false)) = some (r1, r2) := by rw [if_neg (show ¬ (false = true) by decide)] at H; exact H
  clear H
  have H := H1
  clear H1
  simp only [Option.some.injEq, Prod.mk.injEq] at H
  obtain ⟨rfl, rfl⟩ := H
  go_enter Tryz.func167, Tryz.ntmps167
  go_wp2_with (first | ((with_reducible refine gate_callee (f := 184) rfl ?_); refine goesL_ (some 11) rfl rfl Tryz.func184 (by kernel_rfl) rfl #[.int .i64 a0, .int .i64 a1] rfl (by (try simp only [List.map_toArray, List.map_cons, List.map_nil]); first | done | rfl | (simp only [List.length_drop, List.length_take]; rfl)) ?_; (with_reducible refine (num_Floor.calls a0 a1 t264 false _ A3.out).mono ?_); rintro e w' ⟨rfl, ⟨nd, rfl⟩⟩; refine ⟨_, rfl, ?_⟩))
  go_ret2
  exact ⟨by first | rfl | (simp; done) | (simp [*]; done), by repeat (first | exact Drawn0.refl _ | apply Drawn0.step)⟩
def fix_sum.l0 : Nat → Int → Int → List (S165) → Int → Int → Option (Int)
 | 0, _, _, _, _, _ => none
 | k + 1, x0, x2, x11, x12, x13 => if x13 < x12 then (if 0 ≤ x13 then (if x13 < (x11.length : Int) then ((num_Ceil.f x2 ((rd_T165 x11 x13).f0)).bind fun bt268 => (fix_sum.l0 k (wrap64 (x0 + (wrap64 (((rd_T165 x11 x13).f1) * bt268.1)))) x2 x11 x12 (wrap64 (x13 + 1)))) else (none)) else (none)) else (some x0)
def fix_sum.f (k : Nat) (a0 : Int) (l1 : List (S165)) (a2 : Int) : Option (Int) := fix_sum.l0 k a0 a2 l1 (l1.length : Int) 0
set_option maxHeartbeats 8000000 in
set_option maxRecDepth 100000 in
theorem fix_sum.calls (k : Nat) (a0 : Int) (A1 : Option Addr) (c1 : Nat) (l1 : List (S165)) (a2 : Int) (r : Int) (w : World) (hr1 : Kd.C k165 w A1 l1.length l1) (hc1 : l1.length ≤ c1) (h : fix_sum.f k a0 l1 a2 = some r) :
  Calls Tryz.prog 138 #[.int .i64 a0, .slice A1 l1.length c1, .int .i64 a2] w fun e w' => e = .returned (.int .i64 r) ∧ Below w.heap.size w w' := by
 have hu165 := Tryz.underlying165
 have HR1 := Aside0.mk hr1
 have HC1 := Aside0.mk hc1
 clear hr1 hc1
 have HB := Aside0.mk (Below.refl w.heap.size w)
 have H : (fix_sum.l0 k a0 a2 l1 (l1.length : Int) 0) = some r := h
 clear h
 have H' := Aside0.mk H
 clear H
 go_enter Tryz.func138, Tryz.ntmps138
 go_wp2
 go_loopg [0, 13] k (fun kq v0 v13 w' => ∃ (x0_1 : Int) (x13_1 : Int), v0 = .int .i64 x0_1 ∧ v13 = .int .i64 x13_1 ∧ Aside0 (fix_sum.l0 kq x0_1 a2 l1 (l1.length : Int) x13_1 = some r) ∧ Aside0 (kq ≤ k) ∧ Aside0 (Below w.heap.size w w'))
 case atStart => exact ⟨(a0), (0), (by first | rfl | (simp; done) | (simp [*]; done)), (by first | rfl | (simp; done) | (simp [*]; done)), H', ⟨Nat.le_refl _⟩, ⟨by repeat (first | (with_reducible first | exact HB.out | apply below_alloc | apply pw_below_drewN | apply below_drew1) | exact HB.out)⟩⟩
 case round =>
  clear H'
  try clear c1
  try clear p2
  obtain ⟨x0_1, x13_1, rfl, rfl, HA, HK1, HB⟩ := hrel
  cases gk with
  | zero => exact absurd HA.out (by simp [fix_sum.l0])
  | succ k1 =>
   have H := HA.out
   clear HA
   simp only [fix_sum.l0] at H
   by_cases c4 : x13_1 < (l1.length : Int)
   ·rw [if_pos c4] at H
    have c4b0 : decide (x13_1 < (l1.length : Int)) = true := decide_eq_true c4
    clear c4
    by_cases c5 : 0 ≤ x13_1
    ·rw [if_pos c5] at H
     have c5b0 : decide (0 ≤ x13_1) = true := decide_eq_true c5
     clear c5
     by_cases c6 : x13_1 < (l1.length : Int)
     ·rw [if_pos c6] at H
      have c6b0 : decide (x13_1 < (l1.length : Int)) = true := decide_eq_true c6
      clear c6
      replace H := Option.bind_eq_some_iff.mp H
      obtain ⟨⟨t268, t269⟩, A70, H⟩ := H
      replace H : (fix_sum.l0 k1 (wrap64 (x0_1 + (wrap64 (((rd_T165 l1 x13_1).f1) * t268)))) a2 l1 (l1.length : Int) (wrap64 (x13_1 + 1))) = some r := H
      have A7 := Aside0.mk A70
      clear A70
      have H' := Aside0.mk H
      clear H
      have p266 : 0 ≤ (x13_1 : Int) := of_decide_eq_true (by first | (with_reducible assumption) | assumption)
      have q266 : x13_1 < (l1.length : Int) := of_decide_eq_true (by first | (with_reducible assumption) | assumption)
      obtain ⟨ad266, e266, hx266_0, hx266_1⟩ := at_T165 HR1.out x13_1 p266 q266
      cases e266
      replace hx266_0 := (HB.out.cell (World.block_lt_of_cell? w _ hx266_0)).trans hx266_0
      replace hx266_1 := (HB.out.cell (World.block_lt_of_cell? w _ hx266_1)).trans hx266_1
      replace p266 := eq_true p266
      replace q266 := eq_true q266
      go_wp2_with (first | ((with_reducible refine gate_dst (N := 8) rfl ?_); refine box_event ?hg (N := 8) ?hd (cs := #[.int .i64 0, .int .i64 0]) (t := 165) ?hr ?_; (case hd => rfl); (case hg => rfl); (case hr => first | (go_simp; done) | (go_simp; rfl)); intro gb267 hg w8 hbox hb; have n0_ := Aside0.mk (below_step (by repeat (first | (with_reducible first | exact HB.out | apply below_alloc | apply pw_below_drewN | apply below_drew1) | exact HB.out)) hb); have n1_ := Aside0.mk (hbox); have n2_ := Aside0.mk ((by rw [hg]; exact (below_size (by repeat (first | (with_reducible first | exact HB.out | apply below_alloc | apply pw_below_drewN | apply below_drew1) | exact HB.out))) : w.heap.size ≤ gb267)); have n3_ := Aside0.mk ((by rw [hg]; exact (below_size (by repeat (first | (with_reducible first | exact HB.out | apply below_alloc | apply pw_below_drewN | apply below_drew1) | exact HB.out))) : w.heap.size ≤ gb267)); clear HB; have HB := n0_; have BK267 := n1_; have GW267 := n2_; have GE267 := n3_; clear n0_ n1_ n2_ n3_; clear hb hbox hg; have hcz9_0 : w8.cell? ⟨gb267, 0, none⟩ = some (.int .i64 0) := (blk_cell BK267.out 0).trans rfl; have hcz9_1 : w8.cell? ⟨gb267, 1, none⟩ = some (.int .i64 0) := (blk_cell BK267.out 1).trans rfl; have hfz9_0 := blk_frozen BK267.out 0; have hfz9_1 := blk_frozen BK267.out 1) | ((with_reducible refine gate_callee (f := 167) rfl ?_); refine goesL_ (some 21) rfl rfl Tryz.func167 (by kernel_rfl) rfl #[.int .i64 a2, .int .i64 ((rd_T165 l1 x13_1).f0)] rfl (by (try simp only [List.map_toArray, List.map_cons, List.map_nil]); first | done | rfl | (simp only [List.length_drop, List.length_take]; rfl)) ?_; (with_reducible refine (num_Ceil.calls a2 ((rd_T165 l1 x13_1).f0) t268 t269 _ A7.out).mono ?_); rintro e w' ⟨rfl, ⟨nd, rfl⟩⟩; refine ⟨_, rfl, ?_⟩))
      go_roundg k1
      case measure => have := HK1.out; omega
      case rel => exact ⟨(wrap64 (x0_1 + (wrap64 (((rd_T165 l1 x13_1).f1) * t268)))), (wrap64 (x13_1 + 1)), (by first | rfl | (simp; done) | (simp [*]; done)), (by first | rfl | (simp; done) | (simp [*]; done)), H', ⟨by have := HK1.out; omega⟩, ⟨by repeat (first | (with_reducible first | exact HB.out | apply below_alloc | apply pw_below_drewN | apply below_drew1 | refine below_set ?_ GE267.out) | exact HB.out)⟩⟩
     ·rw [if_neg c6] at H
      exact absurd H (by simp)
    ·rw [if_neg c5] at H
     exact absurd H (by simp)
   ·rw [if_neg c4] at H
    have c4b0 : decide (x13_1 < (l1.length : Int)) = false := decide_eq_false c4
    clear c4
    obtain rfl := Option.some.inj H
    go_wp2
    go_ret
    exact ⟨by first | rfl | (simp [errW_none, errW_some] <;> rfl) | (simp [*, errW_none, errW_some] <;> rfl), by repeat (first | (with_reducible first | exact HB.out | apply below_alloc | apply pw_below_drewN | apply below_drew1) | exact HB.out)⟩
end Go.Proofs.YtaofmmnfenlofaaGreatDoor.QTc
namespace Go.Proofs.YtaofmmnfenlofaaGreatDoor.QTc
open Go.RowKit Go.Proofs.YtaofmmnfenlofaaGreatDoorW.PrintWords Go.Proofs.YtaofmmnfenlofaaGreatDoorW.PrintLast Go.Proofs.YtaofmmnfenlofaaGreatDoorW.PrintMore
set_option linter.unusedVariables false
set_option linter.unusedSimpArgs false
def GoodL (l : List S165) : Prop := l.length ≤ 64 ∧ l.any oddL = false
def leastG (s : Int → Int) : Nat → Int → Int × Bool
  | 0, _ => (0, false)
  | n + 1, v => if s v = v then (v, true) else if s v < v ∨ s v > 1000000 then (0, false) else leastG s n (s v)
set_option maxHeartbeats 4000000 in
theorem least_calls (a0 : Int) (A : Option Addr) (c : Nat) (l : List S165) (w : World) (hr : Kd.C k165 w A l.length l) (hc : l.length ≤ c) (ha : 0 ≤ a0 ∧ a0 ≤ 1000000) (hg : GoodL l) (s : Int → Int) (k : Nat) (hs : ∀ v, 0 ≤ v → v ≤ 1000000 → fix_sum.f k a0 l v = some (s v)) :
    Calls Tryz.prog 105 #[.int .i64 a0, .slice A l.length c] w fun e w' => e = .returned (.tuple #[.int .i64 (leastG s 1000001 1).1, .bool (leastG s 1000001 1).2]) ∧ Below w.heap.size w w' := by
  have HR := Aside0.mk hr
  have HC := Aside0.mk hc
  have HM := Aside0.mk hs
  have HI := Aside0.mk (show fix_is.f a0 l = some true by unfold fix_is.f; rw [hg.2, decide_eq_true ha, decide_eq_true (by have := hg.1; omega)]; rfl)
  obtain ⟨n0, hn0⟩ : ∃ n0, n0 = 1000001 := ⟨_, rfl⟩
  obtain ⟨r, hr0⟩ : ∃ r, leastG s n0 1 = r := ⟨_, rfl⟩
  rw [← hn0, hr0]
  have HN0 := Aside0.mk hn0
  have HG0 := Aside0.mk hr0
  clear hr hc hs hg hn0 hr0 ha
  go_enter Tryz.func105, Tryz.ntmps105
  go_wp2
  refine wp_scope_again 0 (fun a' w' => Below w.heap.size w w' ∧ ∃ (v : Int) (n : Nat) (u7 u8 u9 u10 u11 u12 u13 u14 u15 u16 u17 u18 u19 u20 u21 u22 u23 u24 u25 u26 u27 : Value), a' = { tmps := #[.int .i64 a0, .slice A l.length c, undef, undef, .int .i64 0, .bool false, .int .i64 v, u7, u8, u9, u10, u11, u12, u13, u14, u15, u16, u17, u18, u19, u20, u21, u22, u23, u24, u25, u26, u27], defers := [] } ∧ Aside0 (1 ≤ v ∧ v ≤ 1000000) ∧ Aside0 (1000000 - v < n) ∧ Aside0 (leastG s n v = r)) (fun a' _ => (1000001 - intOf (a'.tmps.getD 6 undef)).toNat) rfl ?_ ?_
  · rintro a' w' ⟨hb, v, n, u7, u8, u9, u10, u11, u12, u13, u14, u15, u16, u17, u18, u19, u20, u21, u22, u23, u24, u25, u26, u27, rfl, HV, HV2, HG⟩
    have HB := Aside0.mk hb
    clear hb
    obtain ⟨n, rfl⟩ : ∃ m, n = m + 1 := ⟨n - 1, by have := HV.out; have := HV2.out; omega⟩
    have HS := Aside0.mk (HM.out v (by have := HV.out; omega) HV.out.2)
    have hG := HG.out
    unfold leastG at hG
    generalize s v = x at HS hG
    by_cases c1 : x = v
    · have q1 : (x == v) = true := by simp [c1]
      rw [if_pos c1] at hG
      subst hG
      clear c1
      go_wp2_with (first | (go_at_call 138; (with_reducible refine (fix_sum.calls k a0 A c l v x _ (Kd.C_below HR.out HB.out) HC.out HS.out).mono ?_); rintro e w2 ⟨rfl, hb⟩; have HB2 := Aside0.mk (HB.out.trans (hb.mono HB.out.size)); clear hb))
      (try simp only [Exit.jump])
      go_ret2
      exact ⟨by first | rfl | (simp; done), HB2.out⟩
    · have q1 : (x == v) = false := by simpa using c1
      rw [if_neg c1] at hG
      by_cases c2 : x < v ∨ x > 1000000
      · rw [if_pos c2] at hG
        subst hG
        by_cases c3 : x < v
        · have q2 : decide (x < v) = true := decide_eq_true c3
          clear c1 c2 c3
          go_wp2_with (first | (go_at_call 138; (with_reducible refine (fix_sum.calls k a0 A c l v x _ (Kd.C_below HR.out HB.out) HC.out HS.out).mono ?_); rintro e w2 ⟨rfl, hb⟩; have HB2 := Aside0.mk (HB.out.trans (hb.mono HB.out.size)); clear hb))
          (try simp only [Exit.jump])
          go_ret2
          exact ⟨by first | rfl | (simp; done), HB2.out⟩
        · have q2 : decide (x < v) = false := decide_eq_false c3
          have q3 : decide (1000000 < x) = true := decide_eq_true (by omega)
          clear c1 c2 c3
          go_wp2_with (first | (go_at_call 138; (with_reducible refine (fix_sum.calls k a0 A c l v x _ (Kd.C_below HR.out HB.out) HC.out HS.out).mono ?_); rintro e w2 ⟨rfl, hb⟩; have HB2 := Aside0.mk (HB.out.trans (hb.mono HB.out.size)); clear hb))
          (try simp only [Exit.jump])
          go_ret2
          exact ⟨by first | rfl | (simp; done), HB2.out⟩
      · rw [if_neg c2] at hG
        have q2 : decide (x < v) = false := decide_eq_false (by omega)
        have q3 : decide (1000000 < x) = false := decide_eq_false (by omega)
        have HN := Aside0.mk (show v < x ∧ x ≤ 1000000 by omega)
        replace hG := Aside0.mk hG
        clear c1 c2
        go_wp2_with (first | (go_at_call 138; (with_reducible refine (fix_sum.calls k a0 A c l v x _ (Kd.C_below HR.out HB.out) HC.out HS.out).mono ?_); rintro e w2 ⟨rfl, hb⟩; have HB2 := Aside0.mk (HB.out.trans (hb.mono HB.out.size)); clear hb))
        go_step3
        exact ⟨rfl, ⟨HB2.out, x, n, _, _, _, _, _, _, _, _, _, _, _, _, _, _, _, _, _, _, _, _, _, rfl, ⟨by have := HN.out; have := HV.out; omega⟩, ⟨by have := HV.out; have := HV2.out; have := HN.out; omega⟩, hG⟩, by have := HN.out; have := HV.out; simp [intOf]; omega⟩
  · intro Hagain
    go_wp2_with (first | (go_at_call 137; (with_reducible refine (fix_is.calls a0 A c l true _ HR.out HC.out HI.out).mono ?_); rintro e w' ⟨rfl, hb⟩; have HB := Aside0.mk hb; clear hb))
    go_step3
    refine (by assumption : ∀ (a : Act) (w : World), Code.wp _ _ _ a w → _) _ _ ?_
    exact Hagain.out _ _ ⟨HB.out, 1, n0, _, _, _, _, _, _, _, _, _, _, _, _, _, _, _, _, _, _, _, _, _, rfl, ⟨by omega⟩, ⟨by have := HN0.out; omega⟩, HG0⟩
theorem is_true {a0 : Int} {l : List S165} (h : 0 ≤ a0 ∧ a0 ≤ 1000000) (hg : GoodL l) : fix_is.f a0 l = some true := by
  unfold fix_is.f; rw [hg.2, decide_eq_true h, decide_eq_true (by have := hg.1; omega)]; rfl
theorem sum_calls (a0 : Int) (A : Option Addr) (c : Nat) (l : List S165) (v x : Int) (k : Nat) (w : World) (hr : Kd.C k165 w A l.length l) (hc : l.length ≤ c) (ha : 0 ≤ a0 ∧ a0 ≤ 1000000) (hg : GoodL l) (hv : 0 ≤ v ∧ v ≤ 1000000) (hs : fix_sum.f k a0 l v = some x) :
    Calls Tryz.prog 108 #[.int .i64 a0, .slice A l.length c, .int .i64 v] w fun e w' => e = .returned (.tuple #[.int .i64 x, .bool true]) ∧ Below w.heap.size w w' := by
  have HR := Aside0.mk hr
  have HC := Aside0.mk hc
  have HS := Aside0.mk hs
  have HI := Aside0.mk (is_true ha hg)
  have HT := Aside0.mk (show fix_isTop.f v 0 = some true by rw [isTop_eq, decide_eq_true hv])
  clear hr hc hs ha hg hv
  go_enter Tryz.func108, Tryz.ntmps108
  go_wp2_with (first | (go_at_call 137; (with_reducible refine (fix_is.calls a0 A c l true _ HR.out HC.out HI.out).mono ?_); rintro e w1 ⟨rfl, hb⟩; have HB := Aside0.mk hb; clear hb) | (go_at_call 143; (with_reducible refine (fix_isTop.calls v 0 true _ HT.out).mono ?_); rintro e w2 ⟨rfl, ⟨nd, rfl⟩⟩; have HB2 := Aside0.mk (pw_below_drewN HB.out nd)) | (go_at_call 138; (with_reducible refine (fix_sum.calls k a0 A c l v x _ (Kd.C_below HR.out HB2.out) HC.out HS.out).mono ?_); rintro e w3 ⟨rfl, hb⟩; have HB3 := Aside0.mk (HB2.out.trans (hb.mono HB2.out.size)); clear hb))
  go_ret2
  exact ⟨by first | rfl | (simp; done), HB3.out⟩
def doneG (s : Int → Int) : Nat → Int → Int
  | 0, v => v
  | n + 1, v => if s v ≤ v then v else doneG s n (s v)
set_option maxHeartbeats 4000000 in
theorem done_calls (a0 : Int) (A : Option Addr) (c : Nat) (l : List S165) (w : World) (hr : Kd.C k165 w A l.length l) (hc : l.length ≤ c) (ha : 0 ≤ a0 ∧ a0 ≤ 1000000) (hg : GoodL l) (s : Int → Int) (k : Nat) (hs : ∀ v, 0 ≤ v → v ≤ 1000000 → fix_sum.f k a0 l v = some (s v))
    (M : Int) (hM : M ≤ 1000000) (hm : ∀ v, 0 ≤ v → v ≤ M → s v ≤ M) (v0 : Int) (h0 : 0 ≤ v0) (h1 : v0 ≤ M) (n0 : Nat) (hn : M - v0 < n0) :
    Calls Tryz.prog 67 #[.int .i64 a0, .slice A l.length c, .int .i64 v0] w fun e w' => e = .returned (.int .i64 (doneG s n0 v0)) ∧ Below w.heap.size w w' := by
  have HR := Aside0.mk hr
  have HC := Aside0.mk hc
  have HM := Aside0.mk hs
  have HG := Aside0.mk hg
  have HA := Aside0.mk ha
  have HMM := Aside0.mk hm
  obtain ⟨r, hr0⟩ : ∃ r, doneG s n0 v0 = r := ⟨_, rfl⟩
  rw [hr0]
  have HG0 := Aside0.mk hr0
  have HV0 := Aside0.mk (show 0 ≤ v0 ∧ v0 ≤ M ∧ M ≤ 1000000 ∧ M - v0 < n0 from ⟨h0, h1, hM, hn⟩)
  clear hr hc hs hg ha hm hr0 h0 h1 hn hM
  go_enter Tryz.func67, Tryz.ntmps67
  go_wp2
  go_loopg [2] n0 (fun kq v2 w' => ∃ v : Int, v2 = .int .i64 v ∧ Aside0 (0 ≤ v ∧ v ≤ M ∧ M ≤ 1000000 ∧ M - v < kq) ∧ Aside0 (doneG s kq v = r) ∧ Below w.heap.size w w')
  case atStart => exact ⟨v0, rfl, HV0, HG0, Below.refl _ _⟩
  case round =>
    obtain ⟨v, rfl, HV, HD, hb⟩ := hrel
    have HB := Aside0.mk hb
    clear hb
    obtain ⟨n, rfl⟩ : ∃ m, gk = m + 1 := ⟨gk - 1, by have := HV.out; omega⟩
    have HS := Aside0.mk (HM.out v HV.out.1 (by have := HV.out; omega))
    have hx := HMM.out v HV.out.1 HV.out.2.1
    have hG := HD.out
    unfold doneG at hG
    generalize s v = x at HS hG hx
    have HX := Aside0.mk hx
    by_cases c1 : x ≤ v
    · have q1 : decide (x ≤ v) = true := decide_eq_true c1
      rw [if_pos c1] at hG
      subst hG
      clear c1 hx
      go_wp2_with (first | (go_at_call 108; (with_reducible refine (sum_calls a0 A c l v x k _ (Kd.C_below HR.out HB.out) HC.out HA.out HG.out ?sV HS.out).mono ?_); (case sV => have := HV.out; omega); rintro e w2 ⟨rfl, hb⟩; have HB2 := Aside0.mk (HB.out.trans (hb.mono HB.out.size)); clear hb))
      go_ret
      exact ⟨by first | rfl | (simp; done), HB2.out⟩
    · have q1 : decide (x ≤ v) = false := decide_eq_false c1
      rw [if_neg c1] at hG
      have HN := Aside0.mk (show v < x by omega)
      replace hG := Aside0.mk hG
      clear c1 hx
      go_wp2_with (first | (go_at_call 108; (with_reducible refine (sum_calls a0 A c l v x k _ (Kd.C_below HR.out HB.out) HC.out HA.out HG.out ?sV HS.out).mono ?_); (case sV => have := HV.out; omega); rintro e w2 ⟨rfl, hb⟩; have HB2 := Aside0.mk (HB.out.trans (hb.mono HB.out.size)); clear hb))
      go_roundg n
      case measure => exact Nat.lt_succ_self _
      case rel => exact ⟨x, rfl, ⟨by have := HV.out; have := HN.out; have := HX.out; omega⟩, hG, HB2.out⟩
end Go.Proofs.YtaofmmnfenlofaaGreatDoor.QTc
namespace Go.Proofs.YtaofmmnfenlofaaGreatDoor.QTc
open Go.RowKit Go.Proofs.YtaofmmnfenlofaaGreatDoorW.PrintWords Go.Proofs.YtaofmmnfenlofaaGreatDoorW.PrintLast Go.Proofs.YtaofmmnfenlofaaGreatDoorW.PrintMore
set_option linter.unusedVariables false
set_option linter.unusedSimpArgs false
attribute [local go_sem] max2_int min2_int max_two min_two
theorem info165 : (Tryz.prog.info? 165).map (fun i => (i.zero, i.size, i.bytes)) = some (some (.agg #[.int .i64 0, .int .i64 0]), 2, 16) := by kernel_rfl
def Gives (w : World) (v : Value) (e : Ending) (w' : World) : Prop := e = .returned v ∧ Below w.heap.size w w'
set_option maxHeartbeats 16000000 in
set_option maxRecDepth 100000 in
theorem activeOf_calls (w : World) (rl : Int) (A : Option Addr) (c : Nat) (T : List S46) (i : Nat) (b : Int) (L : List S165) (wk x : Int) (ok : Bool) (hC : Kd.C k46 w A T.length T) (hc : T.length ≤ c) (hi : i < T.length) (hL : L.length ≤ 1000)
    (hlo : ∀ W, Below w.heap.size w W → Calls Tryz.prog 66 #[.agg #[.int .i64 rl, .slice A T.length c], .int .i64 (i : Int)] W fun e w' => ∃ v, e = .returned v ∧ Kd.R k165 165 w' W.heap.size (fun _ => True) v L ∧ Below W.heap.size W w')
    (k : Nat) (hwk : task_Work.f k (rd_T46 T (i : Int)).f0 (rd_T46 T (i : Int)).f1 (rd_T46 T (i : Int)).f2 (rd_T46 T (i : Int)).f3 (rd_T46 T (i : Int)).f4 (rd_T46 T (i : Int)).f5 (rd_T46 T (i : Int)).f6 (rd_T46 T (i : Int)).f7 (rd_T46 T (i : Int)).f8 = some wk)
    (hle : ∀ W A1 c1, Kd.C k165 W A1 (L.length + 1) (L ++ [⟨(rd_T46 T (i : Int)).f1, wk⟩]) → L.length + 1 ≤ c1 → Calls Tryz.prog 105 #[.int .i64 b, .slice A1 (L.length + 1) c1] W (Gives W (.tuple #[.int .i64 x, .bool ok]))) :
    Calls Tryz.prog 65 #[.agg #[.int .i64 rl, .slice A T.length c], .int .i64 (i : Int), .int .i64 b] w (Gives w (.tuple #[.int .i64 x, .bool ok])) := by
  have hu24 := Tryz.underlying24
  have hu46 := Tryz.underlying46
  have i0 : 0 ≤ (i : Int) := by omega
  have i1 : (i : Int) < (T.length : Int) := by omega
  have j1 : decide ((i : Int) < 0) = false := decide_eq_false (by omega)
  have j2 : decide ((T.length : Int) ≤ (i : Int)) = false := decide_eq_false (by omega)
  have hb0 : Below w.heap.size w (w.alloc (.cells #[.int .i64 rl, .slice A T.length c] 24)) := Below.alloc (Below.refl _ _) (Nat.le_refl _) _
  have HLO := Aside0.mk hlo
  have HLE := Aside0.mk hle
  obtain ⟨ad, A6, c6, rfl, d0, d1, d2, d3, d4, d5, d6, d7, d8, hl6, hC6⟩ := at_T46 hC (i : Int) i0 i1
  have HW := Aside0.mk hwk
  generalize rd_T46 T (i : Int) = t at d0 d1 d2 d3 d4 d5 d6 d7 d8 hl6 hC6 HW HLE
  obtain ⟨t0, t1, t2, t3, t4, t5, t6, t7, t8⟩ := t
  dsimp only at d0 d1 d2 d3 d4 d5 d6 d7 d8 hl6 hC6 HW HLE
  have HC6 := Aside0.mk (show Kd.C (Kd.int .i64) w A6 t6.length t6 ∧ t6.length ≤ c6 from ⟨hC6, hl6⟩)
  have HL := Aside0.mk hL
  rw [Int.toNat_natCast] at d0 d1 d2 d3 d4 d5 d6 d7 d8
  replace hb0 := Aside0.mk hb0
  clear hwk hlo hle hC hC6 hl6 hL
  go_enter Tryz.func65, Tryz.ntmps65
  go_upto_region 3 with fail
  have cb0 : (w.alloc (.cells #[.int .i64 rl, .slice (some ad) T.length c] 24)).cell? ⟨w.heap.size, 0, none⟩ = some (.int .i64 rl) := (blk_cell (heap_alloc_new w _) 0).trans rfl
  have cb1 : (w.alloc (.cells #[.int .i64 rl, .slice (some ad) T.length c] 24)).cell? ⟨w.heap.size, 1, none⟩ = some (.slice (some ad) T.length c) := (blk_cell (heap_alloc_new w _) 1).trans rfl
  generalize hbx : w.heap.size = bx at cb0 cb1 ⊢
  generalize (w.alloc (.cells #[.int .i64 rl, .slice (some ad) T.length c] 24)) = W0 at hb0 cb0 cb1 ⊢
  replace d0 := pw_cell_below hb0.out d0
  replace d1 := pw_cell_below hb0.out d1
  replace d2 := pw_cell_below hb0.out d2
  replace d3 := pw_cell_below hb0.out d3
  replace d4 := pw_cell_below hb0.out d4
  replace d5 := pw_cell_below hb0.out d5
  replace d6 := pw_cell_below hb0.out d6
  replace d7 := pw_cell_below hb0.out d7
  replace d8 := pw_cell_below hb0.out d8
  have HS : Aside0 (∀ W, Below W0.heap.size W0 W → W.cell? ⟨bx, 0, none⟩ = some (.int .i64 rl) ∧ W.cell? ⟨bx, 1, none⟩ = some (.slice (some ad) T.length c) ∧ W.cell? (ad.add (i * 9)) = some (.string t0) ∧ W.cell? ⟨(ad.add (i * 9)).block, (ad.add (i * 9)).off + 1, none⟩ = some (.int .i64 t1) ∧ W.cell? ⟨(ad.add (i * 9)).block, (ad.add (i * 9)).off + 2, none⟩ = some (.int .i64 t2) ∧ W.cell? ⟨(ad.add (i * 9)).block, (ad.add (i * 9)).off + 3, none⟩ = some (.int .i64 t3) ∧ W.cell? ⟨(ad.add (i * 9)).block, (ad.add (i * 9)).off + 4, none⟩ = some (.int .i64 t4) ∧ W.cell? ⟨(ad.add (i * 9)).block, (ad.add (i * 9)).off + 5, none⟩ = some (.int .i64 t5) ∧ W.cell? ⟨(ad.add (i * 9)).block, (ad.add (i * 9)).off + 6, none⟩ = some (.slice A6 t6.length c6) ∧ W.cell? ⟨(ad.add (i * 9)).block, (ad.add (i * 9)).off + 7, none⟩ = some (.int .u64 t7) ∧ W.cell? ⟨(ad.add (i * 9)).block, (ad.add (i * 9)).off + 8, none⟩ = some (.int .u64 t8)) := ⟨fun W h => ⟨pw_cell_below h cb0, pw_cell_below h cb1, pw_cell_below h d0, pw_cell_below h d1, pw_cell_below h d2, pw_cell_below h d3, pw_cell_below h d4, pw_cell_below h d5, pw_cell_below h d6, pw_cell_below h d7, pw_cell_below h d8⟩⟩
  have HB : Aside0 (Below W0.heap.size W0 W0) := ⟨Below.refl _ _⟩
  go_region_held3 (fun W => W.cell? ⟨bx, 0, none⟩ = some (.int .i64 rl) ∧ W.cell? ⟨bx, 1, none⟩ = some (.slice (some ad) T.length c) ∧ W.cell? (ad.add (i * 9)) = some (.string t0) ∧ W.cell? ⟨(ad.add (i * 9)).block, (ad.add (i * 9)).off + 1, none⟩ = some (.int .i64 t1) ∧ W.cell? ⟨(ad.add (i * 9)).block, (ad.add (i * 9)).off + 2, none⟩ = some (.int .i64 t2) ∧ W.cell? ⟨(ad.add (i * 9)).block, (ad.add (i * 9)).off + 3, none⟩ = some (.int .i64 t3) ∧ W.cell? ⟨(ad.add (i * 9)).block, (ad.add (i * 9)).off + 4, none⟩ = some (.int .i64 t4) ∧ W.cell? ⟨(ad.add (i * 9)).block, (ad.add (i * 9)).off + 5, none⟩ = some (.int .i64 t5) ∧ W.cell? ⟨(ad.add (i * 9)).block, (ad.add (i * 9)).off + 6, none⟩ = some (.slice A6 t6.length c6) ∧ W.cell? ⟨(ad.add (i * 9)).block, (ad.add (i * 9)).off + 7, none⟩ = some (.int .u64 t7) ∧ W.cell? ⟨(ad.add (i * 9)).block, (ad.add (i * 9)).off + 8, none⟩ = some (.int .u64 t8)) (exact HS.out _ (by first | exact HB.out | exact below_drew1 HB.out | exact below_alloc HB.out _))
    ((first | (refine Kd.R_append_step k165 (w0 := W0) W0.heap.size (by rfl) _ _ 111 165 (.agg #[.int .i64 0, .int .i64 0]) 16 (by rfl) Tryz.underlying111 info165 rfl (by decide) (by omega) (.slice A5 L.length c5) L ⟨t1, wk⟩ [.int .i64 t1, .int .i64 wk] (fun _ => True) (fun _ => False) (by rfl) (by rfl) (k165_mkM _ _ _ _) (fun _ hk => hk.elim) (fun _ _ => trivial) HR.out HB.out HB.out.size (by have := HL.out; omega) ?_; intro v7 w7 hR7 hB7 hg7 hat7; obtain ⟨A7, c7, e7⟩ := Kd.R_slice hR7; rw [List.length_append] at e7; subst e7; have HC7 := Aside0.mk (show Kd.C k165 w7 A7 (L.length + 1) (L ++ [⟨t1, wk⟩]) ∧ L.length + 1 ≤ c7 by (have h := Kd.R_reads' hR7; rw [List.length_append] at h; exact ⟨h.2.2, h.2.1⟩)); clear HB; have HB := Aside0.mk hB7; clear hR7 hB7 hg7 hat7) | (go_at_call 105; (with_reducible refine (HLE.out _ A7 c7 HC7.out.1 HC7.out.2).mono ?_); rintro e w8 ⟨rfl, hb8⟩; have HB8 := Aside0.mk (HB.out.trans (hb8.mono HB.out.size)); clear hb8 HB; have HB := HB8; clear HB8) | (go_at_call 66; (with_reducible refine (HLO.out _ ?sB).mono ?_); (case sB => first | exact below_drew1 (hb0.out.trans (HB.out.mono hb0.out.size)) | exact hb0.out.trans (HB.out.mono hb0.out.size)); rintro e w5 ⟨v5, rfl, hR5, hb5⟩; obtain ⟨A5, c5, rfl⟩ := Kd.R_slice hR5; have HB5 := Aside0.mk (show Below W0.heap.size W0 w5 by first | exact HB.out.trans (hb5.mono HB.out.size) | exact (below_drew1 HB.out).trans (hb5.mono HB.out.size)); have HR := Aside0.mk (Kd.R_lower hR5 (by first | exact HB.out.size)); clear hR5 hb5 HB; have HB := HB5; clear HB5) | (go_at_call 59; (with_reducible refine (task_Work.calls k t0 t1 t2 t3 t4 t5 A6 c6 t6 t7 t8 wk _ ?sC HC6.out.2 HW.out).mono ?_); (case sC => exact Kd.C_below HC6.out.1 (by first | exact below_drew1 (hb0.out.trans (HB.out.mono hb0.out.size)) | exact hb0.out.trans (HB.out.mono hb0.out.size))); rintro e w6 ⟨rfl, hb6⟩; have HB6 := Aside0.mk (show Below W0.heap.size W0 w6 by first | exact HB.out.trans (hb6.mono HB.out.size) | exact (below_drew1 HB.out).trans (hb6.mono HB.out.size)); (try (have HR6 := Aside0.mk (Kd.R_below HR.out hb6); clear HR; have HR := HR6; clear HR6)); clear hb6 HB; have HB := HB6; clear HB6)))
  all_goals
    go_wp2
    go_ret2
    exact ⟨by first | rfl | (simp; done), hb0.out.trans (HB.out.mono hb0.out.size)⟩
theorem row9_set {W : World} {g t : Nat} {a0 a1 a2 a3 a4 a5 a6 a7 a8 : Value} (h : W.heap[g]? = some (.cells #[a0, a1, a2, a3, a4, a5, a6, a7, a8] t (0, 0))) (v0 v1 v2 v3 v4 v5 v6 v7 v8 : Value) : (((((((((W.setCell ⟨g, 0, none⟩ v0).setCell ⟨g, 1, none⟩ v1).setCell ⟨g, 2, none⟩ v2).setCell ⟨g, 3, none⟩ v3).setCell ⟨g, 4, none⟩ v4).setCell ⟨g, 5, none⟩ v5).setCell ⟨g, 6, none⟩ v6).setCell ⟨g, 7, none⟩ v7).setCell ⟨g, 8, none⟩ v8).heap[g]? = some (.cells #[v0, v1, v2, v3, v4, v5, v6, v7, v8] t (0, 0)) := by
  have := blk_set (blk_set (blk_set (blk_set (blk_set (blk_set (blk_set (blk_set (blk_set h 0 v0) 1 v1) 2 v2) 3 v3) 4 v4) 5 v5) 6 v6) 7 v7) 8 v8
  simpa using this
theorem below_set9 {w W : World} {g : Nat} (hb : Below w.heap.size w W) (hg : w.heap.size ≤ g) (v0 v1 v2 v3 v4 v5 v6 v7 v8 : Value) : Below w.heap.size w (((((((((W.setCell ⟨g, 0, none⟩ v0).setCell ⟨g, 1, none⟩ v1).setCell ⟨g, 2, none⟩ v2).setCell ⟨g, 3, none⟩ v3).setCell ⟨g, 4, none⟩ v4).setCell ⟨g, 5, none⟩ v5).setCell ⟨g, 6, none⟩ v6).setCell ⟨g, 7, none⟩ v7).setCell ⟨g, 8, none⟩ v8) :=
  Below.setCell (Below.setCell (Below.setCell (Below.setCell (Below.setCell (Below.setCell (Below.setCell (Below.setCell (Below.setCell hb hg _) hg _) hg _) hg _) hg _) hg _) hg _) hg _) hg _
theorem R_set9 {α : Type} {d : Kd α} {e base : Nat} {ok : Nat → Prop} {v : Value} {xs : List α} {W : World} {g t : Nat} {a0 a1 a2 a3 a4 a5 a6 a7 a8 : Value} (h : Kd.R d e W base ok v xs) (hb : W.heap[g]? = some (.cells #[a0, a1, a2, a3, a4, a5, a6, a7, a8] t (0, 0))) (ht : ∀ q, q ∈ e :: d.E → q ≠ t) (v0 v1 v2 v3 v4 v5 v6 v7 v8 : Value) : Kd.R d e (((((((((W.setCell ⟨g, 0, none⟩ v0).setCell ⟨g, 1, none⟩ v1).setCell ⟨g, 2, none⟩ v2).setCell ⟨g, 3, none⟩ v3).setCell ⟨g, 4, none⟩ v4).setCell ⟨g, 5, none⟩ v5).setCell ⟨g, 6, none⟩ v6).setCell ⟨g, 7, none⟩ v7).setCell ⟨g, 8, none⟩ v8) base ok v xs := by
  have b0 := blk_set hb 0 v0; have b1 := blk_set b0 1 v1; have b2 := blk_set b1 2 v2; have b3 := blk_set b2 3 v3; have b4 := blk_set b3 4 v4; have b5 := blk_set b4 5 v5; have b6 := blk_set b5 6 v6; have b7 := blk_set b6 7 v7
  exact Kd.R_set (Kd.R_set (Kd.R_set (Kd.R_set (Kd.R_set (Kd.R_set (Kd.R_set (Kd.R_set (Kd.R_set h hb ht 0 v0) b0 ht 1 v1) b1 ht 2 v2) b2 ht 3 v3) b3 ht 4 v4) b4 ht 5 v5) b5 ht 6 v6) b6 ht 7 v7) b7 ht 8 v8
theorem wrap64_id {n : Int} (h0 : -9223372036854775808 ≤ n) (h1 : n ≤ 9223372036854775807) : wrap64 n = n := by unfold wrap64; omega
theorem mulB {a b A B : Int} (a0 : 0 ≤ a) (a1 : a ≤ A) (b0 : 0 ≤ b) (b1 : b ≤ B) : 0 ≤ a * b ∧ a * b ≤ A * B :=
  ⟨Int.mul_nonneg a0 b0, Int.mul_le_mul a1 b1 b0 (Int.le_trans a0 a1)⟩
def withG (F : Int → Int → Int) (T long : Int) : Nat → Int → Int → Int → Int
  | 0, q, f, r => r
  | n + 1, q, f, r => if q * T < long then withG F T long n (q + 1) (F q f) (mx r (F q f - q * T)) else r
set_option maxHeartbeats 16000000 in
set_option maxRecDepth 100000 in
theorem with_calls (w : World) (rl : Int) (A : Option Addr) (c : Nat) (T : List S46) (i : Nat) (b : Int) (L : List S165) (wk long : Int) (hC : Kd.C k46 w A T.length T) (hc : T.length ≤ c) (hi : i < T.length)
    (hlo : ∀ W, Below w.heap.size w W → Calls Tryz.prog 66 #[.agg #[.int .i64 rl, .slice A T.length c], .int .i64 (i : Int)] W fun e w' => ∃ v, e = .returned v ∧ Kd.R k165 165 w' W.heap.size (fun _ => True) v L ∧ Below W.heap.size W w')
    (k : Nat) (hwk : task_Work.f k (rd_T46 T (i : Int)).f0 (rd_T46 T (i : Int)).f1 (rd_T46 T (i : Int)).f2 (rd_T46 T (i : Int)).f3 (rd_T46 T (i : Int)).f4 (rd_T46 T (i : Int)).f5 (rd_T46 T (i : Int)).f6 (rd_T46 T (i : Int)).f7 (rd_T46 T (i : Int)).f8 = some wk)
    (hof : ∀ W, Below w.heap.size w W → Calls Tryz.prog 65 #[.agg #[.int .i64 rl, .slice A T.length c], .int .i64 (i : Int), .int .i64 b] W (Gives W (.tuple #[.int .i64 long, .bool true])))
    (hlong : long ≤ 1000000) (hT : 1 ≤ (rd_T46 T (i : Int)).f1 ∧ (rd_T46 T (i : Int)).f1 ≤ 10000) (hw : 0 ≤ wk ∧ wk ≤ 1000000) (hb : 0 ≤ b ∧ b ≤ 1000000) (F : Int → Int → Int)
    (hF : ∀ q f, 0 ≤ q → q * (rd_T46 T (i : Int)).f1 < long → 0 ≤ f → f ≤ 1000000 → 0 ≤ F q f ∧ F q f ≤ 1000000 ∧ ∀ W A1 c1, Kd.C k165 W A1 L.length L → L.length ≤ c1 → Calls Tryz.prog 67 #[.int .i64 (b + (q + 1) * wk), .slice A1 L.length c1, .int .i64 f] W (Gives W (.int .i64 (F q f))))
    (n0 : Nat) (hn : long < n0) :
    Calls Tryz.prog 35 #[.agg #[.int .i64 rl, .slice A T.length c], .int .i64 (i : Int), .int .i64 b] w (Gives w (.tuple #[.int .i64 (withG F (rd_T46 T (i : Int)).f1 long n0 0 1 0), .int .i64 (if withG F (rd_T46 T (i : Int)).f1 long n0 0 1 0 ≤ (rd_T46 T (i : Int)).f2 then 1 else 2)])) := by
  have hu24 := Tryz.underlying24
  have hu46 := Tryz.underlying46
  have i0 : 0 ≤ (i : Int) := by omega
  have i1 : (i : Int) < (T.length : Int) := by omega
  have hb0 : Below w.heap.size w (w.alloc (.cells #[.int .i64 rl, .slice A T.length c] 24)) := Below.alloc (Below.refl _ _) (Nat.le_refl _) _
  have HLO := Aside0.mk hlo
  have HOF := Aside0.mk hof
  have HF := Aside0.mk hF
  obtain ⟨ad, A6, c6, rfl, d0, d1, d2, d3, d4, d5, d6, d7, d8, hl6, hC6⟩ := at_T46 hC (i : Int) i0 i1
  have HW := Aside0.mk hwk
  have HT := Aside0.mk hT
  generalize rd_T46 T (i : Int) = t at d0 d1 d2 d3 d4 d5 d6 d7 d8 hl6 hC6 HW HF HT ⊢
  obtain ⟨t0, t1, t2, t3, t4, t5, t6, t7, t8⟩ := t
  dsimp only at d0 d1 d2 d3 d4 d5 d6 d7 d8 hl6 hC6 HW HF HT ⊢
  have HC6 := Aside0.mk (show Kd.C (Kd.int .i64) w A6 t6.length t6 ∧ t6.length ≤ c6 from ⟨hC6, hl6⟩)
  have HLW := Aside0.mk (And.intro hlong (And.intro hw hb))
  have HN := Aside0.mk hn
  obtain ⟨r, hr0⟩ : ∃ r, withG F t1 long n0 0 1 0 = r := ⟨_, rfl⟩
  rw [hr0]
  have HR0 := Aside0.mk hr0
  obtain ⟨how, hh⟩ : ∃ how, (if r ≤ t2 then (1 : Int) else 2) = how := ⟨_, rfl⟩
  rw [hh]
  have HHow := Aside0.mk hh
  clear hh
  rw [Int.toNat_natCast] at d0 d1 d2 d3 d4 d5 d6 d7 d8
  replace hb0 := Aside0.mk hb0
  clear hwk hlo hof hC hC6 hl6 hF hT hlong hw hb hn hr0
  go_enter Tryz.func35, Tryz.ntmps35
  go_upto_region 4 with (go_at_call 65; (with_reducible refine (HOF.out _ hb0.out).mono ?_); rintro e w1 ⟨rfl, hb1⟩; have HB1 := Aside0.mk (hb0.out.trans (hb1.mono hb0.out.size)); have cb0 : w1.cell? ⟨w.heap.size, 0, none⟩ = some (.int .i64 rl) := pw_cell_below hb1 ((blk_cell (heap_alloc_new w _) 0).trans rfl); have cb1 : w1.cell? ⟨w.heap.size, 1, none⟩ = some (.slice (some ad) T.length c) := pw_cell_below hb1 ((blk_cell (heap_alloc_new w _) 1).trans rfl); clear hb1)
  generalize hbx : w.heap.size = bx at cb0 cb1 ⊢
  replace d0 := pw_cell_below HB1.out d0
  replace d1 := pw_cell_below HB1.out d1
  replace d2 := pw_cell_below HB1.out d2
  replace d3 := pw_cell_below HB1.out d3
  replace d4 := pw_cell_below HB1.out d4
  replace d5 := pw_cell_below HB1.out d5
  replace d6 := pw_cell_below HB1.out d6
  replace d7 := pw_cell_below HB1.out d7
  replace d8 := pw_cell_below HB1.out d8
  have HS : Aside0 (∀ W, Below w1.heap.size w1 W → W.cell? ⟨bx, 0, none⟩ = some (.int .i64 rl) ∧ W.cell? ⟨bx, 1, none⟩ = some (.slice (some ad) T.length c) ∧ W.cell? (ad.add (i * 9)) = some (.string t0) ∧ W.cell? ⟨(ad.add (i * 9)).block, (ad.add (i * 9)).off + 1, none⟩ = some (.int .i64 t1) ∧ W.cell? ⟨(ad.add (i * 9)).block, (ad.add (i * 9)).off + 2, none⟩ = some (.int .i64 t2) ∧ W.cell? ⟨(ad.add (i * 9)).block, (ad.add (i * 9)).off + 3, none⟩ = some (.int .i64 t3) ∧ W.cell? ⟨(ad.add (i * 9)).block, (ad.add (i * 9)).off + 4, none⟩ = some (.int .i64 t4) ∧ W.cell? ⟨(ad.add (i * 9)).block, (ad.add (i * 9)).off + 5, none⟩ = some (.int .i64 t5) ∧ W.cell? ⟨(ad.add (i * 9)).block, (ad.add (i * 9)).off + 6, none⟩ = some (.slice A6 t6.length c6) ∧ W.cell? ⟨(ad.add (i * 9)).block, (ad.add (i * 9)).off + 7, none⟩ = some (.int .u64 t7) ∧ W.cell? ⟨(ad.add (i * 9)).block, (ad.add (i * 9)).off + 8, none⟩ = some (.int .u64 t8)) := ⟨fun W h => ⟨pw_cell_below h cb0, pw_cell_below h cb1, pw_cell_below h d0, pw_cell_below h d1, pw_cell_below h d2, pw_cell_below h d3, pw_cell_below h d4, pw_cell_below h d5, pw_cell_below h d6, pw_cell_below h d7, pw_cell_below h d8⟩⟩
  have HB : Aside0 (Below w1.heap.size w1 w1) := ⟨Below.refl _ _⟩
  have HX : Aside0 (∀ W, Below w1.heap.size w1 W → Below w.heap.size w W) := ⟨fun W h => HB1.out.trans (h.mono HB1.out.size)⟩
  have hA : Aside0 (Below w1.heap.size w1 w1.drew) := ⟨below_drew (Below.refl _ _)⟩
  have hA2 : Aside0 (Below w1.heap.size w1 (w1.alloc (.cells #[.string ⟨#[]⟩, .int .i64 0, .int .i64 0, .int .i64 0, .int .i64 0, .int .i64 0, .slice none 0 0, .int .u64 0, .int .u64 0] 46)).drew) := ⟨below_drew (below_alloc (Below.refl _ _) _)⟩
  have hZ := Aside0.mk (heap_alloc_new w1 (.cells #[.string ⟨#[]⟩, .int .i64 0, .int .i64 0, .int .i64 0, .int .i64 0, .int .i64 0, .slice none 0 0, .int .u64 0, .int .u64 0] 46))
  go_cut [10, 11] (fun v10 v11 wx => ∃ (lb : Nat) (A5 : Option Addr) (c5 : Nat), v10 = .pointer (some ⟨lb, 0, none⟩) ∧ v11 = .slice A5 L.length c5 ∧ wx.heap[lb]? = some (.cells #[.string t0, .int .i64 t1, .int .i64 t2, .int .i64 t3, .int .i64 t4, .int .i64 t5, .slice A6 t6.length c6, .int .u64 t7, .int .u64 t8] 46 (0, 0)) ∧ Below w1.heap.size w1 wx ∧ Kd.R k165 165 wx w1.heap.size (fun _ => True) (.slice A5 L.length c5) L)
  case first =>
    go_region_held3 (fun W => W.cell? ⟨bx, 0, none⟩ = some (.int .i64 rl) ∧ W.cell? ⟨bx, 1, none⟩ = some (.slice (some ad) T.length c) ∧ W.cell? (ad.add (i * 9)) = some (.string t0) ∧ W.cell? ⟨(ad.add (i * 9)).block, (ad.add (i * 9)).off + 1, none⟩ = some (.int .i64 t1) ∧ W.cell? ⟨(ad.add (i * 9)).block, (ad.add (i * 9)).off + 2, none⟩ = some (.int .i64 t2) ∧ W.cell? ⟨(ad.add (i * 9)).block, (ad.add (i * 9)).off + 3, none⟩ = some (.int .i64 t3) ∧ W.cell? ⟨(ad.add (i * 9)).block, (ad.add (i * 9)).off + 4, none⟩ = some (.int .i64 t4) ∧ W.cell? ⟨(ad.add (i * 9)).block, (ad.add (i * 9)).off + 5, none⟩ = some (.int .i64 t5) ∧ W.cell? ⟨(ad.add (i * 9)).block, (ad.add (i * 9)).off + 6, none⟩ = some (.slice A6 t6.length c6) ∧ W.cell? ⟨(ad.add (i * 9)).block, (ad.add (i * 9)).off + 7, none⟩ = some (.int .u64 t7) ∧ W.cell? ⟨(ad.add (i * 9)).block, (ad.add (i * 9)).off + 8, none⟩ = some (.int .u64 t8)) (first | (with_reducible exact HS.out _ HB.out) | (with_reducible exact HS.out _ hA.out) | (with_reducible exact HS.out _ (below_alloc HB.out _)) | (with_reducible exact HS.out _ hA2.out) | (with_reducible exact HS.out _ (below_set9 HB.out (Nat.le_refl _) _ _ _ _ _ _ _ _ _)))
      ((first | (go_at_call 66; (with_reducible refine (HLO.out _ (HX.out _ hA.out)).mono ?_); rintro e w5 ⟨v5, rfl, hR5, hb5⟩; obtain ⟨A5, c5, rfl⟩ := Kd.R_slice hR5; have HR := Aside0.mk (Kd.R_lower hR5 hA.out.size); clear HB; have HB := Aside0.mk (below_step hA.out hb5); clear hR5 hb5) | (go_at_call 66; (with_reducible refine (HLO.out _ (HX.out _ hA2.out)).mono ?_); rintro e w5 ⟨v5, rfl, hR5, hb5⟩; obtain ⟨A5, c5, rfl⟩ := Kd.R_slice hR5; have HR := Aside0.mk (Kd.R_lower hR5 hA2.out.size); have hz5 := (hb5.block _ (blk_lt hZ.out)).trans hZ.out; have r0 := blk_frozen hz5 0; have v0 := (blk_cell hz5 0).trans rfl; have r1 := blk_frozen hz5 1; have v1 := (blk_cell hz5 1).trans rfl; have r2 := blk_frozen hz5 2; have v2 := (blk_cell hz5 2).trans rfl; have r3 := blk_frozen hz5 3; have v3 := (blk_cell hz5 3).trans rfl; have r4 := blk_frozen hz5 4; have v4 := (blk_cell hz5 4).trans rfl; have r5 := blk_frozen hz5 5; have v5 := (blk_cell hz5 5).trans rfl; have r6 := blk_frozen hz5 6; have v6 := (blk_cell hz5 6).trans rfl; have r7 := blk_frozen hz5 7; have v7 := (blk_cell hz5 7).trans rfl; have r8 := blk_frozen hz5 8; have v8 := (blk_cell hz5 8).trans rfl; replace hz5 := Aside0.mk hz5; clear HB; have HB := Aside0.mk (below_step hA2.out hb5); clear hR5 hb5)))
    all_goals
      (first
        | (have hloc := row9_set hz5.out (.string t0) (.int .i64 t1) (.int .i64 t2) (.int .i64 t3) (.int .i64 t4) (.int .i64 t5) (.slice A6 t6.length c6) (.int .u64 t7) (.int .u64 t8); have HBl : Below w1.heap.size w1 (((((((((w5.setCell ⟨w1.heap.size, 0, none⟩ (.string t0)).setCell ⟨w1.heap.size, 1, none⟩ (.int .i64 t1)).setCell ⟨w1.heap.size, 2, none⟩ (.int .i64 t2)).setCell ⟨w1.heap.size, 3, none⟩ (.int .i64 t3)).setCell ⟨w1.heap.size, 4, none⟩ (.int .i64 t4)).setCell ⟨w1.heap.size, 5, none⟩ (.int .i64 t5)).setCell ⟨w1.heap.size, 6, none⟩ (.slice A6 t6.length c6)).setCell ⟨w1.heap.size, 7, none⟩ (.int .u64 t7)).setCell ⟨w1.heap.size, 8, none⟩ (.int .u64 t8)) := below_set9 HB.out (Nat.le_refl _) _ _ _ _ _ _ _ _ _; have HRl : Kd.R k165 165 (((((((((w5.setCell ⟨w1.heap.size, 0, none⟩ (.string t0)).setCell ⟨w1.heap.size, 1, none⟩ (.int .i64 t1)).setCell ⟨w1.heap.size, 2, none⟩ (.int .i64 t2)).setCell ⟨w1.heap.size, 3, none⟩ (.int .i64 t3)).setCell ⟨w1.heap.size, 4, none⟩ (.int .i64 t4)).setCell ⟨w1.heap.size, 5, none⟩ (.int .i64 t5)).setCell ⟨w1.heap.size, 6, none⟩ (.slice A6 t6.length c6)).setCell ⟨w1.heap.size, 7, none⟩ (.int .u64 t7)).setCell ⟨w1.heap.size, 8, none⟩ (.int .u64 t8)) w1.heap.size (fun _ => True) (.slice A5 L.length c5) L := R_set9 HR.out hz5.out (fun q hq => by rw [List.mem_singleton.mp hq]; decide) (.string t0) (.int .i64 t1) (.int .i64 t2) (.int .i64 t3) (.int .i64 t4) (.int .i64 t5) (.slice A6 t6.length c6) (.int .u64 t7) (.int .u64 t8); generalize (((((((((w5.setCell ⟨w1.heap.size, 0, none⟩ (.string t0)).setCell ⟨w1.heap.size, 1, none⟩ (.int .i64 t1)).setCell ⟨w1.heap.size, 2, none⟩ (.int .i64 t2)).setCell ⟨w1.heap.size, 3, none⟩ (.int .i64 t3)).setCell ⟨w1.heap.size, 4, none⟩ (.int .i64 t4)).setCell ⟨w1.heap.size, 5, none⟩ (.int .i64 t5)).setCell ⟨w1.heap.size, 6, none⟩ (.slice A6 t6.length c6)).setCell ⟨w1.heap.size, 7, none⟩ (.int .u64 t7)).setCell ⟨w1.heap.size, 8, none⟩ (.int .u64 t8)) = W2 at hloc HBl HRl ⊢; generalize w1.heap.size = lb at hloc ⊢)
        | (have hloc := heap_alloc_new w5 (.cells #[.string t0, .int .i64 t1, .int .i64 t2, .int .i64 t3, .int .i64 t4, .int .i64 t5, .slice A6 t6.length c6, .int .u64 t7, .int .u64 t8] 46); have HBl : Below w1.heap.size w1 (w5.alloc (.cells #[.string t0, .int .i64 t1, .int .i64 t2, .int .i64 t3, .int .i64 t4, .int .i64 t5, .slice A6 t6.length c6, .int .u64 t7, .int .u64 t8] 46)) := below_alloc HB.out _; have HRl := Kd.R_below HR.out (Below.alloc (Below.refl _ _) (Nat.le_refl _) (.cells #[.string t0, .int .i64 t1, .int .i64 t2, .int .i64 t3, .int .i64 t4, .int .i64 t5, .slice A6 t6.length c6, .int .u64 t7, .int .u64 t8] 46)); generalize (w5.alloc (.cells #[.string t0, .int .i64 t1, .int .i64 t2, .int .i64 t3, .int .i64 t4, .int .i64 t5, .slice A6 t6.length c6, .int .u64 t7, .int .u64 t8] 46)) = W2 at hloc HBl HRl ⊢; generalize w5.heap.size = lb at hloc ⊢))
      go_wp2
      go_meet
      case rel => exact ⟨_, _, _, rfl, rfl, hloc, HBl, HRl⟩
  case rest =>
    obtain ⟨lb, A5, c5, rfl, rfl, hloc, HBl, HRl⟩ := hcut
    have H2 := Aside0.mk hloc
    replace HBl := Aside0.mk HBl
    replace HRl := Aside0.mk HRl
    clear hloc HS HLO HOF HB hA hA2 hZ d0 d1 d2 d3 d4 d5 d6 d7 d8 cb0 cb1
    have u0 := (blk_cell H2.out 0).trans rfl
    have u1 := (blk_cell H2.out 1).trans rfl
    have u2 := (blk_cell H2.out 2).trans rfl
    have u3 := (blk_cell H2.out 3).trans rfl
    have u4 := (blk_cell H2.out 4).trans rfl
    have u5 := (blk_cell H2.out 5).trans rfl
    have u6 := (blk_cell H2.out 6).trans rfl
    have u7 := (blk_cell H2.out 7).trans rfl
    have u8 := (blk_cell H2.out 8).trans rfl
    go_upto_region 6 with (go_at_call 59; (with_reducible refine (task_Work.calls k t0 t1 t2 t3 t4 t5 A6 c6 t6 t7 t8 wk _ (Kd.C_below HC6.out.1 (HX.out _ HBl.out)) HC6.out.2 HW.out).mono ?_); rintro e w6 ⟨rfl, hb6⟩; have HB6 := Aside0.mk (HX.out _ (below_step HBl.out hb6)); have HR6 := Aside0.mk (Kd.R_below HRl.out hb6); have H6 := Aside0.mk ((hb6.block _ (blk_lt H2.out)).trans H2.out); clear hb6)
    clear u0 u1 u2 u3 u4 u5 u6 u7 u8 HRl HBl H2
    have HL5 := Aside0.mk (Kd.R_reads' HR6.out)
    go_upto_region 8 with fail
    go_loopg [6, 13, 14] n0 (fun kq v6 v13 v14 w' => ∃ q f r' : Int, v6 = .int .i64 r' ∧ v13 = .int .i64 f ∧ v14 = .int .i64 q ∧ Aside0 (0 ≤ q ∧ q ≤ 1000000 ∧ long - q < kq) ∧ Aside0 (0 ≤ f ∧ f ≤ 1000000) ∧ Aside0 (withG F t1 long kq q f r' = r) ∧ Aside0 (Below w6.heap.size w6 w'))
    case atStart => exact ⟨0, 1, 0, rfl, rfl, rfl, ⟨by have := HN.out; omega⟩, ⟨by omega⟩, HR0, ⟨Below.refl _ _⟩⟩
    case round =>
      obtain ⟨q, f, r', rfl, rfl, rfl, HQ, HFB, HG, HBr⟩ := hrel
      have hqt := mulB (a := q) (b := t1) (A := 1000000) (B := 10000) HQ.out.1 HQ.out.2.1 (by have := HT.out; omega) HT.out.2
      have hqq : q ≤ q * t1 := by have := Int.mul_le_mul_of_nonneg_left HT.out.1 HQ.out.1; omega
      have w1q : wrap64 (q * t1) = q * t1 := wrap64_id (by omega) (by omega)
      have z1 : wr.cell? ⟨lb, 1, none⟩ = some (.int .i64 t1) := pw_cell_below HBr.out ((blk_cell H6.out 1).trans rfl)
      have z2 : wr.cell? ⟨lb, 2, none⟩ = some (.int .i64 t2) := pw_cell_below HBr.out ((blk_cell H6.out 2).trans rfl)
      by_cases ht : q * t1 < long
      · have e1 : decide (q * t1 < long) = true := decide_eq_true ht
        obtain ⟨n, rfl⟩ : ∃ m, gk = m + 1 := ⟨gk - 1, by have := HQ.out; omega⟩
        have hG := HG.out
        unfold withG at hG
        rw [if_pos ht] at hG
        obtain ⟨f0, f1, hF⟩ := HF.out q f HQ.out.1 ht HFB.out.1 HFB.out.2
        have hq6 : q < 1000000 := by have := HLW.out.1; omega
        have w2q : wrap64 (q + 1) = q + 1 := wrap64_id (by have := HQ.out; omega) (by omega)
        have hw2 := mulB (a := q + 1) (b := wk) (A := 1000000) (B := 1000000) (by have := HQ.out; omega) (by omega) HLW.out.2.1.1 HLW.out.2.1.2
        have w3q : wrap64 ((q + 1) * wk) = (q + 1) * wk := wrap64_id (by omega) (by omega)
        have w4q : wrap64 (b + (q + 1) * wk) = b + (q + 1) * wk := wrap64_id (by have := HLW.out; omega) (by have := HLW.out; omega)
        generalize F q f = x at f0 f1 hF hG
        have w5q : wrap64 (x - q * t1) = x - q * t1 := wrap64_id (by omega) (by omega)
        have HF1 := Aside0.mk hF
        have HX1 := Aside0.mk (show 0 ≤ x ∧ x ≤ 1000000 from ⟨f0, f1⟩)
        have HNQ := Aside0.mk (show 0 ≤ q + 1 ∧ q + 1 ≤ 1000000 ∧ long - (q + 1) < n by have := HQ.out; omega)
        clear hF f0 f1 hqt hqq hw2 hq6 ht
        unfold mx at hG
        by_cases hm : r' < x - q * t1
        all_goals
          first | rw [if_pos hm] at hG | rw [if_neg hm] at hG
          replace hG := Aside0.mk hG
          go_wp2_with (first | (go_at_call 67; (with_reducible refine (HF1.out _ A5 c5 (Kd.C_below HL5.out.2.2 HBr.out) HL5.out.2.1).mono ?_); rintro e w8 ⟨rfl, hb8⟩; have HB8 := Aside0.mk (below_step HBr.out hb8); have z18 : w8.cell? ⟨lb, 1, none⟩ = some (.int .i64 t1) := pw_cell_below hb8 z1))
          go_roundg n
          case measure => exact Nat.lt_succ_self _
          case rel => exact ⟨q + 1, x, _, rfl, rfl, by rw [w2q], HNQ, HX1, hG, HB8⟩
      · have e1 : decide (q * t1 < long) = false := decide_eq_false ht
        have hr : r' = r := by
          have hG := HG.out
          cases gk with
          | zero => exact hG
          | succ n => unfold withG at hG; rw [if_neg ht] at hG; exact hG
        subst hr
        clear hqt hqq ht
        by_cases h2 : r' ≤ t2
        · have e2 : decide (r' ≤ t2) = true := decide_eq_true h2
          obtain rfl : (1 : Int) = how := by rw [← HHow.out, if_pos h2]
          go_wp2
          go_ret2
          exact ⟨by first | rfl | (simp; done), HB6.out.trans (HBr.out.mono HB6.out.size)⟩
        · have e2 : decide (r' ≤ t2) = false := decide_eq_false h2
          obtain rfl : (2 : Int) = how := by rw [← HHow.out, if_neg h2]
          go_wp2
          go_ret2
          exact ⟨by first | rfl | (simp; done), HB6.out.trans (HBr.out.mono HB6.out.size)⟩
end Go.Proofs.YtaofmmnfenlofaaGreatDoor.QTc

/- What is proved: contracts and plain facts on the way to the row RowTopRaise, and, in the last text, the row itself; conditions as each theorem names them. -/
import Derived.Deep.Cut
import Derived.Shelf.Strings.Builder1
import Derived.Shelf.Strings.Builder2
import Derived.Shelf.Strconv.Itoa0
import Derived.Shelf.Strings.Prefix
import Derived.Shelf.Strings.Fields
import Derived.Shelf.LaysM
import Derived.Shelf.Strings.SplitShaped
import Derived.Shelf.Unicode.Latin
import Derived.Shelf.Unicode.Is16White
import Derived.Shelf.Unicode.IsSpaceAny
import Derived.Shelf.Unicode.Is16WhiteD
import Derived.Shelf.Unicode.IsSpaceAnyD
import Derived.Shelf.Strings.FieldsAny
import Derived.Shelf.Strings.FieldsFuncAny
import Derived.Shelf.Unicode.Is16Any
import Derived.Shelf.Unicode.Is32Any
import Derived.Shelf.Unicode.ExclAny
import Derived.Shelf.Slices.Turned
import Derived.Test.YtaofmmnfenlofaaGreatDoorProg
import Derived.Lib.ConvBytes
import Derived.ScopeJumps
import Derived.WalkMore
import Derived.Test.YtaofmmnfenlofaaGreatDoorSkRaise1
import Derived.Test.YtaofmmnfenlofaaGreatDoorSkRaise2
namespace Go.Proofs.YtaofmmnfenlofaaGreatDoor.QTc
open Go.RowKit Go.Proofs.YtaofmmnfenlofaaGreatDoorW.PrintWords Go.Proofs.YtaofmmnfenlofaaGreatDoorW.PrintLast Go.Proofs.YtaofmmnfenlofaaGreatDoorW.PrintMore Go.Proofs.YtaofmmnfenlofaaGreatDoor.Pure
attribute [local go_sem] fld132_0 fld132_1 fld132_2 fld132_3
set_option linter.unusedVariables false
set_option linter.unusedSimpArgs false
def midS (l : List S132) (who : Int) (m : Bool) : List S132 := l.set who.toNat ⟨(rd_T132 l who).f0, (rd_T132 l who).f1, m, (rd_T132 l who).f3⟩
def KA.drop (A : KA) (who : Int) : KA := { A with st := A.st.set who.toNat z132 }
def endA (A : KA) (who reg how took : Int) : KA :=
  if how = 1 then A.note 7 who reg else if how = 2 then ((A.note 7 who reg).note 8 who took).drop who else if how = 3 then (A.note 9 who took).drop who else A
def runA (A : KA) (who : Int) : KA :=
  if A.loads.getD who.toNat 0 > 0 then { A with loads := A.loads.set who.toNat (wrap64 (A.loads.getD who.toNat 0 - 1)), st := midS A.st who true }
  else endA { A with job := A.job.set who.toNat (stepJ (A.job.getD who.toNat zJ)).2.2, st := midS A.st who (decide ((stepJ (A.job.getD who.toNat zJ)).2.2.had > 0)) } who (stepJ (A.job.getD who.toNat zJ)).1 (stepJ (A.job.getD who.toNat zJ)).2.1 (wrap64 (wrap64 (A.tick + 1) - (rd_T132 A.st who).f3))
def JRdy (J : J5) : Prop := J.how = 0 ∧ J.at_ < J.rg.length ∧ J.dm.length = J.rg.length ∧ J.rg.length ≤ 8 ∧ 0 ≤ J.had ∧ J.had ≤ 10000
theorem KpT.cellT {B0 : Bs} {w w' : World} {ts : List Nat} (h : KpT B0 w w' ts) {a : Addr} {t : Nat} (hb : ∃ cs, w.heap[a.block]? = some (.cells cs t (0, 0))) (ht : t ∉ ts) {v : Value} (hv : w.cell? a = some v) : w'.cell? a = some v := by
  obtain ⟨cs, hcs⟩ := hb
  exact (World.cell?_of_block (w := w) (a := a) ((h.blk hcs ht).trans hcs.symm)).trans hv
theorem KpT.cellG {B0 : Bs} {w w' : World} {ts : List Nat} (h : KpT B0 w w' ts) {g o t : Nat} (hb : ∃ cs, w.heap[g]? = some (.cells cs t (0, 0))) (ht : t ∉ ts) {v : Value} (hv : w.cell? ⟨g, o, none⟩ = some v) : w'.cell? ⟨g, o, none⟩ = some v :=
  h.cellT (a := ⟨g, o, none⟩) hb ht hv
theorem midS_keep {l : List S132} {i n : Nat} {X : Option Nat} (hil : i < l.length) (m : Bool) : ∀ i', i' < n → some i' ≠ X → some i' ≠ X ∧ ((rd_T132 (l.set i ⟨(rd_T132 l (i : Int)).f0, (rd_T132 l (i : Int)).f1, m, (rd_T132 l (i : Int)).f3⟩) (i' : Int)).f0 = true → (rd_T132 l (i' : Int)).f0 = true) := by
  intro i' h2 hx
  refine ⟨hx, fun hp2 => ?_⟩
  by_cases e : i' = i
  · subst e; rw [rdS_set_eq hil] at hp2; exact hp2
  · rw [rdS_set_ne e] at hp2; exact hp2
theorem stOf_mid {l : List S132} {i : Nat} (hil : i < l.length) (hp : hasS l (i : Int) = true) (m : Bool) : stOf (l.set i ⟨(rd_T132 l (i : Int)).f0, (rd_T132 l (i : Int)).f1, m, (rd_T132 l (i : Int)).f3⟩) (i : Int) = ⟨(rd_T132 l (i : Int)).f0, (rd_T132 l (i : Int)).f1, m, (rd_T132 l (i : Int)).f3⟩ ∧ hasS (l.set i ⟨(rd_T132 l (i : Int)).f0, (rd_T132 l (i : Int)).f1, m, (rd_T132 l (i : Int)).f3⟩) (i : Int) = true := by
  have h1 : hasS (l.set i ⟨(rd_T132 l (i : Int)).f0, (rd_T132 l (i : Int)).f1, m, (rd_T132 l (i : Int)).f3⟩) (i : Int) = true := by
    unfold hasS at hp ⊢
    rw [rdS_set_eq hil, List.length_set]; exact hp
  exact ⟨by unfold stOf; rw [if_pos h1, rdS_set_eq hil], h1⟩
theorem hasS_f0 {l : List S132} {i : Int} (h : hasS l i = true) : (rd_T132 l i).f0 = true := by
  unfold hasS at h
  rw [Bool.and_eq_true, Bool.and_eq_true] at h
  exact h.2.2
theorem stepJ_how (J : J5) : (stepJ J).2.1 = 0 ∨ (stepJ J).2.1 = 1 ∨ (stepJ J).2.1 = 2 ∨ (stepJ J).2.1 = 3 := by
  unfold stepJ
  split
  · split <;> simp
  · split <;> simp
theorem drop_keep {l : List S132} {i n : Nat} {X : Option Nat} (hil : i < l.length) : ∀ i', i' < n → some i' ≠ X → some i' ≠ X ∧ ((rd_T132 (l.set i z132) (i' : Int)).f0 = true → (rd_T132 l (i' : Int)).f0 = true) := by
  intro i' h2 hx
  refine ⟨hx, fun hp2 => ?_⟩
  by_cases e : i' = i
  · subst e; rw [rdS_set_eq hil] at hp2; cases hp2
  · rw [rdS_set_ne e] at hp2; exact hp2
set_option maxHeartbeats 16000000 in
set_option maxRecDepth 100000 in
theorem runs_from (B0 : Bs) (w : World) (g : Nat) (rl : Int) (T : List S46) (L : KL) (K : KS) (ev : Value) (i tn : Nat) (htn : tn < 18446744073709551616) (hTw : ∀ W, KpT B0 w W TsAll → TabW W) (f0 : Nat → Int) (h : KInv B0 w g rl T L { K with cac := f0 } ev none) (hcac : K.cac = touchF (wrap64 ((i : Int) + 1)) (listFrom (tn &&& (rd_T46 T (i : Int)).f7.toNat) 64 0) f0) (hB0 : B0.e ≤ w.heap.size) (hlen : K.evs.length ≤ 1000) (hi : i < T.length) (hp : hasS K.st (i : Int) = true) (hJ : JRdy (K.job.getD i zJ))
    (hU : ∀ t ∈ T, (0 ≤ t.f7 ∧ t.f7 < 18446744073709551616) ∧ (0 ≤ t.f8 ∧ t.f8 < 18446744073709551616)) :
    Calls Tryz.prog 55 #[.pointer (some ⟨g, 0, none⟩), .int .i64 (i : Int), .int .u64 (tn : Int)] w fun e w' => APost B0 w g rl T L (runA K.abs (i : Int)) e w' := by
  obtain ⟨tv, pb, wb, cb, tb, sb, ob⟩ := L
  obtain ⟨At, ct, rfl, hlt2, hCt⟩ := Kd.R_reads h.tasks
  obtain ⟨adt, A6, c6, rfl, _, _, _, _, _, _, _, t7, _, _, _⟩ := at_T46 hCt (i : Int) (by omega) (by omega)
  rw [Int.toNat_natCast] at t7
  have hmem : rd_T46 T (i : Int) ∈ T := by
    unfold rd_T46
    rw [Int.toNat_natCast, List.getD_eq_getElem?_getD, List.getElem?_eq_getElem hi]; exact List.getElem_mem hi
  obtain ⟨⟨u0, u1⟩, _⟩ := hU _ hmem
  generalize (rd_T46 T (i : Int)).f7 = u at t7 u0 u1 hcac
  obtain ⟨un, rfl⟩ := Int.eq_ofNat_of_zero_le u0
  rw [Int.toNat_natCast] at hcac
  have hand := andN tn un htn (by omega)
  have hal : tn &&& un < 18446744073709551616 := and_lt htn
  have hti := task_blk h.tasks (i * 9)
  have y1 : w.cell? ⟨g, 1, none⟩ = some (.slice (some adt) T.length ct) := blk_cell h.ker 1
  have y5 : w.cell? ⟨g, 5, none⟩ = some (.pointer (some ⟨cb, 0, none⟩)) := blk_cell h.ker 5
  have y7 : w.cell? ⟨g, 7, none⟩ = some (.slice (some ⟨ob, 0, none⟩) T.length T.length) := blk_cell h.ker 7
  have hbg : ∃ cs, w.heap[g]? = some (.cells cs 96 (0, 0)) := ⟨_, h.ker⟩
  have hol : i < K.own.length := Nat.lt_of_lt_of_eq hi h.lo.symm
  have hil : i < K.st.length := Nat.lt_of_lt_of_eq hi h.ls.symm
  have i0 : 0 ≤ (i : Int) := by omega
  have i1 : (i : Int) < (T.length : Int) := by omega
  have HTO := Aside0.mk (fun W (hb : Below w.heap.size w W) => Touch_calls W cb (i : Int) (tn &&& un) (hTw _ (KpT.of_below hb _)) f0 (h.below hb).cac (by omega) hal)
  have HSC : Aside0 (∀ W2, Kp w.drew W2 (· = cb) → CacIs W2 cb (touchF (wrap64 ((i : Int) + 1)) (listFrom (tn &&& un) 64 0) f0) → KInv B0 W2 g rl T ⟨.slice (some adt) T.length ct, pb, wb, cb, tb, sb, ob⟩ K ev none) := Aside0.mk (fun W2 hk hc => by rw [← hcac] at hc; exact h.drew.setCac (KpT.one hk h.drew.cac h.ge.2.2.1) hc)
  have HSK : Aside0 (∀ W2, Kp w.drew W2 (· = cb) → KpT B0 w W2 [121]) := Aside0.mk (fun W2 hk => ((KpT.refl B0 w [121]).drew).trans (KpT.one hk h.drew.cac h.ge.2.2.1))
  have HP := Aside0.mk hp
  have HJ := Aside0.mk hJ
  have HB0 := Aside0.mk hB0
  have HL := Aside0.mk hlen
  have HI := Aside0.mk h
  have hg := blk_lt h.ker
  have hob := h.own.lt
  clear u0 hU hTw hCt hp hJ hB0 hlen h hcac
  go_enter Tryz.func55, Tryz.ntmps55
  go_upto_region 1 with fail
  go_region_held3 (fun W => W.cell? ⟨g, 1, none⟩ = some (.slice (some adt) T.length ct) ∧ W.cell? ⟨g, 5, none⟩ = some (.pointer (some ⟨cb, 0, none⟩)) ∧ W.cell? ⟨(adt.add (i * 9)).block, (adt.add (i * 9)).off + 7, none⟩ = some (.int .u64 (un : Int)))
    (first | exact ⟨y1, y5, t7⟩ | exact ⟨z1, z5, z7⟩ | go_keep)
    ((go_at_call 93; (with_reducible refine (HTO.out _ ?sideW).mono ?_); (case sideW => repeat (first | exact Below.refl _ _ | apply below_drew1 | apply pw_below_drewN)); rintro e w2 ⟨rfl, hc2, hk2⟩; have HI2 := Aside0.mk (HSC.out _ hk2 hc2); have HK2 := Aside0.mk (HSK.out _ hk2); have z1 := HK2.out.cellG hbg (by decide) y1; have z5 := HK2.out.cellG hbg (by decide) y5; have z7 := HK2.out.cellG hti (by decide) t7; clear hk2 hc2))
  have o2 : w2.cell? ⟨ob, i * 3 + 2, none⟩ = some (.int .i64 (K.own.getD i zO).loads) := HI2.out.own.cell (i := 2) (rdO hol) rfl
  have q2 := HI2.out.own.frozen (i * 3 + 2)
  have y6 : w2.cell? ⟨g, 6, none⟩ = some (.pointer (some ⟨tb, 0, none⟩)) := blk_cell HI2.out.ker 6
  have hnb : g ≠ ob := blk_ne HI2.out.ker HI2.out.own.choose_spec.1 (by decide)
  have hs2 := HK2.out.size
  have habs : K.abs.loads.getD i 0 = (K.own.getD i zO).loads := by
    show (K.own.map (·.loads)).getD i 0 = _
    rw [List.getD_eq_getElem?_getD, List.getD_eq_getElem?_getD, List.getElem?_map, List.getElem?_eq_getElem hol]; rfl
  have hrun : Aside0 (∀ A, (if (K.own.getD i zO).loads > 0 then { K.abs with loads := K.abs.loads.set i (wrap64 ((K.own.getD i zO).loads - 1)), st := midS K.abs.st (i : Int) true } else endA { K.abs with job := K.abs.job.set i (stepJ (K.abs.job.getD i zJ)).2.2, st := midS K.abs.st (i : Int) (decide ((stepJ (K.abs.job.getD i zJ)).2.2.had > 0)) } (i : Int) (stepJ (K.abs.job.getD i zJ)).1 (stepJ (K.abs.job.getD i zJ)).2.1 (wrap64 (wrap64 (K.abs.tick + 1) - (rd_T132 K.abs.st (i : Int)).f3))) = A → runA K.abs (i : Int) = A) := Aside0.mk (by intro A h; unfold runA; rw [Int.toNat_natCast, habs]; exact h)
  clear habs
  generalize hld0 : (K.own.getD i zO).loads = ld at o2 hrun
  by_cases hpos : ld > 0
  · have HLO := Aside0.mk (HI2.out.ownLoads hi (wrap64 (ld - 1)))
    have HMI := Aside0.mk (Mid_yes _ tb sb K.st i true HLO.out.1.tab hil HP.out)
    go_wp2_with (go_at_call 94; (with_reducible refine HMI.out.mono ?_); rintro e w3 ⟨rfl, ht3, hk3⟩; have HT3 := Aside0.mk ht3; have HK3 := Aside0.mk hk3; clear ht3 hk3)
    go_end0
    refine ⟨rfl, ⟨_, ev, HLO.out.1.setTab (KpT.one HK3.out HLO.out.1.tab.row.choose_spec.1 HLO.out.1.ge.2.2.2.1) HT3.out (by rw [List.length_set]; exact HLO.out.1.ls) (midS_keep hil true), (hrun.out _ (by rw [if_pos hpos]; have hhs := set_had_same (l := K.own) (m := i) (q := ⟨(K.own.getD i zO).j, (K.own.getD i zO).had, wrap64 (ld - 1)⟩) hol rfl; simp only [KS.abs, midS, List.map_set, Int.toNat_natCast] at hhs ⊢; rw [hhs])).symm⟩, (HK2.out.mono (by decide)).trans ((HLO.out.2.mono (by decide)).trans ((KpT.one HK3.out HLO.out.1.tab.row.choose_spec.1 HLO.out.1.ge.2.2.2.1).mono (by decide)))⟩
  · have hf0 := hasS_f0 HP.out
    obtain ⟨j, hj1, hj2, hj3⟩ := HI2.out.job i hi (by simp) hf0
    have o0 : w2.cell? ⟨ob, i * 3, none⟩ = some (.pointer (some ⟨j, 0, none⟩)) := (HI2.out.own.cell (i := 0) (rdO hol) rfl).trans (by rw [hj1]; rfl)
    have HST := Aside0.mk (jStep_calls B0.b w2 j (K.job.getD i zJ) hj3 HJ.out.1 HJ.out.2.1 HJ.out.2.2.1 HJ.out.2.2.2.1 HJ.out.2.2.2.2.1 HJ.out.2.2.2.2.2)
    have HSJ : Aside0 (∀ W J', Kp w2 W (· = j) → JobIs B0.b W j J' → KInv B0 W g rl T ⟨.slice (some adt) T.length ct, pb, wb, cb, tb, sb, ob⟩ { K with job := K.job.set i J' } ev none ∧ KpT B0 w2 W [187]) := Aside0.mk (fun W J' hk hJ' => ⟨HI2.out.setJob hi (by simp) hf0 hj1 (by obtain ⟨v, u, t, hb, _⟩ := hj3; exact ⟨_, hb⟩) hj2 hk hJ', by obtain ⟨v, u, t, hb, _⟩ := hj3; exact KpT.one hk hb hj2⟩)
    have hhow := stepJ_how (K.job.getD i zJ)
    have hrun2 : Aside0 (∀ sj, stepJ (K.job.getD i zJ) = sj → runA K.abs (i : Int) = endA { K.abs with job := K.job.set i sj.2.2, st := midS K.st (i : Int) (decide (sj.2.2.had > 0)) } (i : Int) sj.1 sj.2.1 (wrap64 (wrap64 (K.tick + 1) - (rd_T132 K.st (i : Int)).f3))) := Aside0.mk (by intro sj h; subst h; exact hrun.out _ (if_neg hpos))
    have hfar : (⟨ob, i * 3, none⟩ : Addr).block ≠ j := blk_ne HI2.out.own.choose_spec.1 hj3.choose_spec.choose_spec.choose_spec.1 (by decide)
    obtain ⟨sj, hsj⟩ : ∃ sj, stepJ (K.job.getD i zJ) = sj := ⟨_, rfl⟩
    replace hrun2 := hrun2.out sj hsj
    rw [hsj] at HST hhow
    clear hsj hj3 hrun
    obtain ⟨reg, how, J2⟩ := sj
    dsimp only at HST hhow hrun2
    replace hrun2 := Aside0.mk hrun2
    clear q2 y1 y5 t7
    replace hhow := Aside0.mk hhow
    replace hf0 := Aside0.mk hf0
    replace hj1 := Aside0.mk hj1
    clear hld0 hand hal hti z1 z5 z7 HTO HSC HSK
    have hbo : ∃ cs, w2.heap[ob]? = some (.cells cs 139 (0, 0)) := ⟨_, HI2.out.own.choose_spec.1⟩
    have hbg2 : ∃ cs, w2.heap[g]? = some (.cells cs 96 (0, 0)) := ⟨_, HI2.out.ker⟩
    go_upto_region 6 with (go_at_call 95; (with_reducible refine HST.out.mono ?_); rintro e w3 ⟨rfl, hj3, hk3⟩; have HSJ3 := Aside0.mk (HSJ.out _ _ hk3 hj3); have o3 := HSJ3.out.2.cellG hbo (by decide) o0; have y63 := HSJ3.out.2.cellG hbg2 (by decide) y6; have HMD := Aside0.mk (fun W hb => jMid_calls B0.b W j J2 (hj3.kept (S := fun _ => False) (Kp.of_below hb _) id (fun _ h => h.elim))); clear hk3 hj3)
    have HI3 := Aside0.mk HSJ3.out.1
    generalize hm0 : decide (J2.had > 0) = m at HMD hrun2
    have HSM : Aside0 (∀ W W2, Kp W W2 (· = sb) → TabIs W2 tb sb (K.st.set i ⟨(rd_T132 K.st (i : Int)).f0, (rd_T132 K.st (i : Int)).f1, m, (rd_T132 K.st (i : Int)).f3⟩) → Below w3.heap.size w3 W → KInv B0 W2 g rl T ⟨.slice (some adt) T.length ct, pb, wb, cb, tb, sb, ob⟩ { K with job := K.job.set i J2, st := K.st.set i ⟨(rd_T132 K.st (i : Int)).f0, (rd_T132 K.st (i : Int)).f1, m, (rd_T132 K.st (i : Int)).f3⟩ } ev none ∧ KpT B0 w3 W2 [132]) :=
      Aside0.mk (fun W W2 hk ht hb => by
        have hk1 := KpT.one (B0 := B0) hk (HI3.out.below hb).tab.row.choose_spec.1 HI3.out.ge.2.2.2.1
        exact ⟨(HI3.out.below hb).setTab hk1 ht (by rw [List.length_set]; exact HI3.out.ls) (midS_keep hil m), (KpT.of_below hb _).trans hk1⟩)
    have HMI := Aside0.mk (fun W (hb : Below w3.heap.size w3 W) => Mid_yes W tb sb K.st i m (HI3.out.below hb).tab hil HP.out)
    have hbo3 : ∃ cs, w3.heap[ob]? = some (.cells cs 139 (0, 0)) := ⟨_, HI3.out.own.choose_spec.1⟩
    have hbg3 : ∃ cs, w3.heap[g]? = some (.cells cs 96 (0, 0)) := ⟨_, HI3.out.ker⟩
    have hs3 := HSJ3.out.2.size
    replace hm0 := Aside0.mk hm0
    clear o0 y6 hbo hbg2
    go_region_held3 (fun W => W.cell? ⟨ob, i * 3, none⟩ = some (.pointer (some ⟨j, 0, none⟩)) ∧ W.cell? ⟨g, 6, none⟩ = some (.pointer (some ⟨tb, 0, none⟩)))
      (first | exact ⟨o3, y63⟩ | exact ⟨z3, z63⟩ | go_keep)
      ((first | (go_at_call 96; (with_reducible refine (HMD.out _ ?sideW).mono ?_); (case sideW => repeat (first | exact Below.refl _ _ | apply below_drew1 | apply pw_below_drewN)); rintro e w' ⟨rfl, ⟨nd, rfl⟩⟩) | (go_at_call 94; (with_reducible refine (HMI.out _ ?sideW).mono ?_); (case sideW => repeat (first | exact Below.refl _ _ | apply below_drew1 | apply pw_below_drewN)); rintro e w4 ⟨rfl, ht4, hk4⟩; have HS4 := Aside0.mk (HSM.out _ _ hk4 ht4 (by repeat (first | exact Below.refl _ _ | apply below_drew1 | apply pw_below_drewN))); have z3 := HS4.out.2.cellG hbo3 (by decide) o3; have z63 := HS4.out.2.cellG hbg3 (by decide) y63; clear hk4 ht4)))
    go_upto_region 7 with fail
    have HI4 := Aside0.mk HS4.out.1
    have hs4 := HS4.out.2.size
    have x2 : w4.cell? ⟨g, 2, none⟩ = some (.int .i64 K.tick) := blk_cell HI4.out.ker 2
    have HSt := Aside0.mk (fun W (hb : Below w4.heap.size w4 W) => State_calls W tb sb _ (i : Int) (HI4.out.below hb).tab)
    rw [(stOf_mid hil HP.out m).1] at HSt
    clear o3 y63 z3
    have hg4 := blk_lt HI4.out.ker
    go_region_held3 (fun W => W.cell? ⟨g, 2, none⟩ = some (.int .i64 K.tick) ∧ W.cell? ⟨g, 6, none⟩ = some (.pointer (some ⟨tb, 0, none⟩)))
      (first | exact ⟨x2, z63⟩ | exact ⟨pw_cell_below HB5.out x2, pw_cell_below HB5.out z63⟩ | go_keep)
      ((go_at_call 79; (with_reducible refine (HSt.out _ ?sideB).mono ?_); (case sideB => repeat (first | exact Below.refl _ _ | apply below_drew1 | apply pw_below_drewN)); rintro e w5 ⟨rfl, hb⟩; have HB5 := Aside0.mk (show Below w4.heap.size w4 w5 from (below_drew1 (Below.refl _ _)).trans hb); clear hb))
    replace hrun2 : Aside0 (runA K.abs (i : Int) = endA { K.abs with job := K.job.set i J2, st := midS K.st (i : Int) m } (i : Int) reg how (IntKind.i64.wrap (IntKind.i64.wrap (K.tick + 1) - (rd_T132 K.st (i : Int)).f3))) := Aside0.mk (by rw [IntWalk.i64_left, IntWalk.i64_left]; exact hrun2.out)
    generalize IntKind.i64.wrap (IntKind.i64.wrap (K.tick + 1) - (rd_T132 K.st (i : Int)).f3) = took at hrun2
    have HI5 := Aside0.mk (HI4.out.below HB5.out)
    have hs5 := HB5.out.size
    have z5 := pw_cell_below HB5.out z63
    have HK5 : Aside0 (KpT B0 w w5 TsAll) := Aside0.mk ((HK2.out.mono (by decide)).trans ((HSJ3.out.2.mono (by decide)).trans ((HS4.out.2.mono (by decide)).trans (KpT.of_below HB5.out _))))
    have hab : Aside0 (({ K with job := K.job.set i J2, st := K.st.set i ⟨(rd_T132 K.st (i : Int)).f0, (rd_T132 K.st (i : Int)).f1, m, (rd_T132 K.st (i : Int)).f3⟩ } : KS).abs = { K.abs with job := K.job.set i J2, st := midS K.st (i : Int) m }) := Aside0.mk (by simp [KS.abs, midS])
    have hsa := (stOf_mid hil HP.out m).2
    have hsl : i < (K.st.set i ⟨(rd_T132 K.st (i : Int)).f0, (rd_T132 K.st (i : Int)).f1, m, (rd_T132 K.st (i : Int)).f3⟩).length := by rw [List.length_set]; exact hil
    have hev : Aside0 (({ K with job := K.job.set i J2, st := K.st.set i ⟨(rd_T132 K.st (i : Int)).f0, (rd_T132 K.st (i : Int)).f1, m, (rd_T132 K.st (i : Int)).f3⟩ } : KS).evs = K.evs) := Aside0.mk rfl
    generalize hK5 : ({ K with job := K.job.set i J2, st := K.st.set i ⟨(rd_T132 K.st (i : Int)).f0, (rd_T132 K.st (i : Int)).f1, m, (rd_T132 K.st (i : Int)).f3⟩ } : KS) = K5 at HI5 hab hev
    have hst5 : K5.st = K.st.set i ⟨(rd_T132 K.st (i : Int)).f0, (rd_T132 K.st (i : Int)).f1, m, (rd_T132 K.st (i : Int)).f3⟩ := by rw [← hK5]
    rw [← hst5] at hsa hsl
    clear hK5 hst5 z63 x2
    replace hsa := Aside0.mk hsa
    have hh := hhow.out
    rw [← hab.out] at hrun2
    clear hhow HSt HMD HMI HSM
    rcases hh with rfl | rfl | rfl | rfl
    · go_wp2
      go_end0
      exact ⟨rfl, ⟨K5, ev, HI5.out, by rw [hrun2.out]; rfl⟩, HK5.out⟩
    · go_wp2_with (go_at_call 53; (with_reducible refine (notes_calls B0 _ g rl T ⟨.slice (some adt) T.length ct, pb, wb, cb, tb, sb, ob⟩ K5 ev none 7 (i : Int) reg HI5.out (by have := HB0.out; omega) (by have := HL.out; rw [hev.out]; omega)).mono ?_); rintro e w6 ⟨rfl, ⟨ev6, hi6⟩, hk6⟩; have H6 := Aside0.mk hi6; have HK6 := Aside0.mk hk6; clear hi6 hk6)
      go_end0
      exact ⟨rfl, ⟨_, ev6, H6.out, by rw [hrun2.out]; rfl⟩, HK5.out.trans (HK6.out.mono (by decide))⟩
    · have hl7 : Aside0 ((K5.note 7 (i : Int) reg).evs.length ≤ 100000) := Aside0.mk (by have := HL.out; have e := hev.out; show (K5.evs ++ [_]).length ≤ _; rw [List.length_append, e, List.length_singleton]; omega)
      go_wp2_with (first | (go_at_call 53; (with_reducible refine (notes_calls B0 _ g rl T ⟨.slice (some adt) T.length ct, pb, wb, cb, tb, sb, ob⟩ K5 ev none 7 (i : Int) reg HI5.out (by have := HB0.out; omega) (by have := HL.out; rw [hev.out]; omega)).mono ?_); rintro e w6 ⟨rfl, ⟨ev6, hi6⟩, hk6⟩; have H6 := Aside0.mk hi6; have HK6 := Aside0.mk hk6; have hs6 := hk6.size; clear hi6 hk6) | (go_at_call 53; (with_reducible refine (notes_calls B0 _ g rl T ⟨.slice (some adt) T.length ct, pb, wb, cb, tb, sb, ob⟩ (K5.note 7 (i : Int) reg) ev6 none 8 (i : Int) took H6.out (by have := HB0.out; omega) hl7.out).mono ?_); rintro e w7 ⟨rfl, ⟨ev7, hi7⟩, hk7⟩; have H7 := Aside0.mk hi7; have HK7 := Aside0.mk hk7; have y67 : w7.cell? ⟨g, 6, none⟩ = some (.pointer (some ⟨tb, 0, none⟩)) := blk_cell hi7.ker 6; have HDR := Aside0.mk (Drop_yes w7 tb sb K5.st i hi7.tab hsl hsa.out); clear hi7 hk7) | (go_at_call 97; (with_reducible refine HDR.out.mono ?_); rintro e w8 ⟨rfl, ht8, hk8⟩; have HT8 := Aside0.mk ht8; have HK8 := Aside0.mk (KpT.one hk8 H7.out.tab.row.choose_spec.1 H7.out.ge.2.2.2.1); clear ht8 hk8))
      go_end0
      exact ⟨rfl, ⟨_, ev7, H7.out.setTab HK8.out HT8.out (by rw [List.length_set]; exact H7.out.ls) (drop_keep hsl), by rw [hrun2.out]; rfl⟩, HK5.out.trans ((HK6.out.mono (by decide)).trans ((HK7.out.mono (by decide)).trans (HK8.out.mono (by decide))))⟩
    · go_wp2_with (first | (go_at_call 53; (with_reducible refine (notes_calls B0 _ g rl T ⟨.slice (some adt) T.length ct, pb, wb, cb, tb, sb, ob⟩ K5 ev none 9 (i : Int) took HI5.out (by have := HB0.out; omega) (by have := HL.out; rw [hev.out]; omega)).mono ?_); rintro e w7 ⟨rfl, ⟨ev7, hi7⟩, hk7⟩; have H7 := Aside0.mk hi7; have HK7 := Aside0.mk hk7; have y67 : w7.cell? ⟨g, 6, none⟩ = some (.pointer (some ⟨tb, 0, none⟩)) := blk_cell hi7.ker 6; have HDR := Aside0.mk (Drop_yes w7 tb sb K5.st i hi7.tab hsl hsa.out); clear hi7 hk7) | (go_at_call 97; (with_reducible refine HDR.out.mono ?_); rintro e w8 ⟨rfl, ht8, hk8⟩; have HT8 := Aside0.mk ht8; have HK8 := Aside0.mk (KpT.one hk8 H7.out.tab.row.choose_spec.1 H7.out.ge.2.2.2.1); clear ht8 hk8))
      go_end0
      exact ⟨rfl, ⟨_, ev7, H7.out.setTab HK8.out HT8.out (by rw [List.length_set]; exact H7.out.ls) (drop_keep hsl), by rw [hrun2.out]; rfl⟩, HK5.out.trans ((HK7.out.mono (by decide)).trans (HK8.out.mono (by decide)))⟩
def touchA (T : List S46) (tn : Nat) (A : KA) (who : Int) : KA := { A with cac := touchF (wrap64 (who + 1)) (listFrom (tn &&& (rd_T46 T who).f7.toNat) 64 0) A.cac }
theorem runs_calls (B0 : Bs) (w : World) (g : Nat) (rl : Int) (T : List S46) (L : KL) (K : KS) (ev : Value) (i tn : Nat) (htn : tn < 18446744073709551616) (hTw : ∀ W, KpT B0 w W TsAll → TabW W) (h : KInv B0 w g rl T L K ev none) (hB0 : B0.e ≤ w.heap.size) (hlen : K.evs.length ≤ 1000) (hi : i < T.length) (hp : hasS K.st (i : Int) = true) (hJ : JRdy (K.job.getD i zJ))
    (hU : ∀ t ∈ T, (0 ≤ t.f7 ∧ t.f7 < 18446744073709551616) ∧ (0 ≤ t.f8 ∧ t.f8 < 18446744073709551616)) :
    Calls Tryz.prog 55 #[.pointer (some ⟨g, 0, none⟩), .int .i64 (i : Int), .int .u64 (tn : Int)] w fun e w' => APost B0 w g rl T L (runA (touchA T tn K.abs (i : Int)) (i : Int)) e w' :=
  runs_from B0 w g rl T L { K with cac := touchF (wrap64 ((i : Int) + 1)) (listFrom (tn &&& (rd_T46 T (i : Int)).f7.toNat) 64 0) K.cac } ev i tn htn hTw K.cac h rfl hB0 hlen hi hp hJ hU
end Go.Proofs.YtaofmmnfenlofaaGreatDoor.QTc
namespace Go.Proofs.YtaofmmnfenlofaaGreatDoor.QTc
open Go.RowKit Go.Proofs.YtaofmmnfenlofaaGreatDoorW.PrintWords Go.Proofs.YtaofmmnfenlofaaGreatDoorW.PrintLast Go.Proofs.YtaofmmnfenlofaaGreatDoorW.PrintMore
set_option linter.unusedVariables false
set_option linter.unusedSimpArgs false
attribute [local go_sem] below_alloc below_drew1 pw_below_drewN
def waitsP : List S132 → Int → Bool → Int × Bool
  | [], o, b => (o, b)
  | x :: l, o, b => if (x.f0 && (!b || decide (x.f3 < o))) = true then waitsP l x.f3 true else waitsP l o b
def waitsB (l : List S132) (q t : Int) : Bool := (waitsP l 0 false).2 && decide (t < wrap64 (q + (waitsP l 0 false).1))
def keepB (T : List S46) (l : List S132) (a t : Int) : Bool := hasS l a && ((rd_T132 l a).f1 && (if (rd_T46 T a).f3 = 0 then (rd_T132 l a).f2 else if (rd_T46 T a).f3 = 1 then waitsB (l.take a.toNat) (rd_T46 T a).f4 t else false))
def rankI (T : List S46) (l : List S132) (a : Int) : Int := if hasS l a = true then (if (rd_T46 T a).f3 = 2 ∧ (rd_T132 l a).f1 = true then (rd_T46 T a).f5 else a) else -1
def bestP (T : List S46) (l : List S132) : Nat → Int
  | 0 => -1
  | i + 1 => if (hasS l (i : Int) && ((bestP T l i == -1) || decide (rankI T l (i : Int) ≤ rankI T l (bestP T l i)))) = true then (i : Int) else bestP T l i
def chooseF (T : List S46) (l : List S132) (a t : Int) : Int := if keepB T l a t = true then a else bestP T l T.length
def rule_Choose.f (k : Nat) (rl : Int) (T : List S46) (l : List S132) (a t : Int) : Option Int := some (chooseF T l a t)
theorem at132 {w : World} {A : Option Addr} {n : Nat} {l : List S132} (h : Kd.C k132 w A n l) (i : Nat) (hi : i < n) : ∃ ad, A = some ad ∧ ∀ W, BW w W → W.cell? (ad.add (i * 4)) = some (.bool (rd_T132 l (i : Int)).f0) ∧ W.cell? ⟨(ad.add (i * 4)).block, (ad.add (i * 4)).off + 1, none⟩ = some (.bool (rd_T132 l (i : Int)).f1) ∧ W.cell? ⟨(ad.add (i * 4)).block, (ad.add (i * 4)).off + 2, none⟩ = some (.bool (rd_T132 l (i : Int)).f2) ∧ W.cell? ⟨(ad.add (i * 4)).block, (ad.add (i * 4)).off + 3, none⟩ = some (.int .i64 (rd_T132 l (i : Int)).f3) := by
  obtain ⟨ad, rfl, d0, d1, d2, d3⟩ := at_T132 h (i : Int) (by omega) (by omega)
  rw [Int.toNat_natCast] at d0 d1 d2 d3
  exact ⟨ad, rfl, fun W hb => ⟨pw_cell_below hb d0, pw_cell_below hb d1, pw_cell_below hb d2, pw_cell_below hb d3⟩⟩
theorem box132 (w : World) (a b c : Bool) (d : Int) : ∃ W0, w.alloc (.cells #[.bool a, .bool b, .bool c, .int .i64 d] 132) = W0 ∧ BW w W0 ∧ ∃ g, w.heap.size = g ∧ ∀ W, BW W0 W → W.cell? ⟨g, 0, none⟩ = some (.bool a) ∧ W.cell? ⟨g, 1, none⟩ = some (.bool b) ∧ W.cell? ⟨g, 2, none⟩ = some (.bool c) ∧ W.cell? ⟨g, 3, none⟩ = some (.int .i64 d) :=
  ⟨_, rfl, below_alloc (Below.refl _ _) _, _, rfl, fun W h => ⟨pw_cell_below h ((blk_cell (heap_alloc_new w _) 0).trans rfl), pw_cell_below h ((blk_cell (heap_alloc_new w _) 1).trans rfl), pw_cell_below h ((blk_cell (heap_alloc_new w _) 2).trans rfl), pw_cell_below h ((blk_cell (heap_alloc_new w _) 3).trans rfl)⟩⟩
section
variable (w : World) (rl : Int) (A : Option Addr) (c : Nat) (T : List S46) (A1 : Option Addr) (c1 : Nat) (l : List S132)
set_option maxHeartbeats 4000000 in
theorem ruIs_calls (hl : l.length = T.length) (a : Int) (hC : Kd.C k132 w A1 l.length l) : Calls Tryz.prog 86 #[.agg #[.int .i64 rl, .slice A T.length c], .slice A1 l.length c1, .int .i64 a] w (Gives w (.bool (hasS l a))) := by
  have hu24 := Tryz.underlying24
  obtain ⟨W0, e0, hb0, b, eb, cb⟩ := box24 w rl A T.length c
  have hB : BW W0 W0 := BW.rfl' W0
  obtain ⟨r, hr⟩ : ∃ r, hasS l a = r := ⟨_, rfl⟩
  rw [hr]
  unfold hasS at hr
  by_cases h0 : 0 ≤ a
  · have d0 : decide (0 ≤ a) = true := decide_eq_true h0
    by_cases h1 : a < (T.length : Int)
    · have d1 : decide (a < (T.length : Int)) = true := decide_eq_true h1
      obtain ⟨q, rfl⟩ := Int.eq_ofNat_of_zero_le h0
      obtain ⟨ad, rfl, hx⟩ := at132 (Kd.C_below hC hb0) q (by omega)
      have hl1 : (q : Int) < (l.length : Int) := by omega
      rw [d0, decide_eq_true hl1, Bool.true_and, Bool.true_and] at hr
      rw [hr] at hx
      have d2 : decide (q < T.length) = true := decide_eq_true (by omega)
      clear hr
      go_enter Tryz.func86, Tryz.ntmps86
      go_wp2
      go_ret
      exact ⟨rfl, hb0⟩
    · have d1 : decide (a < (T.length : Int)) = false := decide_eq_false h1
      obtain rfl : false = r := by rw [← hr, decide_eq_false (show ¬ a < (l.length : Int) by omega)]; simp
      go_enter Tryz.func86, Tryz.ntmps86
      go_wp2
      go_ret
      exact ⟨rfl, hb0⟩
  · have d0 : decide (0 ≤ a) = false := decide_eq_false h0
    obtain rfl : false = r := by rw [← hr, d0]; rfl
    go_enter Tryz.func86, Tryz.ntmps86
    go_wp2
    go_ret
    exact ⟨rfl, hb0⟩
theorem hasS_in {l : List S132} {a : Int} (h : hasS l a = true) : 0 ≤ a ∧ a < (l.length : Int) ∧ (rd_T132 l a).f0 = true := by
  unfold hasS at h
  rw [Bool.and_eq_true, Bool.and_eq_true] at h
  exact ⟨of_decide_eq_true h.1, of_decide_eq_true h.2.1, h.2.2⟩
set_option maxHeartbeats 4000000 in
set_option maxRecDepth 100000 in
theorem ruRank_calls (hl : l.length = T.length) (a : Int) (hr : Kd.C k46 w A T.length T) (hC : Kd.C k132 w A1 l.length l) : Calls Tryz.prog 87 #[.agg #[.int .i64 rl, .slice A T.length c], .slice A1 l.length c1, .int .i64 a] w (Gives w (.int .i64 (rankI T l a))) := by
  have hu24 := Tryz.underlying24
  obtain ⟨W0, e0, hb0, b, eb, cb⟩ := box24 w rl A T.length c
  have hB : BW W0 W0 := BW.rfl' W0
  replace hC := Kd.C_below hC hb0
  have HI := Aside0.mk (ruIs_calls W0 rl A c T A1 c1 l hl a hC)
  unfold rankI
  cases h : hasS l a with
  | false =>
    rw [h] at HI
    rw [if_neg (by simp)]
    clear hl
    go_enter Tryz.func87, Tryz.ntmps87
    go_wp2_with (go_at_call 86; (with_reducible refine HI.out.mono ?_); rintro e w1 ⟨rfl, hb1⟩)
    go_ret
    exact ⟨rfl, hb0.tr hb1⟩
  | true =>
    rw [h] at HI
    rw [if_pos rfl]
    obtain ⟨h0, h1, _⟩ := hasS_in h
    obtain ⟨q, rfl⟩ := Int.eq_ofNat_of_zero_le h0
    obtain ⟨ad, rfl, hx⟩ := at132 hC q (by omega)
    obtain ⟨ad6, A6, c6, rfl, _, _, hy⟩ := at46 (Kd.C_below hr hb0) q (by omega)
    have d1 : decide ((q : Int) < (T.length : Int)) = true := decide_eq_true (by omega)
    have d2 : decide (q < T.length) = true := decide_eq_true (by omega)
    have d3 : decide ((q : Int) < (l.length : Int)) = true := decide_eq_true (by omega)
    have i0 : 0 ≤ (q : Int) := by omega
    have i1 : (q : Int) < (l.length : Int) := by omega
    have i2 : (q : Int) < (T.length : Int) := by omega
    clear hl hC hr
    generalize rd_T46 T (q : Int) = t at *
    generalize rd_T132 l (q : Int) = x at *
    by_cases m : t.f3 = 2
    · have m' : (t.f3 == 2) = true := by simpa using m
      cases hs : x.f1 with
      | true =>
        rw [if_pos ⟨m, rfl⟩]
        rw [hs] at hx
        go_enter Tryz.func87, Tryz.ntmps87
        go_wp2_with (go_at_call 86; (with_reducible refine HI.out.mono ?_); rintro e w1 ⟨rfl, hb1⟩; have hB1 : BW W0 w1 := hb1)
        go_ret
        exact ⟨rfl, hb0.tr hb1⟩
      | false =>
        rw [if_neg (by simp)]
        rw [hs] at hx
        go_enter Tryz.func87, Tryz.ntmps87
        go_wp2_with (go_at_call 86; (with_reducible refine HI.out.mono ?_); rintro e w1 ⟨rfl, hb1⟩; have hB1 : BW W0 w1 := hb1)
        go_ret
        exact ⟨rfl, hb0.tr hb1⟩
    · have m' : (t.f3 == 2) = false := by simpa using m
      rw [if_neg (fun x => m x.1)]
      go_enter Tryz.func87, Tryz.ntmps87
      go_wp2_with (go_at_call 86; (with_reducible refine HI.out.mono ?_); rintro e w1 ⟨rfl, hb1⟩; have hB1 : BW W0 w1 := hb1)
      go_ret
      exact ⟨rfl, hb0.tr hb1⟩
end
theorem drop132 {l : List S132} {i : Nat} (h : i < l.length) : l.drop i = rd_T132 l (i : Int) :: l.drop (i + 1) := by
  rw [List.drop_eq_getElem_cons h]; unfold rd_T132
  rw [Int.toNat_natCast, List.getD_eq_getElem?_getD, List.getElem?_eq_getElem h]; rfl
set_option maxHeartbeats 4000000 in
set_option maxRecDepth 100000 in
theorem ruWaits_calls (w : World) (A1 : Option Addr) (n c1 : Nat) (l : List S132) (hn : l.length = n) (h8 : n ≤ 8) (q t : Int) (hC : Kd.C k132 w A1 n l) : Calls Tryz.prog 128 #[.slice A1 n c1, .int .i64 q, .int .i64 t] w (Gives w (.bool (waitsB l q t))) := by
  have hu132 := Tryz.underlying132
  have hB : BW w w := BW.rfl' w
  subst hn
  unfold waitsB
  obtain ⟨P, hP⟩ : ∃ P, waitsP l 0 false = P := ⟨_, rfl⟩
  rw [hP]
  replace hP := Aside0.mk (show waitsP (l.drop 0) 0 false = P from hP)
  have HC := Aside0.mk hC
  clear hC
  go_enter Tryz.func128, Tryz.ntmps128
  go_upto_region 4 with fail
  go_loopg [7, 8, 13] (l.length + 1) (fun kq v7 v8 v13 w' => ∃ (i : Nat) (o : Int) (b : Bool), v13 = .int .i64 (i : Int) ∧ v7 = .int .i64 o ∧ v8 = .bool b ∧ Aside0 (kq + i = l.length + 1 ∧ i ≤ l.length) ∧ Aside0 (waitsP (l.drop i) o b = P) ∧ BW w w')
  case atStart => exact ⟨0, 0, false, rfl, rfl, rfl, ⟨by omega, by omega⟩, hP, hB⟩
  case round =>
    clear hP
    obtain ⟨i, o, b, rfl, rfl, rfl, HK, HP, hBi⟩ := hrel
    by_cases hi : i < l.length
    · obtain ⟨ad, rfl, hx⟩ := at132 HC.out i hi
      have hP := HP.out
      rw [drop132 hi, waitsP] at hP
      generalize rd_T132 l (i : Int) = x at *
      obtain ⟨x0, x1, x2, x3⟩ := x
      dsimp only at hx hP
      obtain ⟨W1, q1, hb1, g, qg, cg⟩ := box132 wr x0 x1 x2 x3
      have hB1 := hBi.tr hb1
      have hBB : BW W1 W1 := BW.rfl' W1
      have i0 : 0 ≤ (i : Int) := by omega
      have i1 : (i : Int) < (l.length : Int) := by omega
      have i2 : (i : Int) ≤ 8 := by omega
      have hi' : decide ((i : Int) < (l.length : Int)) = true := decide_eq_true i1
      have HG := Aside0.mk (show gk - 1 + (i + 1) = l.length + 1 ∧ i + 1 ≤ l.length by have := HK.out; omega)
      have HM := Aside0.mk (show gk - 1 < gk by have := HK.out; omega)
      clear HP
      cases x0 with
      | false =>
        have HR := Aside0.mk (show waitsP (l.drop (i + 1)) o b = P by rw [if_neg (by simp)] at hP; exact hP)
        clear hP
        go_upto_region 6 with fail
        clear hx
        go_wp2
        go_roundg (gk - 1)
        case measure => exact HM.out
        case rel => exact ⟨i + 1, o, b, rfl, rfl, rfl, HG, HR, hB1⟩
      | true =>
        cases b with
        | false =>
          have HR := Aside0.mk (show waitsP (l.drop (i + 1)) x3 true = P by rw [if_pos (by simp)] at hP; exact hP)
          clear hP
          go_upto_region 6 with fail
          clear hx
          go_wp2
          go_roundg (gk - 1)
          case measure => exact HM.out
          case rel => exact ⟨i + 1, x3, true, rfl, rfl, rfl, HG, HR, hB1⟩
        | true =>
          by_cases hlt : x3 < o
          · have dl : decide (x3 < o) = true := decide_eq_true hlt
            have HR := Aside0.mk (show waitsP (l.drop (i + 1)) x3 true = P by rw [if_pos (by simpa using hlt)] at hP; exact hP)
            clear hP
            go_upto_region 6 with fail
            clear hx
            go_wp2
            go_roundg (gk - 1)
            case measure => exact HM.out
            case rel => exact ⟨i + 1, x3, true, rfl, rfl, rfl, HG, HR, hB1⟩
          · have dl : decide (x3 < o) = false := decide_eq_false hlt
            have HR := Aside0.mk (show waitsP (l.drop (i + 1)) o true = P by rw [if_neg (by simpa using hlt)] at hP; exact hP)
            clear hP
            go_upto_region 6 with fail
            clear hx
            go_wp2
            go_roundg (gk - 1)
            case measure => exact HM.out
            case rel => exact ⟨i + 1, o, true, rfl, rfl, rfl, HG, HR, hB1⟩
    · have hi' : decide ((i : Int) < (l.length : Int)) = false := decide_eq_false (by omega)
      obtain rfl : (o, b) = P := by have := HP.out; rw [List.drop_eq_nil_of_le (by omega)] at this; exact this
      dsimp only
      obtain ⟨z, hz⟩ : ∃ z, IntKind.i64.wrap (q + o) = z := ⟨_, rfl⟩
      have hz' := Aside0.mk (show wrap64 (q + o) = z by rw [← hz]; exact (IntWalk.i64_left _).symm)
      cases b with
      | false =>
        go_wp2
        go_ret
        exact ⟨rfl, hBi⟩
      | true =>
        go_wp2
        go_ret
        exact ⟨by rw [hz'.out]; rfl, hBi⟩
section
variable (w : World) (rl : Int) (A : Option Addr) (c : Nat) (T : List S46) (A1 : Option Addr) (c1 : Nat) (l : List S132)
set_option maxHeartbeats 4000000 in
set_option maxRecDepth 100000 in
theorem ruHeld_calls (hl : l.length = T.length) (h8 : T.length ≤ 8) (hc1 : l.length ≤ c1) (a t : Int) (hr : Kd.C k46 w A T.length T) (hC : Kd.C k132 w A1 l.length l) : Calls Tryz.prog 85 #[.agg #[.int .i64 rl, .slice A T.length c], .slice A1 l.length c1, .int .i64 a, .int .i64 t] w (Gives w (.bool (keepB T l a t))) := by
  have hu24 := Tryz.underlying24
  obtain ⟨W0, e0, hb0, b, eb, cb⟩ := box24 w rl A T.length c
  have hB : BW W0 W0 := BW.rfl' W0
  replace hC := Kd.C_below hC hb0
  have HI := Aside0.mk (ruIs_calls W0 rl A c T A1 c1 l hl a hC)
  obtain ⟨r, hR⟩ : ∃ r, keepB T l a t = r := ⟨_, rfl⟩
  rw [hR]
  unfold keepB at hR
  cases h : hasS l a with
  | false =>
    rw [h] at HI hR
    obtain rfl : false = r := hR
    clear hl
    go_enter Tryz.func85, Tryz.ntmps85
    go_wp2_with (go_at_call 86; (with_reducible refine HI.out.mono ?_); rintro e w1 ⟨rfl, hb1⟩)
    go_ret
    exact ⟨rfl, hb0.tr hb1⟩
  | true =>
    rw [h] at HI hR
    obtain ⟨h0, h1, _⟩ := hasS_in h
    obtain ⟨q, rfl⟩ := Int.eq_ofNat_of_zero_le h0
    have hq : q < l.length := by omega
    have HW := Aside0.mk (fun (W : World) (hb : BW W0 W) (u : Int) => ruWaits_calls W A1 q c1 (l.take q) (by rw [List.length_take]; omega) (by omega) u t (by have := Kd.C_take (m := q) (Kd.C_below hC hb) (by omega); rw [List.length_take, Nat.min_eq_left (by omega)] at this; exact this))
    obtain ⟨ad, rfl, hx⟩ := at132 hC q (by omega)
    obtain ⟨ad6, A6, c6, rfl, _, _, hy⟩ := at46 (Kd.C_below hr hb0) q (by omega)
    have d1 : decide ((q : Int) < (T.length : Int)) = true := decide_eq_true (by omega)
    have d2 : decide (q < T.length) = true := decide_eq_true (by omega)
    have d3 : decide ((q : Int) < (l.length : Int)) = true := decide_eq_true (by omega)
    have i0 : 0 ≤ (q : Int) := by omega
    have i1 : (q : Int) < (l.length : Int) := by omega
    have i2 : (q : Int) < (T.length : Int) := by omega
    have i3 : (q : Int) ≤ (c1 : Int) := by omega
    have i4 : (q : Int) ≤ (l.length : Int) := by omega
    rw [Int.toNat_natCast] at hR
    clear hC hr hl
    generalize rd_T46 T (q : Int) = u at *
    generalize rd_T132 l (q : Int) = x at *
    cases hs : x.f1 with
    | false =>
      rw [hs] at hx hR
      obtain rfl : false = r := hR
      go_enter Tryz.func85, Tryz.ntmps85
      go_wp2_with (go_at_call 86; (with_reducible refine HI.out.mono ?_); rintro e w1 ⟨rfl, hb1⟩; have hB1 : BW W0 w1 := hb1)
      go_ret
      exact ⟨rfl, hb0.tr hb1⟩
    | true =>
      rw [hs] at hx hR
      by_cases m0 : u.f3 = 0
      · have m' : (u.f3 == 0) = true := by simpa using m0
        rw [if_pos m0] at hR
        replace hR : x.f2 = r := hR
        rw [hR] at hx
        go_enter Tryz.func85, Tryz.ntmps85
        go_wp2_with (go_at_call 86; (with_reducible refine HI.out.mono ?_); rintro e w1 ⟨rfl, hb1⟩; have hB1 : BW W0 w1 := hb1)
        go_ret
        exact ⟨rfl, hb0.tr hb1⟩
      · have m0' : (u.f3 == 0) = false := by simpa using m0
        rw [if_neg m0] at hR
        by_cases m1 : u.f3 = 1
        · have m1' : (u.f3 == 1) = true := by simpa using m1
          rw [if_pos m1] at hR
          replace hR : waitsB (l.take q) u.f4 t = r := hR
          have HW2 := Aside0.mk (fun (W : World) (hb : BW W0 W) => HW.out W hb u.f4)
          rw [hR] at HW2
          clear HW hR
          go_enter Tryz.func85, Tryz.ntmps85
          go_upto_region 7 with (go_at_call 86; (with_reducible refine HI.out.mono ?_); rintro e w1 ⟨rfl, hb1⟩; have hB1 : BW W0 w1 := hb1)
          go_region_held3 (fun W => BW W0 W) (go_simp) ((go_at_call 128; (with_reducible refine (HW2.out _ (by go_simp)).mono ?_); rintro e w2 ⟨rfl, hb2⟩; have hB2 := BW.tr (w := W0) (by go_simp) hb2))
          go_wp2
          go_ret
          exact ⟨rfl, hb0.tr (by go_simp)⟩
        · have m1' : (u.f3 == 1) = false := by simpa using m1
          rw [if_neg m1] at hR
          obtain rfl : false = r := hR
          go_enter Tryz.func85, Tryz.ntmps85
          go_wp2_with (go_at_call 86; (with_reducible refine HI.out.mono ?_); rintro e w1 ⟨rfl, hb1⟩; have hB1 : BW W0 w1 := hb1)
          go_ret
          exact ⟨rfl, hb0.tr hb1⟩
end
section
variable (w : World) (rl : Int) (A : Option Addr) (c : Nat) (T : List S46) (A1 : Option Addr) (c1 : Nat) (l : List S132)
theorem bestP_le (T : List S46) (l : List S132) : ∀ i : Nat, -1 ≤ bestP T l i ∧ bestP T l i < (i : Int)
  | 0 => ⟨by unfold bestP; omega, by unfold bestP; omega⟩
  | i + 1 => by
    have := bestP_le T l i
    unfold bestP
    split <;> omega
set_option maxHeartbeats 8000000 in
set_option maxRecDepth 100000 in
theorem ruChoose_calls (hl : l.length = T.length) (h8 : T.length ≤ 8) (hc1 : l.length ≤ c1) (a t : Int) (hr : Kd.C k46 w A T.length T) (hC : Kd.C k132 w A1 l.length l) : Calls Tryz.prog 51 #[.agg #[.int .i64 rl, .slice A T.length c], .slice A1 l.length c1, .int .i64 a, .int .i64 t] w (Gives w (.int .i64 (chooseF T l a t))) := by
  have hu24 := Tryz.underlying24
  obtain ⟨W0, e0, hb0, b, eb, cb⟩ := box24 w rl A T.length c
  have hB : BW W0 W0 := BW.rfl' W0
  have HI := Aside0.mk (fun (W : World) (hb : BW W0 W) (i : Int) => ruIs_calls W rl A c T A1 c1 l hl i (Kd.C_below (Kd.C_below hC hb0) hb))
  have HR := Aside0.mk (fun (W : World) (hb : BW W0 W) (i : Int) => ruRank_calls W rl A c T A1 c1 l hl i (Kd.C_below (Kd.C_below hr hb0) hb) (Kd.C_below (Kd.C_below hC hb0) hb))
  have HH := Aside0.mk (ruHeld_calls W0 rl A c T A1 c1 l hl h8 hc1 a t (Kd.C_below hr hb0) (Kd.C_below hC hb0))
  clear hl
  unfold chooseF
  cases h : keepB T l a t with
  | true =>
    rw [h] at HH
    rw [if_pos rfl]
    go_enter Tryz.func51, Tryz.ntmps51
    go_wp2_with (go_at_call 85; (with_reducible refine HH.out.mono ?_); rintro e w1 ⟨rfl, hb1⟩)
    go_ret
    exact ⟨rfl, hb0.tr hb1⟩
  | false =>
    rw [h] at HH
    rw [if_neg (by simp)]
    have HB0 := Aside0.mk hb0
    clear hr hC
    go_enter Tryz.func51, Tryz.ntmps51
    go_upto_region 5 with (go_at_call 85; (with_reducible refine HH.out.mono ?_); rintro e w1 ⟨rfl, hb1⟩; have hB1 : BW W0 w1 := hb1)
    clear HH
    go_loopg [9, 20] (T.length + 1) (fun kq v9 v20 w' => ∃ i : Nat, v20 = .int .i64 (i : Int) ∧ v9 = .int .i64 (bestP T l i) ∧ Aside0 (kq + i = T.length + 1 ∧ i ≤ T.length) ∧ BW W0 w')
    case atStart => exact ⟨0, rfl, rfl, ⟨by omega, by omega⟩, hB1⟩
    case round =>
      obtain ⟨i, rfl, rfl, HK, hBi⟩ := hrel
      have HBE := Aside0.mk (bestP_le T l i)
      by_cases hi : i < T.length
      · have i1 : (i : Int) < (T.length : Int) := by omega
        have i2 : (i : Int) ≤ 8 := by omega
        have hi' : decide ((i : Int) < (T.length : Int)) = true := decide_eq_true i1
        have HG := Aside0.mk (show gk - 1 + (i + 1) = T.length + 1 ∧ i + 1 ≤ T.length by have := HK.out; omega)
        have HM := Aside0.mk (show gk - 1 < gk by have := HK.out; omega)
        obtain ⟨z, hz⟩ : ∃ z, bestP T l (i + 1) = z := ⟨_, rfl⟩
        have hz' := hz
        unfold bestP at hz'
        generalize bestP T l i = y at *
        have HII := Aside0.mk (fun (W : World) (hb : BW W0 W) => HI.out W hb (i : Int))
        cases hp : hasS l (i : Int) with
        | false =>
          rw [hp] at HII hz'
          obtain rfl : y = z := by rw [if_neg (by simp)] at hz'; exact hz'
          clear hz'
          go_upto_region 7 with fail
          refine wp_region_held_drew (S := fun W => BW W0 W) (by kernel_rfl) (by go_simp) (fun hHeld => ?_)
          refine wpAnyH_take (i := 1) (v := ?_) rfl (by kernel_rfl) (by kernel_rfl) (by kernel_rfl) (fun _ _ _ h => h) (Or.inl ⟨by rfl, ?_⟩) (by assumption) ?_
          rotate_left
          · intro w hSw; go_simp; try with_reducible rfl
          try simp only [Act.put, List.setIfInBounds_toArray, List.set_cons_zero, List.set_cons_succ]
          refine wpAnyH_take (i := 2) (v := ?_) rfl (by kernel_rfl) (by kernel_rfl) (by kernel_rfl) (fun _ _ _ h => h) (Or.inl ⟨by rfl, ?_⟩) (by assumption) ?_
          rotate_left
          · intro w hSw; go_simp; try with_reducible rfl
          try simp only [Act.put, List.setIfInBounds_toArray, List.set_cons_zero, List.set_cons_succ]
          refine wpAnyH_take (i := 0) (v := ?_) rfl (by kernel_rfl) (by kernel_rfl) (by kernel_rfl) (fun _ _ _ h => h) (Or.inl ⟨by rfl, ?_⟩) (by assumption) ?_
          rotate_left
          · intro w hSw; go_simp; try with_reducible rfl
          try simp only [Act.put, List.setIfInBounds_toArray, List.set_cons_zero, List.set_cons_succ]
          refine wpAnyH_ready (rs := [3]) (by kernel_rfl) (by simp) ?_
          refine AllReadyH.cons rfl (fun K hK => ?_) AllReadyH.nil
          go_simp
          go_at_call 86; (with_reducible refine (HII.out _ hHeld).mono ?_); rintro e w2 ⟨rfl, hb2⟩
          dsimp only
          refine hK.out _ _ (hHeld.tr hb2) (fun hHeld => ?_)
          clear hK K
          try simp only [Act.put, List.setIfInBounds_toArray, List.set_cons_zero, List.set_cons_succ]
          refine wpAnyH_take (i := 4) (v := ?_) rfl (by kernel_rfl) (by kernel_rfl) (by kernel_rfl) (fun _ _ _ h => h) (Or.inl ⟨by rfl, ?_⟩) (by assumption) ?_
          rotate_left
          · intro w hSw; go_simp; try with_reducible rfl
          try simp only [Act.put, List.setIfInBounds_toArray, List.set_cons_zero, List.set_cons_succ]
          refine wpAnyH_take (i := 5) (v := undef) rfl (by kernel_rfl) (by kernel_rfl) (by kernel_rfl) (fun _ _ _ h => h) (Or.inr ⟨by kernel_rfl, rfl⟩) (by assumption) ?_
          try simp only [Act.put, List.setIfInBounds_toArray, List.set_cons_zero, List.set_cons_succ]
          refine wpAnyH_take (i := 6) (v := undef) rfl (by kernel_rfl) (by kernel_rfl) (by kernel_rfl) (fun _ _ _ h => h) (Or.inr ⟨by kernel_rfl, rfl⟩) (by assumption) ?_
          try simp only [Act.put, List.setIfInBounds_toArray, List.set_cons_zero, List.set_cons_succ]
          refine wpAnyH_take (i := 7) (v := undef) rfl (by kernel_rfl) (by kernel_rfl) (by kernel_rfl) (fun _ _ _ h => h) (Or.inr ⟨by kernel_rfl, rfl⟩) (by assumption) ?_
          try simp only [Act.put, List.setIfInBounds_toArray, List.set_cons_zero, List.set_cons_succ]
          refine wpAnyH_take (i := 8) (v := undef) rfl (by kernel_rfl) (by kernel_rfl) (by kernel_rfl) (fun _ _ _ h => h) (Or.inr ⟨by kernel_rfl, rfl⟩) (by assumption) ?_
          try simp only [Act.put, List.setIfInBounds_toArray, List.set_cons_zero, List.set_cons_succ]
          refine wpAnyH_take (i := 9) (v := undef) rfl (by kernel_rfl) (by kernel_rfl) (by kernel_rfl) (fun _ _ _ h => h) (Or.inr ⟨by kernel_rfl, rfl⟩) (by assumption) ?_
          try simp only [Act.put, List.setIfInBounds_toArray, List.set_cons_zero, List.set_cons_succ]
          refine wpAnyH_take (i := 10) (v := undef) rfl (by kernel_rfl) (by kernel_rfl) (by kernel_rfl) (fun _ _ _ h => h) (Or.inr ⟨by kernel_rfl, rfl⟩) (by assumption) ?_
          try simp only [Act.put, List.setIfInBounds_toArray, List.set_cons_zero, List.set_cons_succ]
          refine wpAnyH_take (i := 12) (v := undef) rfl (by kernel_rfl) (by kernel_rfl) (by kernel_rfl) (fun _ _ _ h => h) (Or.inr ⟨by kernel_rfl, rfl⟩) (by assumption) ?_
          try simp only [Act.put, List.setIfInBounds_toArray, List.set_cons_zero, List.set_cons_succ]
          refine wpAnyH_take (i := 13) (v := undef) rfl (by kernel_rfl) (by kernel_rfl) (by kernel_rfl) (fun _ _ _ h => h) (Or.inr ⟨by kernel_rfl, rfl⟩) (by assumption) ?_
          try simp only [Act.put, List.setIfInBounds_toArray, List.set_cons_zero, List.set_cons_succ]
          refine wpAnyH_take (i := 14) (v := undef) rfl (by kernel_rfl) (by kernel_rfl) (by kernel_rfl) (fun _ _ _ h => h) (Or.inr ⟨by kernel_rfl, rfl⟩) (by assumption) ?_
          try simp only [Act.put, List.setIfInBounds_toArray, List.set_cons_zero, List.set_cons_succ]
          refine wpAnyH_ready (rs := [11]) (by kernel_rfl) (by simp) ?_
          refine AllReadyH.cons rfl (fun K hK => ?_) AllReadyH.nil
          go_simp
          refine hK.out _ _ hHeld (fun hHeld => ?_)
          clear hK K
          try simp only [Act.put, List.setIfInBounds_toArray, List.set_cons_zero, List.set_cons_succ]
          refine wpAnyH_ready (rs := [15]) (by kernel_rfl) (by simp) ?_
          refine AllReadyH.cons rfl (fun K hK => ?_) AllReadyH.nil
          go_simp
          refine hK.out _ _ hHeld (fun hHeld => ?_)
          clear hK K
          try simp only [Act.put, List.setIfInBounds_toArray, List.set_cons_zero, List.set_cons_succ]
          refine wpAnyH_take (i := 16) (v := undef) rfl (by kernel_rfl) (by kernel_rfl) (by kernel_rfl) (fun _ _ _ h => h) (Or.inr ⟨by kernel_rfl, rfl⟩) (by assumption) ?_
          try simp only [Act.put, List.setIfInBounds_toArray, List.set_cons_zero, List.set_cons_succ]
          refine wpAnyH_take (i := 17) (v := undef) rfl (by kernel_rfl) (by kernel_rfl) (by kernel_rfl) (fun _ _ _ h => h) (Or.inr ⟨by kernel_rfl, rfl⟩) (by assumption) ?_
          try simp only [Act.put, List.setIfInBounds_toArray, List.set_cons_zero, List.set_cons_succ]
          refine wpAnyH_take (i := 18) (v := ?_) rfl (by kernel_rfl) (by kernel_rfl) (by kernel_rfl) (fun _ _ _ h => h) (Or.inl ⟨by rfl, ?_⟩) (by assumption) ?_
          rotate_left
          · intro w hSw; go_simp; try with_reducible rfl
          try simp only [Act.put, List.setIfInBounds_toArray, List.set_cons_zero, List.set_cons_succ]
          refine wpAnyH_done (by kernel_rfl) ?_ _
          go_wp2
          go_roundg (gk - 1)
          case measure => exact HM.out
          case rel => exact ⟨i + 1, rfl, by rw [hz], HG, by go_simp⟩
        | true =>
          rw [hp] at HII hz'
          by_cases hy : y = -1
          · have hy' : (y == -1) = true := by simpa using hy
            rw [hy'] at hz'
            obtain rfl : (i : Int) = z := by rw [if_pos (by simp)] at hz'; exact hz'
            clear hz'
            go_upto_region 7 with fail
            refine wp_region_held_drew (S := fun W => BW W0 W) (by kernel_rfl) (by go_simp) (fun hHeld => ?_)
            refine wpAnyH_take (i := 1) (v := ?_) rfl (by kernel_rfl) (by kernel_rfl) (by kernel_rfl) (fun _ _ _ h => h) (Or.inl ⟨by rfl, ?_⟩) (by assumption) ?_
            rotate_left
            · intro w hSw; go_simp; try with_reducible rfl
            try simp only [Act.put, List.setIfInBounds_toArray, List.set_cons_zero, List.set_cons_succ]
            refine wpAnyH_take (i := 2) (v := ?_) rfl (by kernel_rfl) (by kernel_rfl) (by kernel_rfl) (fun _ _ _ h => h) (Or.inl ⟨by rfl, ?_⟩) (by assumption) ?_
            rotate_left
            · intro w hSw; go_simp; try with_reducible rfl
            try simp only [Act.put, List.setIfInBounds_toArray, List.set_cons_zero, List.set_cons_succ]
            refine wpAnyH_take (i := 0) (v := ?_) rfl (by kernel_rfl) (by kernel_rfl) (by kernel_rfl) (fun _ _ _ h => h) (Or.inl ⟨by rfl, ?_⟩) (by assumption) ?_
            rotate_left
            · intro w hSw; go_simp; try with_reducible rfl
            try simp only [Act.put, List.setIfInBounds_toArray, List.set_cons_zero, List.set_cons_succ]
            refine wpAnyH_ready (rs := [3]) (by kernel_rfl) (by simp) ?_
            refine AllReadyH.cons rfl (fun K hK => ?_) AllReadyH.nil
            go_simp
            go_at_call 86; (with_reducible refine (HII.out _ hHeld).mono ?_); rintro e w2 ⟨rfl, hb2⟩
            dsimp only
            refine hK.out _ _ (hHeld.tr hb2) (fun hHeld => ?_)
            clear hK K
            try simp only [Act.put, List.setIfInBounds_toArray, List.set_cons_zero, List.set_cons_succ]
            refine wpAnyH_take (i := 4) (v := ?_) rfl (by kernel_rfl) (by kernel_rfl) (by kernel_rfl) (fun _ _ _ h => h) (Or.inl ⟨by rfl, ?_⟩) (by assumption) ?_
            rotate_left
            · intro w hSw; go_simp; try with_reducible rfl
            try simp only [Act.put, List.setIfInBounds_toArray, List.set_cons_zero, List.set_cons_succ]
            refine wpAnyH_take (i := 5) (v := ?_) rfl (by kernel_rfl) (by kernel_rfl) (by kernel_rfl) (fun _ _ _ h => h) (Or.inl ⟨by rfl, ?_⟩) (by assumption) ?_
            rotate_left
            · intro w hSw; go_simp; try with_reducible rfl
            try simp only [Act.put, List.setIfInBounds_toArray, List.set_cons_zero, List.set_cons_succ]
            refine wpAnyH_take (i := 6) (v := ?_) rfl (by kernel_rfl) (by kernel_rfl) (by kernel_rfl) (fun _ _ _ h => h) (Or.inl ⟨by rfl, ?_⟩) (by assumption) ?_
            rotate_left
            · intro w hSw; go_simp; try with_reducible rfl
            try simp only [Act.put, List.setIfInBounds_toArray, List.set_cons_zero, List.set_cons_succ]
            refine wpAnyH_take (i := 7) (v := ?_) rfl (by kernel_rfl) (by kernel_rfl) (by kernel_rfl) (fun _ _ _ h => h) (Or.inl ⟨by rfl, ?_⟩) (by assumption) ?_
            rotate_left
            · intro w hSw; go_simp; try with_reducible rfl
            try simp only [Act.put, List.setIfInBounds_toArray, List.set_cons_zero, List.set_cons_succ]
            refine wpAnyH_take (i := 8) (v := undef) rfl (by kernel_rfl) (by kernel_rfl) (by kernel_rfl) (fun _ _ _ h => h) (Or.inr ⟨by kernel_rfl, rfl⟩) (by assumption) ?_
            try simp only [Act.put, List.setIfInBounds_toArray, List.set_cons_zero, List.set_cons_succ]
            refine wpAnyH_take (i := 9) (v := undef) rfl (by kernel_rfl) (by kernel_rfl) (by kernel_rfl) (fun _ _ _ h => h) (Or.inr ⟨by kernel_rfl, rfl⟩) (by assumption) ?_
            try simp only [Act.put, List.setIfInBounds_toArray, List.set_cons_zero, List.set_cons_succ]
            refine wpAnyH_take (i := 10) (v := undef) rfl (by kernel_rfl) (by kernel_rfl) (by kernel_rfl) (fun _ _ _ h => h) (Or.inr ⟨by kernel_rfl, rfl⟩) (by assumption) ?_
            try simp only [Act.put, List.setIfInBounds_toArray, List.set_cons_zero, List.set_cons_succ]
            refine wpAnyH_take (i := 12) (v := undef) rfl (by kernel_rfl) (by kernel_rfl) (by kernel_rfl) (fun _ _ _ h => h) (Or.inr ⟨by kernel_rfl, rfl⟩) (by assumption) ?_
            try simp only [Act.put, List.setIfInBounds_toArray, List.set_cons_zero, List.set_cons_succ]
            refine wpAnyH_take (i := 13) (v := undef) rfl (by kernel_rfl) (by kernel_rfl) (by kernel_rfl) (fun _ _ _ h => h) (Or.inr ⟨by kernel_rfl, rfl⟩) (by assumption) ?_
            try simp only [Act.put, List.setIfInBounds_toArray, List.set_cons_zero, List.set_cons_succ]
            refine wpAnyH_take (i := 14) (v := undef) rfl (by kernel_rfl) (by kernel_rfl) (by kernel_rfl) (fun _ _ _ h => h) (Or.inr ⟨by kernel_rfl, rfl⟩) (by assumption) ?_
            try simp only [Act.put, List.setIfInBounds_toArray, List.set_cons_zero, List.set_cons_succ]
            refine wpAnyH_ready (rs := [11]) (by kernel_rfl) (by simp) ?_
            refine AllReadyH.cons rfl (fun K hK => ?_) AllReadyH.nil
            go_simp
            refine hK.out _ _ hHeld (fun hHeld => ?_)
            clear hK K
            try simp only [Act.put, List.setIfInBounds_toArray, List.set_cons_zero, List.set_cons_succ]
            refine wpAnyH_ready (rs := [15]) (by kernel_rfl) (by simp) ?_
            refine AllReadyH.cons rfl (fun K hK => ?_) AllReadyH.nil
            go_simp
            refine hK.out _ _ hHeld (fun hHeld => ?_)
            clear hK K
            try simp only [Act.put, List.setIfInBounds_toArray, List.set_cons_zero, List.set_cons_succ]
            refine wpAnyH_take (i := 16) (v := undef) rfl (by kernel_rfl) (by kernel_rfl) (by kernel_rfl) (fun _ _ _ h => h) (Or.inr ⟨by kernel_rfl, rfl⟩) (by assumption) ?_
            try simp only [Act.put, List.setIfInBounds_toArray, List.set_cons_zero, List.set_cons_succ]
            refine wpAnyH_take (i := 17) (v := ?_) rfl (by kernel_rfl) (by kernel_rfl) (by kernel_rfl) (fun _ _ _ h => h) (Or.inl ⟨by rfl, ?_⟩) (by assumption) ?_
            rotate_left
            · intro w hSw; go_simp; try with_reducible rfl
            try simp only [Act.put, List.setIfInBounds_toArray, List.set_cons_zero, List.set_cons_succ]
            refine wpAnyH_take (i := 18) (v := ?_) rfl (by kernel_rfl) (by kernel_rfl) (by kernel_rfl) (fun _ _ _ h => h) (Or.inl ⟨by rfl, ?_⟩) (by assumption) ?_
            rotate_left
            · intro w hSw; go_simp; try with_reducible rfl
            try simp only [Act.put, List.setIfInBounds_toArray, List.set_cons_zero, List.set_cons_succ]
            refine wpAnyH_done (by kernel_rfl) ?_ _
            go_wp2
            go_roundg (gk - 1)
            case measure => exact HM.out
            case rel => exact ⟨i + 1, rfl, by rw [hz], HG, by go_simp⟩
          · have hy' : (y == -1) = false := by simpa using hy
            rw [hy'] at hz'
            have HR1 := Aside0.mk (fun (W : World) (hb : BW W0 W) => HR.out W hb (i : Int))
            have HR2 := Aside0.mk (fun (W : World) (hb : BW W0 W) => HR.out W hb y)
            generalize rankI T l (i : Int) = r1 at HR1 hz'
            generalize rankI T l y = r2 at HR2 hz'
            by_cases hle : r1 ≤ r2
            · have hd : decide (r1 ≤ r2) = true := decide_eq_true hle
              obtain rfl : (i : Int) = z := by rw [if_pos (by simpa using hle)] at hz'; exact hz'
              clear hz'
              go_upto_region 7 with fail
              go_region_held3 (fun W => BW W0 W) (go_simp) ((first | (go_at_call 86; (with_reducible refine (HII.out _ (by go_simp)).mono ?_); rintro e w2 ⟨rfl, hb2⟩; have hB2 := BW.tr (w := W0) (by go_simp) hb2) | (go_at_call 87; (with_reducible refine (HR1.out _ (by go_simp)).mono ?_); rintro e w3 ⟨rfl, hb3⟩; have hB3 := BW.tr (w := W0) (by go_simp) hb3) | (go_at_call 87; (with_reducible refine (HR2.out _ (by go_simp)).mono ?_); rintro e w4 ⟨rfl, hb4⟩; have hB4 := BW.tr (w := W0) (by go_simp) hb4)))
              go_wp2
              go_roundg (gk - 1)
              case measure => exact HM.out
              case rel => exact ⟨i + 1, rfl, by rw [hz], HG, by go_simp⟩
            · have hd : decide (r1 ≤ r2) = false := decide_eq_false hle
              obtain rfl : y = z := by rw [if_neg (by simpa using hle)] at hz'; exact hz'
              clear hz'
              go_upto_region 7 with fail
              go_region_held3 (fun W => BW W0 W) (go_simp) ((first | (go_at_call 86; (with_reducible refine (HII.out _ (by go_simp)).mono ?_); rintro e w2 ⟨rfl, hb2⟩; have hB2 := BW.tr (w := W0) (by go_simp) hb2) | (go_at_call 87; (with_reducible refine (HR1.out _ (by go_simp)).mono ?_); rintro e w3 ⟨rfl, hb3⟩; have hB3 := BW.tr (w := W0) (by go_simp) hb3) | (go_at_call 87; (with_reducible refine (HR2.out _ (by go_simp)).mono ?_); rintro e w4 ⟨rfl, hb4⟩; have hB4 := BW.tr (w := W0) (by go_simp) hb4)))
              go_wp2
              go_roundg (gk - 1)
              case measure => exact HM.out
              case rel => exact ⟨i + 1, rfl, by rw [hz], HG, by go_simp⟩
      · have hi' : decide ((i : Int) < (T.length : Int)) = false := decide_eq_false (by omega)
        obtain rfl : i = T.length := by have := HK.out; omega
        go_wp2
        go_ret
        exact ⟨rfl, HB0.out.tr hBi⟩
theorem rule_Choose.calls (k : Nat) (a0_0 : Int) (A0_1 : Option Addr) (c0_1 : Nat) (l0_1 : List S46) (A1 : Option Addr) (c1 : Nat) (l1 : List S132) (a2 a3 r : Int) (w : World) (hl : l1.length = l0_1.length) (h8 : l0_1.length ≤ 8) (hr0_1 : Kd.C k46 w A0_1 l0_1.length l0_1) (hr1 : Kd.C k132 w A1 l1.length l1) (hc1 : l1.length ≤ c1) (h : rule_Choose.f k a0_0 l0_1 l1 a2 a3 = some r) :
    Calls Tryz.prog 51 #[.agg #[.int .i64 a0_0, .slice A0_1 l0_1.length c0_1], .slice A1 l1.length c1, .int .i64 a2, .int .i64 a3] w fun e w' => e = .returned (.int .i64 r) ∧ Below w.heap.size w w' := by
  obtain rfl := Option.some.inj h
  exact ruChoose_calls w a0_0 A0_1 c0_1 l0_1 A1 c1 l1 hl h8 hc1 a2 a3 hr0_1 hr1
end
end Go.Proofs.YtaofmmnfenlofaaGreatDoor.QTc
namespace Go.Proofs.YtaofmmnfenlofaaGreatDoor.QTc
open Go.RowKit Go.Proofs.YtaofmmnfenlofaaGreatDoorW.PrintWords Go.Proofs.YtaofmmnfenlofaaGreatDoorW.PrintLast Go.Proofs.YtaofmmnfenlofaaGreatDoorW.PrintMore
set_option linter.unusedVariables false
def Who (T : List S46) (l : List S132) (r : Int) : Prop := r = -1 ∨ ∃ i : Nat, r = (i : Int) ∧ i < T.length ∧ hasS l (i : Int) = true
theorem bestP_who (T : List S46) (l : List S132) : ∀ i : Nat, i ≤ T.length → Who T l (bestP T l i)
  | 0, _ => Or.inl rfl
  | i + 1, h => by
    unfold bestP
    split
    · rename_i hc
      rw [Bool.and_eq_true] at hc
      exact Or.inr ⟨i, rfl, by omega, hc.1⟩
    · exact bestP_who T l i (by omega)
theorem choose_some (rl : Int) (T : List S46) (l : List S132) (hl : l.length = T.length) (h8 : T.length ≤ 8) (a t : Int) : ∃ r, rule_Choose.f 20 rl T l a t = some r ∧ Who T l r := by
  refine ⟨_, rfl, ?_⟩
  unfold chooseF
  split
  · rename_i h
    unfold keepB at h
    rw [Bool.and_eq_true] at h
    obtain ⟨h0, h1, _⟩ := hasS_in h.1
    refine Or.inr ⟨a.toNat, by omega, by omega, ?_⟩
    rw [show ((a.toNat : Nat) : Int) = a by omega]; exact h.1
  · exact bestP_who T l T.length (Nat.le_refl _)
end Go.Proofs.YtaofmmnfenlofaaGreatDoor.QTc
namespace Go.Proofs.YtaofmmnfenlofaaGreatDoor.QTc
open Go.RowKit Go.Proofs.YtaofmmnfenlofaaGreatDoorW.PrintWords Go.Proofs.YtaofmmnfenlofaaGreatDoorW.PrintLast Go.Proofs.YtaofmmnfenlofaaGreatDoorW.PrintMore
set_option linter.unusedVariables false
set_option linter.unusedSimpArgs false
def TmOk (l : List S132) (q : Int) : Prop := 0 ≤ q ∧ q ≤ 1000000 ∧ ∀ j : Nat, j < l.length → -1099511627776 ≤ (rd_T132 l (j : Int)).f3 ∧ (rd_T132 l (j : Int)).f3 ≤ 1099511627776
theorem waitsP_x (q t : Int) (hq : 0 ≤ q ∧ q ≤ 1000000) : ∀ (l : List S132) (o : Int) (b : Bool), (∀ x ∈ l, -1099511627776 ≤ x.f3 ∧ x.f3 ≤ 1099511627776) → -1099511627776 ≤ o ∧ o ≤ 1099511627776 →
    (((waitsP l o b).2 && decide (t < wrap64 (q + (waitsP l o b).1))) = true ↔ (b = true ∨ ∃ x ∈ l, x.f0 = true) ∧ (b = true → t < q + o) ∧ ∀ x ∈ l, x.f0 = true → t < q + x.f3)
  | [], o, b, _, ho => by
    unfold waitsP
    rw [IntWalk.wrap64_in _ (by omega)]
    cases b <;> simp
  | x :: l, o, b, hb, ho => by
    have hx := hb x List.mem_cons_self
    have hl := fun y hy => hb y (List.mem_cons_of_mem _ hy)
    unfold waitsP
    by_cases c : (x.f0 && (!b || decide (x.f3 < o))) = true
    · rw [if_pos c, waitsP_x q t hq l x.f3 true hl hx]
      rw [Bool.and_eq_true] at c
      obtain ⟨c1, c2⟩ := c
      constructor
      · rintro ⟨_, g2, g3⟩
        refine ⟨Or.inr ⟨x, List.mem_cons_self, c1⟩, fun hbt => ?_, fun y hy hp => ?_⟩
        · rw [hbt] at c2
          have : x.f3 < o := by simpa using c2
          have := g2 rfl
          omega
        · rcases List.mem_cons.1 hy with rfl | hy
          · exact g2 rfl
          · exact g3 y hy hp
      · rintro ⟨_, _, g3⟩
        exact ⟨Or.inl rfl, fun _ => g3 x List.mem_cons_self c1, fun y hy hp => g3 y (List.mem_cons_of_mem _ hy) hp⟩
    · rw [if_neg c, waitsP_x q t hq l o b hl ho]
      have c' : x.f0 = true → b = true ∧ ¬ x.f3 < o := fun h0 => by
        rw [h0] at c
        cases b with
        | false => simp at c
        | true => exact ⟨rfl, by simpa using c⟩
      constructor
      · rintro ⟨g1, g2, g3⟩
        refine ⟨?_, g2, fun y hy hp => ?_⟩
        · rcases g1 with g | ⟨y, hy, hp⟩
          · exact Or.inl g
          · exact Or.inr ⟨y, List.mem_cons_of_mem _ hy, hp⟩
        · rcases List.mem_cons.1 hy with rfl | hy
          · have := c' hp
            have := g2 this.1
            omega
          · exact g3 y hy hp
      · rintro ⟨g1, g2, g3⟩
        refine ⟨?_, g2, fun y hy hp => g3 y (List.mem_cons_of_mem _ hy) hp⟩
        rcases g1 with g | ⟨y, hy, hp⟩
        · exact Or.inl g
        · rcases List.mem_cons.1 hy with rfl | hy
          · exact Or.inl (c' hp).1
          · exact Or.inr ⟨y, hy, hp⟩
def KeepZ (T : List S46) (l : List S132) (a t : Int) : Prop := hasS l a = true ∧ (rd_T132 l a).f1 = true ∧ (((rd_T46 T a).f3 = 0 ∧ (rd_T132 l a).f2 = true) ∨
  ((rd_T46 T a).f3 = 1 ∧ (∃ x : Nat, (x : Int) < a ∧ (rd_T132 l (x : Int)).f0 = true) ∧ ∀ x : Nat, (x : Int) < a → (rd_T132 l (x : Int)).f0 = true → t < (rd_T46 T a).f4 + (rd_T132 l (x : Int)).f3))
theorem mem_take132 {l : List S132} {n : Nat} (hn : n ≤ l.length) (x : S132) : x ∈ l.take n ↔ ∃ j : Nat, j < n ∧ rd_T132 l (j : Int) = x := by
  constructor
  · intro h
    obtain ⟨j, hj, rfl⟩ := List.mem_iff_getElem.1 h
    rw [List.length_take] at hj
    refine ⟨j, by omega, ?_⟩
    unfold rd_T132
    rw [Int.toNat_natCast, List.getD_eq_getElem?_getD, List.getElem?_eq_getElem (by omega), List.getElem_take]; rfl
  · rintro ⟨j, hj, rfl⟩
    refine List.mem_iff_getElem.2 ⟨j, by rw [List.length_take]; omega, ?_⟩
    unfold rd_T132
    rw [Int.toNat_natCast, List.getD_eq_getElem?_getD, List.getElem?_eq_getElem (by omega), List.getElem_take]; rfl
theorem keep_x (T : List S46) (l : List S132) (hl : l.length = T.length) (a t : Int) (hq : ∀ x, hasS l x = true → (rd_T46 T x).f3 = 1 → TmOk l (rd_T46 T x).f4) : keepB T l a t = true ↔ KeepZ T l a t := by
  unfold keepB KeepZ
  rw [Bool.and_eq_true, Bool.and_eq_true]
  refine and_congr_right fun h => and_congr_right fun _ => ?_
  by_cases m0 : (rd_T46 T a).f3 = 0
  · rw [if_pos m0]
    exact ⟨fun x => Or.inl ⟨m0, x⟩, fun x => x.elim (fun y => y.2) (fun y => absurd m0 (by rw [y.1]; decide))⟩
  · rw [if_neg m0]
    by_cases m1 : (rd_T46 T a).f3 = 1
    · rw [if_pos m1]
      obtain ⟨h0, h1, _⟩ := hasS_in h
      obtain ⟨n, rfl⟩ := Int.eq_ofNat_of_zero_le h0
      have hq' := hq _ h m1
      have hn : n ≤ l.length := by omega
      rw [Int.toNat_natCast]
      unfold waitsB
      rw [waitsP_x _ t ⟨hq'.1, hq'.2.1⟩ _ 0 false (fun x hx => by
        obtain ⟨j, hj, rfl⟩ := (mem_take132 hn x).1 hx
        exact hq'.2.2 j (by omega)) (by omega)]
      constructor
      · rintro ⟨g1, _, g3⟩
        refine Or.inr ⟨m1, ?_, fun j hj hp => g3 _ ((mem_take132 hn _).2 ⟨j, by omega, rfl⟩) hp⟩
        rcases g1 with g | ⟨x, hx, hp⟩
        · cases g
        · obtain ⟨j, hj, rfl⟩ := (mem_take132 hn x).1 hx
          exact ⟨j, by omega, hp⟩
      · rintro (g | ⟨_, ⟨j, hj, hp⟩, g3⟩)
        · omega
        · refine ⟨Or.inr ⟨_, (mem_take132 hn _).2 ⟨j, by omega, rfl⟩, hp⟩, fun x => (by cases x), fun x hx hp => ?_⟩
          obtain ⟨k, hk, rfl⟩ := (mem_take132 hn x).1 hx
          exact g3 k (by omega) hp
    · rw [if_neg m1]
      exact ⟨fun x => (by cases x), fun x => by rcases x with x | x <;> omega⟩
def rankZ (T : List S46) (l : List S132) (a : Int) : Int := if (rd_T46 T a).f3 = 2 ∧ (rd_T132 l a).f1 = true then (rd_T46 T a).f5 else a
theorem rankI_z {T : List S46} {l : List S132} {a : Int} (h : hasS l a = true) : rankI T l a = rankZ T l a := if_pos h
def BestZ (T : List S46) (l : List S132) (i : Nat) (x : Int) : Prop := (x = -1 ∧ ∀ j : Nat, j < i → hasS l (j : Int) = false) ∨ (∃ n : Nat, x = (n : Int) ∧ n < i ∧ hasS l x = true ∧ ∀ j : Nat, j < i → hasS l (j : Int) = true → rankZ T l x ≤ rankZ T l (j : Int) ∧ (rankZ T l (j : Int) = rankZ T l x → (j : Int) ≤ x))
theorem best_x (T : List S46) (l : List S132) : ∀ i : Nat, BestZ T l i (bestP T l i)
  | 0 => Or.inl ⟨rfl, fun j hj => absurd hj (Nat.not_lt_zero _)⟩
  | i + 1 => by
    have ih := best_x T l i
    have split2 : ∀ j : Nat, j < i + 1 → j = i ∨ j < i := fun j hj => by omega
    unfold bestP
    generalize bestP T l i = x at *
    by_cases c : (hasS l (i : Int) && ((x == -1) || decide (rankI T l (i : Int) ≤ rankI T l x))) = true
    · rw [if_pos c]
      rw [Bool.and_eq_true] at c
      obtain ⟨hi, c2⟩ := c
      refine Or.inr ⟨i, rfl, by omega, hi, fun j hj hp => ?_⟩
      rcases split2 j hj with rfl | hj
      · exact ⟨Int.le_refl _, fun _ => Int.le_refl _⟩
      · rcases ih with ⟨rfl, h0⟩ | ⟨n, rfl, hn, hxp, hbest⟩
        · rw [h0 j hj] at hp; cases hp
        · have hle : rankZ T l (i : Int) ≤ rankZ T l (n : Int) := by
            rw [Bool.or_eq_true] at c2
            rcases c2 with c2 | c2
            · have := beq_iff_eq.mp c2
              omega
            · rw [rankI_z hi, rankI_z hxp] at c2; exact of_decide_eq_true c2
          have := hbest j hj hp
          exact ⟨by omega, fun _ => by omega⟩
    · rw [if_neg c]
      by_cases hi : hasS l (i : Int) = true
      · rcases ih with ⟨rfl, h0⟩ | ⟨n, rfl, hn, hxp, hbest⟩
        · rw [hi] at c; simp at c
        · have hle : ¬ rankZ T l (i : Int) ≤ rankZ T l (n : Int) := fun h => c (by
            rw [hi, rankI_z hi, rankI_z hxp, decide_eq_true h]; simp)
          refine Or.inr ⟨n, rfl, by omega, hxp, fun j hj hp => ?_⟩
          rcases split2 j hj with rfl | hj
          · exact ⟨by omega, fun _ => by omega⟩
          · exact hbest j hj hp
      · rcases ih with ⟨rfl, h0⟩ | ⟨n, rfl, hn, hxp, hbest⟩
        · refine Or.inl ⟨rfl, fun j hj => ?_⟩
          rcases split2 j hj with rfl | hj
          · simpa using hi
          · exact h0 j hj
        · refine Or.inr ⟨n, rfl, by omega, hxp, fun j hj hp => ?_⟩
          rcases split2 j hj with rfl | hj
          · exact absurd hp hi
          · exact hbest j hj hp
theorem choose_x (rl : Int) (T : List S46) (l : List S132) (hl : l.length = T.length) (h8 : T.length ≤ 8) (a t r : Int) (hq : ∀ x, hasS l x = true → (rd_T46 T x).f3 = 1 → TmOk l (rd_T46 T x).f4) (h : rule_Choose.f 20 rl T l a t = some r) :
    (r = a ∧ KeepZ T l a t) ∨ (¬ KeepZ T l a t ∧ BestZ T l T.length r) := by
  obtain rfl := Option.some.inj h
  unfold chooseF
  by_cases hk : keepB T l a t = true
  · rw [if_pos hk]
    exact Or.inl ⟨rfl, (keep_x T l hl a t hq).1 hk⟩
  · rw [if_neg hk]
    exact Or.inr ⟨fun x => hk ((keep_x T l hl a t hq).2 x), best_x T l T.length⟩
end Go.Proofs.YtaofmmnfenlofaaGreatDoor.QTc
namespace Go.Proofs.YtaofmmnfenlofaaGreatDoor.QTc
open Go.RowKit Go.Proofs.YtaofmmnfenlofaaGreatDoorW.PrintWords Go.Proofs.YtaofmmnfenlofaaGreatDoorW.PrintLast Go.Proofs.YtaofmmnfenlofaaGreatDoorW.PrintMore Go.Proofs.YtaofmmnfenlofaaGreatDoor.Pure
set_option linter.unusedVariables false
set_option linter.unusedSimpArgs false
theorem cell_far3 {w9 : World} {ob o1 o2 o3 : Nat} {u1 u2 u3 : Value} {p : Addr} (h : p.block ≠ ob) : (((w9.setCell ⟨ob, o1, none⟩ u1).setCell ⟨ob, o2, none⟩ u2).setCell ⟨ob, o3, none⟩ u3).cell? p = w9.cell? p := by
  rw [cell_far (p := ⟨ob, o3, none⟩) h, cell_far (p := ⟨ob, o2, none⟩) h, cell_far (p := ⟨ob, o1, none⟩) h]
theorem nil_C (w : World) : Kd.C (Kd.int .i64) w none ([] : List Int).length [] := ⟨rfl, by simp, fun h => absurd h (by simp)⟩
theorem jNew_nil (w : World) (ad : Addr) (c : Nat) (rg : List Int) (hr : Kd.C (Kd.int .i64) w (some ad) rg.length rg) (hc : rg.length ≤ c) (h1 : 1 ≤ rg.length) (h8 : rg.length ≤ 8) (ho : rg.any oddTime = false) :
    Calls Tryz.prog 84 #[.slice (some ad) rg.length c, .slice none 0 0] w fun e w' => ∃ jb, e = .returned (.pointer (some ⟨jb, 0, none⟩)) ∧ w.heap.size ≤ jb ∧ JobIs w.heap.size w' jb ⟨rg, demL rg [], 0, 0, 0⟩ ∧ Below w.heap.size w w' :=
  jNew_calls w ad c rg none 0 [] hr hc (nil_C w) h1 h8 ho
set_option maxHeartbeats 16000000 in
set_option maxRecDepth 100000 in
theorem arrive_calls (B0 : Bs) (w : World) (g : Nat) (rl : Int) (T : List S46) (L : KL) (K : KS) (ev : Value) (s : Nat) (AD : Option Addr) (cD : Nat) (D : List (List Int)) (tou : Int) (hTw : TabW w) (h : KInv B0 w g rl T L K ev none) (hB0 : B0.e ≤ w.heap.size) (hlen : K.evs.length ≤ 100)
    (hs : s < 18446744073709551616) (hD : ∀ W, KpT B0 w W TsAll → Kd.C (Kd.slice 2 (Kd.int .i64)) W AD D.length D) (htick : 0 ≤ K.tick) (hodd : ∀ t ∈ T, 1 ≤ t.f6.length ∧ t.f6.length ≤ 8 ∧ t.f6.any oddTime = false) :
    Calls Tryz.prog 50 #[.pointer (some ⟨g, 0, none⟩), .agg #[.int .u64 (s : Int), .slice AD D.length cD, .int .u64 tou]] w (APost B0 w g rl T L (arriveA T D (listFrom s 64 0) K.abs)) := by
  obtain ⟨tv, pb, wb, cb, tb, sb, ob⟩ := L
  obtain ⟨A, c, rfl⟩ := Kd.R_slice h.tasks
  obtain ⟨k0, hk0⟩ := blist_ev hs
  have hk := hk0 k0 (Nat.le_refl _)
  have hm := list_mem s 64 0
  have hll := listFrom_le s 64 0
  generalize listFrom s 64 0 = l at hk hm hll ⊢
  have HI := Aside0.mk h
  have HL := Aside0.mk hlen
  have HB0 := Aside0.mk hB0
  have HD := Aside0.mk hD
  have HM := Aside0.mk hm
  have HT := Aside0.mk hTw
  have HTK := Aside0.mk htick
  have HODD := Aside0.mk hodd
  have h8 := h.n8
  have hml : D.length ≤ 9223372036854775807 := (hD w (KpT.refl _ _ _)).2.1
  clear h hlen hB0 hk0 hD hm hTw htick hodd
  generalize hr : arriveA T D l K.abs = R
  replace hr := Aside0.mk hr
  go_enter Tryz.func50, Tryz.ntmps50
  go_wp2_with (go_at_call 80; (with_reducible refine (bits_List.calls k0 _ l _ ?sideT hk).mono ?_); (case sideT => exact TabW.below HT.out (Below.alloc (Below.refl _ _) (Nat.le_refl _) _)); rintro e w1 ⟨v0, rfl, ho, hb⟩; obtain ⟨Ao, co, eo⟩ := Kd.R_slice ho; subst eo)
  have hbx : w1.heap[w.heap.size]? = some (.cells #[.int .u64 (s : Int), .slice AD D.length cD, .int .u64 tou] 52 (0, 0)) := (hb.block _ (by simp)).trans (heap_alloc_new w _)
  have hB1 : Below w.heap.size w w1 := (Below.alloc (Below.refl _ _) (Nat.le_refl _) _).trans (hb.mono (by simp))
  have HO := Aside0.mk ho
  have HBX := Aside0.mk hbx
  have HB1 := Aside0.mk hB1
  clear ho hb hbx hB1 hk
  go_loopg [5, 11] (l.length + 1) (fun kq v5 v11 w' => ∃ (j : Nat) (K' : KS) (ev' : Value), kq + j = l.length + 1 ∧ v11 = .int .i64 (j : Int) ∧ j ≤ l.length ∧ Aside0 (arriveA T D (l.drop j) K'.abs = R) ∧ Aside0 (K'.evs.length ≤ K.evs.length + j ∧ K'.tick = K.tick) ∧ KInv B0 w' g rl T ⟨.slice A T.length c, pb, wb, cb, tb, sb, ob⟩ K' ev' none ∧ KpT B0 w1 w' TsAll)
  case atStart => exact ⟨0, K, ev, by omega, rfl, by omega, ⟨by rw [List.drop_zero]; exact hr.out⟩, ⟨Nat.le_refl _, rfl⟩, HI.out.below HB1.out, KpT.refl _ _ _⟩
  case round =>
    clear HI hr
    obtain ⟨j, K', ev', hq, rfl, hj, hR, hE, hI, hK⟩ := hrel
    cases gk with
    | zero => exfalso; omega
    | succ k1 =>
    by_cases hlt : j < l.length
    · have hlt1 : decide ((j : Int) < (l.length : Int)) = true := decide_eq_true (by omega)
      have j0 : 0 ≤ (j : Int) := by omega
      have j1 : (j : Int) < (l.length : Int) := by omega
      have hx := HM.out (rd l (j : Int)) (List.mem_of_mem_drop (i := j) (by rw [rd_drop hlt]; exact List.mem_cons_self))
      have hR2 := hR.out
      rw [rd_drop hlt, arriveA] at hR2
      obtain ⟨ao, eao, hxo⟩ := Kd.at_int (Kd.R_reads' (hK.row HO.out (fun q hq => by rw [List.mem_singleton.mp hq]; decide))).2.2 (j : Int) j0 j1
      cases eao
      rw [Int.toNat_natCast] at hxo
      generalize rd l (j : Int) = x at hx hxo hR2
      obtain ⟨i, rfl⟩ := Int.eq_ofNat_of_zero_le hx.1
      have hBX := hK.blk HBX.out (by decide)
      have x1 : wr.cell? ⟨w.heap.size, 1, none⟩ = some (.slice AD D.length cD) := blk_cell hBX 1
      have k1_ : wr.cell? ⟨g, 1, none⟩ = some (.slice A T.length c) := blk_cell hI.ker 1
      have k2 : wr.cell? ⟨g, 2, none⟩ = some (.int .i64 K'.tick) := blk_cell hI.ker 2
      have k4 : wr.cell? ⟨g, 4, none⟩ = some (.pointer (some ⟨pb, 0, none⟩)) := blk_cell hI.ker 4
      have k6 : wr.cell? ⟨g, 6, none⟩ = some (.pointer (some ⟨tb, 0, none⟩)) := blk_cell hI.ker 6
      have k7 : wr.cell? ⟨g, 7, none⟩ = some (.slice (some ⟨ob, 0, none⟩) T.length T.length) := blk_cell hI.ker 7
      have hglt := blk_lt hI.ker
      replace hBX := Aside0.mk hBX
      have HI := Aside0.mk hI
      have HK := Aside0.mk hK
      clear hI hK hR
      by_cases hge : (i : Int) ≥ (T.length : Int)
      · have e1 : decide ((i : Int) ≥ (T.length : Int)) = true := decide_eq_true hge
        have e1' : decide (i ≥ T.length) = true := decide_eq_true (by omega)
        have hst := Aside0.mk (show arriveA T D (l.drop (j + 1)) K'.abs = R by rw [← hR2]; unfold arrive1; rw [if_pos hge])
        clear hR2 hge
        go_wp2
        go_roundg k1
        case measure => exact Nat.lt_succ_self _
        case rel => exact ⟨j + 1, K', ev', by omega, by rw [show ((j : Int) + 1) = ((j + 1 : Nat) : Int) by omega], by omega, hst, ⟨by have := hE.out.1; omega, hE.out.2⟩, by repeat (first | exact HI.out | apply KInv.drewN | apply KInv.drew), by repeat (first | exact HK.out | apply KpT.drewN | apply KpT.drew)⟩
      · have e1 : decide ((i : Int) ≥ (T.length : Int)) = false := decide_eq_false hge
        have e1' : decide (i ≥ T.length) = false := decide_eq_false (by omega)
        have hin : i < T.length := by omega
        have hwl : i < K'.wat.length := by rw [HI.out.lw]; exact hin
        have hwx : K'.wat[i]? = some (K'.wat.getD i zW) := by rw [List.getD_eq_getElem?_getD, List.getElem?_eq_getElem hwl]; rfl
        have hR3 : arriveA T D (l.drop (j + 1)) (if earlyW (K'.wat.getD i zW) K'.tick = true then K'.abs.note 2 (i : Int) 1 else if hasS K'.st (i : Int) = true then K'.abs.note 2 (i : Int) 2 else { K'.abs with wat := K'.wat.set i ⟨(K'.wat.getD i zW).period, K'.tick, true⟩, st := K'.st.set i ⟨true, false, false, K'.tick⟩, loads := K'.abs.loads.set i 0, had := K'.abs.had.set i 0, job := K'.job.set i ⟨(rd_T46 T (i : Int)).f6, demL (rd_T46 T (i : Int)).f6 (if (i : Int) < (D.length : Int) then D.getD i [] else []), 0, 0, 0⟩, evs := K'.evs ++ [⟨K'.tick, 1, (i : Int), 0⟩] }) = R := by
          rw [← hR2]; unfold arrive1; rw [if_neg hge]; rfl
        clear hR2 hge
        have HE := Aside0.mk (fun m => Early_calls (wr.drewN m) pb wb K'.wat i (K'.wat.getD i zW) K'.tick (HI.out.drewN m).pol hwx)
        by_cases hea : earlyW (K'.wat.getD i zW) K'.tick = true
        · rw [if_pos hea] at hR3
          have HR3 := Aside0.mk hR3
          rw [hea] at HE
          clear hR3 hea
          go_wp2
          go_quiet ((go_at_call 81; exact quiet_d (HE.out _)))
          go_wp2_with (go_at_call 53; (with_reducible refine (notes_calls B0 _ g rl T ⟨.slice A T.length c, pb, wb, cb, tb, sb, ob⟩ K' ev' none 2 (i : Int) 1 ?sideI ?sideB ?sideL).mono ?_); (case sideI => repeat (first | exact HI.out | apply KInv.drewN | apply KInv.drew)); (case sideB => (try simp); have := HK.out.size; have := HB1.out.size; have := HB0.out; omega); (case sideL => have := hE.out.1; have := HL.out; omega); rintro e w6 ⟨rfl, ⟨ev2, hi6⟩, hk6⟩; have H6 := Aside0.mk hi6; have HK6 := Aside0.mk hk6; clear hi6 hk6)
          go_roundg k1
          case measure => exact Nat.lt_succ_self _
          case rel => exact ⟨j + 1, K'.note 2 (i : Int) 1, ev2, by omega, by rw [show ((j : Int) + 1) = ((j + 1 : Nat) : Int) by omega], by omega, ⟨by rw [abs_note]; exact HR3.out⟩, ⟨by have := hE.out.1; unfold KS.note; dsimp only; rw [List.length_append, List.length_singleton]; omega, hE.out.2⟩, H6.out, (HK.out.drewN _).trans (HK6.out.mono (by decide))⟩
        · rw [if_neg hea] at hR3
          rw [Bool.eq_false_iff.mpr hea] at HE
          have HEA := Aside0.mk (Bool.eq_false_iff.mpr hea)
          clear hea
          have hil : i < K'.st.length := by rw [HI.out.ls]; exact hin
          by_cases hp : hasS K'.st (i : Int) = true
          · rw [if_pos hp] at hR3
            have HR3 := Aside0.mk hR3
            have HP := Aside0.mk (fun m => Put_no (wr.drewN m) tb sb K'.st i K'.tick (HI.out.drewN m).tab hil hp)
            clear hR3 hp
            go_wp2
            go_quiet ((go_at_call 81; exact quiet_d (HE.out _)))
            go_wp2
            go_quiet ((go_at_call 82; exact quiet_add_d (HP.out _)))
            go_wp2_with (go_at_call 53; (with_reducible refine (notes_calls B0 _ g rl T ⟨.slice A T.length c, pb, wb, cb, tb, sb, ob⟩ K' ev' none 2 (i : Int) 2 ?sideI ?sideB ?sideL).mono ?_); (case sideI => repeat (first | exact HI.out | apply KInv.drewN | apply KInv.drew)); (case sideB => (try simp); have := HK.out.size; have := HB1.out.size; have := HB0.out; omega); (case sideL => have := hE.out.1; have := HL.out; omega); rintro e w6 ⟨rfl, ⟨ev2, hi6⟩, hk6⟩; have H6 := Aside0.mk hi6; have HK6 := Aside0.mk hk6; clear hi6 hk6)
            go_roundg k1
            case measure => exact Nat.lt_succ_self _
            case rel => exact ⟨j + 1, K'.note 2 (i : Int) 2, ev2, by omega, by rw [show ((j : Int) + 1) = ((j + 1 : Nat) : Int) by omega], by omega, ⟨by rw [abs_note]; exact HR3.out⟩, ⟨by have := hE.out.1; unfold KS.note; dsimp only; rw [List.length_append, List.length_singleton]; omega, hE.out.2⟩, H6.out, (HK.out.drewN _).trans (HK6.out.mono (by decide))⟩
          · rw [if_neg hp] at hR3
            have HR3 := Aside0.mk hR3
            have HPN := Aside0.mk (Bool.eq_false_iff.mpr hp)
            clear hR3 hp
            go_wp2
            go_quiet ((go_at_call 81; exact quiet_d (HE.out _)))
            go_wp2
            generalize hwz : wr.drewN _ = wz
            have HIz := Aside0.mk (show KInv B0 wz g rl T ⟨.slice A T.length c, pb, wb, cb, tb, sb, ob⟩ K' ev' none by rw [← hwz]; exact HI.out.drewN _)
            have HKz := Aside0.mk (show KpT B0 w1 wz TsAll by rw [← hwz]; exact HK.out.drewN _)
            have z1 : wz.cell? ⟨w.heap.size, 1, none⟩ = some (.slice AD D.length cD) := by rw [← hwz]; exact x1
            have z2 : wz.cell? ⟨g, 2, none⟩ = some (.int .i64 K'.tick) := blk_cell HIz.out.ker 2
            have z6 : wz.cell? ⟨g, 6, none⟩ = some (.pointer (some ⟨tb, 0, none⟩)) := blk_cell HIz.out.ker 6
            clear hwz x1 k1_ k2 k4 k6 k7 hxo
            go_still_tail 9, (by kernel_rfl)
            change wpList _ _ _ _ _ wz.drew
            generalize hwy : wz.drew = wy
            have HIy := Aside0.mk (show KInv B0 wy g rl T ⟨.slice A T.length c, pb, wb, cb, tb, sb, ob⟩ K' ev' none by rw [← hwy]; exact HIz.out.drew)
            have HKy := Aside0.mk (show KpT B0 w1 wy TsAll by rw [← hwy]; exact HKz.out.drew)
            have HIy_lw := Aside0.mk HIy.out.lw
            have HPy := Aside0.mk (Put_yes wy tb sb K'.st i K'.tick HIy.out.tab hil HPN.out)
            clear hwy HIz HKz z1 z2 z6
            go_wp2_with (go_at_call 82; (with_reducible refine HPy.out.mono ?_); rintro e w6 ⟨rfl, ht6, hk6⟩; have HT6 := Aside0.mk ht6; have HK6 := Aside0.mk (KpT.one hk6 HIy.out.tab.row.choose_spec.1 HIy.out.ge.2.2.2.1); clear ht6 hk6)
            have HI6 := Aside0.mk (HIy.out.setTab HK6.out HT6.out (by rw [List.length_set]; exact HIy.out.ls) (X' := some i) (fun i2 h2 hx => ⟨by simp, fun hp => by rw [rdS_set_ne (fun x => hx (by rw [x]))] at hp; exact hp⟩))
            have HB6 := Aside0.mk ((HKy.out.trans (HK6.out.mono (by decide))).size)
            go_wp2_with (go_at_call 53; (with_reducible refine (notes_calls B0 _ g rl T ⟨.slice A T.length c, pb, wb, cb, tb, sb, ob⟩ { K' with st := K'.st.set i ⟨true, false, false, K'.tick⟩ } ev' (some i) 1 (i : Int) 0 ?sideI ?sideB ?sideL).mono ?_); (case sideI => exact HI6.out); (case sideB => have := HB6.out; have := HB1.out.size; have := HB0.out; omega); (case sideL => have := hE.out.1; have := HL.out; show K'.evs.length ≤ _; omega); rintro e w7 ⟨rfl, ⟨ev7, hi6⟩, hk6⟩; have H7 := Aside0.mk hi6; have HK7 := Aside0.mk hk6; clear hi6 hk6)
            have y2 : w7.cell? ⟨g, 2, none⟩ = some (.int .i64 K'.tick) := blk_cell H7.out.ker 2
            have y4 : w7.cell? ⟨g, 4, none⟩ = some (.pointer (some ⟨pb, 0, none⟩)) := blk_cell H7.out.ker 4
            go_still_tail 9, (by kernel_rfl)
            change wpList _ _ _ _ _ w7.drew
            generalize hwu : w7.drew = wu
            have HIu := Aside0.mk (show KInv B0 wu g rl T ⟨.slice A T.length c, pb, wb, cb, tb, sb, ob⟩ (({ K' with st := K'.st.set i ⟨true, false, false, K'.tick⟩ } : KS).note 1 (i : Int) 0) ev7 (some i) by rw [← hwu]; exact H7.out.drew)
            have HKu := Aside0.mk (show KpT B0 w1 wu TsAll by rw [← hwu]; exact ((HKy.out.trans (HK6.out.mono (by decide))).trans (HK7.out.mono (by decide))).drew)
            have HN := Aside0.mk (Note_calls wu pb wb K'.wat i (K'.wat.getD i zW) K'.tick HIu.out.pol hwx (by rw [hE.out.2]; exact HTK.out) HEA.out)
            clear hwu y2 y4 H7 HK7 HI6 HK6 HT6 HIy HKy
            go_upto_region 7 with (go_at_call 83; (with_reducible refine HN.out.mono ?_); rintro e w8 ⟨rfl, ht8, hk8⟩; have HT8 := Aside0.mk ht8; have HK8 := Aside0.mk (KpT.one hk8 HIu.out.pol.row.choose_spec.1 HIu.out.ge.2.1); clear ht8 hk8)
            have HKv := Aside0.mk (HKu.out.trans (HK8.out.mono (by decide)))
            have HIv := Aside0.mk (HIu.out.setPol HK8.out HT8.out (by rw [List.length_set]; exact HIy_lw.out))
            have HBv := Aside0.mk (show B0.b ≤ w8.heap.size by have := B0.le; have := HKv.out.size; have := HB1.out.size; have := HB0.out; omega)
            have v1_ : w8.cell? ⟨w.heap.size, 1, none⟩ = some (.slice AD D.length cD) := blk_cell (HKv.out.blk HBX.out (by decide)) 1
            have v1k : w8.cell? ⟨g, 1, none⟩ = some (.slice A T.length c) := blk_cell HIv.out.ker 1
            have v7 : w8.cell? ⟨g, 7, none⟩ = some (.slice (some ⟨ob, 0, none⟩) T.length T.length) := blk_cell HIv.out.ker 7
            clear HIu HKu HT8 HK8 HN
            by_cases hd : i < D.length
            · have d1 : decide ((i : Int) < (D.length : Int)) = true := decide_eq_true (by omega)
              have d2 : decide (i < D.length) = true := decide_eq_true hd
              have i0 : 0 ≤ (i : Int) := by omega
              have i1 : (i : Int) < (D.length : Int) := by omega
              obtain ⟨adD, cs, rfl, _, ⟨Ad, cd, rfl, hld, hCd⟩, hcell⟩ := Kd.C_get (HD.out w8 ((KpT.of_below HB1.out _).trans HKv.out)) [] (i : Int) i0 i1
              have xd : w8.cell? (adD.add i) = some (.slice Ad (D.getD i []).length cd) := by
                have := hcell 0 _ rfl
                rw [Int.toNat_natCast] at this
                simpa [Kd.slice] using this
              rw [Int.toNat_natCast] at hld hCd
              have hr4 := HR3.out
              rw [if_pos i1] at hr4
              clear hcell
              generalize D.getD i [] = dm at xd hld hCd hr4
              have HCd := Aside0.mk hCd
              have HR4 := Aside0.mk hr4
              clear hld hCd hr4
              go_wp2
              obtain ⟨At, ct, et, hlt2, hCt⟩ := Kd.R_reads HIv.out.tasks
              have eA1 : At = A := by cases et; rfl
              rw [eA1] at hCt
              clear et eA1 hlt2
              obtain ⟨adt, A6, c6, eA, _, _, _, _, _, _, t6, _, _, hl6, hC6⟩ := at_T46 hCt (i : Int) (by omega) (by omega)
              subst eA
              rw [Int.toNat_natCast] at t6
              have hmem : rd_T46 T (i : Int) ∈ T := by
                unfold rd_T46
                rw [Int.toNat_natCast, List.getD_eq_getElem?_getD, List.getElem?_eq_getElem hin]; exact List.getElem_mem hin
              obtain ⟨hd1, hd8, hdo⟩ := HODD.out _ hmem
              generalize rd_T46 T (i : Int) = t at t6 hl6 hC6 hd1 hd8 hdo HR4
              obtain ⟨a6, rfl, _⟩ := Kd.at_int hC6 0 (by omega) (by omega)
              have hol : i < K'.own.length := Nat.lt_of_lt_of_eq hin HIv.out.lo.symm
              have o0 : w8.cell? ⟨ob, i * 3, none⟩ = _ := HIv.out.own.cell (i := 0) (rdO hol) rfl
              have o1 : w8.cell? ⟨ob, i * 3 + 1, none⟩ = _ := HIv.out.own.cell (i := 1) (rdO hol) rfl
              have o2 : w8.cell? ⟨ob, i * 3 + 2, none⟩ = _ := HIv.out.own.cell (i := 2) (rdO hol) rfl
              have hob := HIv.out.own.lt
              have hg8 := blk_lt HIv.out.ker
              have hjN := Aside0.mk (fun (W : World) (hb : Below w8.heap.size w8 W) => jNew_calls W a6 c6 t.f6 Ad cd dm (Kd.C_below hC6 hb) hl6 (Kd.C_below HCd.out hb) hd1 hd8 hdo)
              have hne1 : g ≠ ob := blk_ne HIv.out.ker HIv.out.own.choose_spec.1 (by decide)
              have htb := World.block_lt_of_cell? w8 _ t6
              have hne2 : (adt.add (i * 9)).block ≠ ob := by
                obtain ⟨cs, hcs⟩ : ∃ cs, w8.heap[(adt.add (i * 9)).block]? = some (.cells cs 46 (0, 0)) := task_blk HIv.out.tasks (i * 9)
                exact blk_ne hcs HIv.out.own.choose_spec.1 (by decide)
              have j0' : 0 ≤ (i : Int) := by omega
              have j1' : (i : Int) < (T.length : Int) := by omega
              clear hC6 hCt hl6 hdo
              go_region_held3 (fun W => W.cell? ⟨g, 1, none⟩ = some (.slice (some adt) T.length c) ∧ W.cell? ⟨g, 7, none⟩ = some (.slice (some ⟨ob, 0, none⟩) T.length T.length) ∧ W.cell? ⟨(adt.add (i * 9)).block, (adt.add (i * 9)).off + 6, none⟩ = some (.slice (some a6) t.f6.length c6))
                (first | exact ⟨v1k, v7, t6⟩ | exact ⟨pw_cell_below HB9.out v1k, pw_cell_below HB9.out v7, pw_cell_below HB9.out t6⟩ | exact ⟨(cell_far3 (p := ⟨g, 1, none⟩) hne1).trans (pw_cell_below HB9.out v1k), (cell_far3 (p := ⟨g, 7, none⟩) hne1).trans (pw_cell_below HB9.out v7), (cell_far3 (p := ⟨(adt.add (i * 9)).block, (adt.add (i * 9)).off + 6, none⟩) hne2).trans (pw_cell_below HB9.out t6)⟩ | go_keep)
                ((go_at_call 84; (with_reducible refine (hjN.out _ ?sideW).mono ?_); (case sideW => repeat (first | exact Below.refl _ _ | apply below_drew1 | apply pw_below_drewN)); rintro e w9 ⟨jb, rfl, hjb, hJ, hb⟩; have HB9 := Aside0.mk (show Below w8.heap.size w8 w9 from (below_drew1 (Below.refl _ _)).trans hb); have HJB := Aside0.mk (show w8.heap.size ≤ jb from hjb); have HJ9 := Aside0.mk hJ; have p0 := (HB9.out.cell (p := ⟨ob, i * 3, none⟩) hob).trans o0; have p1 := (HB9.out.cell (p := ⟨ob, i * 3 + 1, none⟩) hob).trans o1; have p2 := (HB9.out.cell (p := ⟨ob, i * 3 + 2, none⟩) hob).trans o2; have q0 := (HIv.out.below HB9.out).own.frozen (i * 3); have q1 := (HIv.out.below HB9.out).own.frozen (i * 3 + 1); have q2 := (HIv.out.below HB9.out).own.frozen (i * 3 + 2); clear hjb hJ hb))
              have HOD := Aside0.mk (own_done (J := ⟨t.f6, demL t.f6 (dm), 0, 0, 0⟩) HIv.out hin HB9.out HJB.out HJ9.out HBv.out (Nat.le_trans HBv.out HJB.out))
              go_wp2
              go_roundg k1
              case measure => exact Nat.lt_succ_self _
              case rel =>
                refine ⟨j + 1, _, ev7, by omega, by rw [show ((j : Int) + 1) = ((j + 1 : Nat) : Int) by omega], by omega, ?_, ?_, HOD.out.1, HKv.out.trans ((KpT.of_below HB9.out _).trans (HOD.out.2.mono (by decide)))⟩
                · exact ⟨by rw [← HR4.out]; simp [KS.abs, KS.note, List.map_set]⟩
                · exact ⟨by have := hE.out.1; simp [KS.note]; omega, hE.out.2⟩
            · have d1 : decide ((i : Int) < (D.length : Int)) = false := decide_eq_false (by omega)
              have d2 : decide (i < D.length) = false := decide_eq_false hd
              have HR4 := HR3.out
              rw [if_neg (show ¬ ((i : Int) < (D.length : Int)) by omega)] at HR4
              replace HR4 := Aside0.mk HR4
              go_wp2
              obtain ⟨At, ct, et, hlt2, hCt⟩ := Kd.R_reads HIv.out.tasks
              have eA1 : At = A := by cases et; rfl
              rw [eA1] at hCt
              clear et eA1 hlt2
              obtain ⟨adt, A6, c6, eA, _, _, _, _, _, _, t6, _, _, hl6, hC6⟩ := at_T46 hCt (i : Int) (by omega) (by omega)
              subst eA
              rw [Int.toNat_natCast] at t6
              have hmem : rd_T46 T (i : Int) ∈ T := by
                unfold rd_T46
                rw [Int.toNat_natCast, List.getD_eq_getElem?_getD, List.getElem?_eq_getElem hin]; exact List.getElem_mem hin
              obtain ⟨hd1, hd8, hdo⟩ := HODD.out _ hmem
              generalize rd_T46 T (i : Int) = t at t6 hl6 hC6 hd1 hd8 hdo HR4
              obtain ⟨a6, rfl, _⟩ := Kd.at_int hC6 0 (by omega) (by omega)
              have hol : i < K'.own.length := Nat.lt_of_lt_of_eq hin HIv.out.lo.symm
              have o0 : w8.cell? ⟨ob, i * 3, none⟩ = _ := HIv.out.own.cell (i := 0) (rdO hol) rfl
              have o1 : w8.cell? ⟨ob, i * 3 + 1, none⟩ = _ := HIv.out.own.cell (i := 1) (rdO hol) rfl
              have o2 : w8.cell? ⟨ob, i * 3 + 2, none⟩ = _ := HIv.out.own.cell (i := 2) (rdO hol) rfl
              have hob := HIv.out.own.lt
              have hg8 := blk_lt HIv.out.ker
              have hjN := Aside0.mk (fun (W : World) (hb : Below w8.heap.size w8 W) => jNew_nil W a6 c6 t.f6 (Kd.C_below hC6 hb) hl6 hd1 hd8 hdo)
              have hne1 : g ≠ ob := blk_ne HIv.out.ker HIv.out.own.choose_spec.1 (by decide)
              have htb := World.block_lt_of_cell? w8 _ t6
              have hne2 : (adt.add (i * 9)).block ≠ ob := by
                obtain ⟨cs, hcs⟩ : ∃ cs, w8.heap[(adt.add (i * 9)).block]? = some (.cells cs 46 (0, 0)) := task_blk HIv.out.tasks (i * 9)
                exact blk_ne hcs HIv.out.own.choose_spec.1 (by decide)
              have j0' : 0 ≤ (i : Int) := by omega
              have j1' : (i : Int) < (T.length : Int) := by omega
              clear hC6 hCt hl6 hdo
              go_region_held3 (fun W => W.cell? ⟨g, 1, none⟩ = some (.slice (some adt) T.length c) ∧ W.cell? ⟨g, 7, none⟩ = some (.slice (some ⟨ob, 0, none⟩) T.length T.length) ∧ W.cell? ⟨(adt.add (i * 9)).block, (adt.add (i * 9)).off + 6, none⟩ = some (.slice (some a6) t.f6.length c6))
                (first | exact ⟨v1k, v7, t6⟩ | exact ⟨pw_cell_below HB9.out v1k, pw_cell_below HB9.out v7, pw_cell_below HB9.out t6⟩ | exact ⟨(cell_far3 (p := ⟨g, 1, none⟩) hne1).trans (pw_cell_below HB9.out v1k), (cell_far3 (p := ⟨g, 7, none⟩) hne1).trans (pw_cell_below HB9.out v7), (cell_far3 (p := ⟨(adt.add (i * 9)).block, (adt.add (i * 9)).off + 6, none⟩) hne2).trans (pw_cell_below HB9.out t6)⟩ | go_keep)
                ((go_at_call 84; (with_reducible refine (hjN.out _ ?sideW).mono ?_); (case sideW => repeat (first | exact Below.refl _ _ | apply below_drew1 | apply pw_below_drewN)); rintro e w9 ⟨jb, rfl, hjb, hJ, hb⟩; have HB9 := Aside0.mk (show Below w8.heap.size w8 w9 from (below_drew1 (Below.refl _ _)).trans hb); have HJB := Aside0.mk (show w8.heap.size ≤ jb from hjb); have HJ9 := Aside0.mk hJ; have p0 := (HB9.out.cell (p := ⟨ob, i * 3, none⟩) hob).trans o0; have p1 := (HB9.out.cell (p := ⟨ob, i * 3 + 1, none⟩) hob).trans o1; have p2 := (HB9.out.cell (p := ⟨ob, i * 3 + 2, none⟩) hob).trans o2; have q0 := (HIv.out.below HB9.out).own.frozen (i * 3); have q1 := (HIv.out.below HB9.out).own.frozen (i * 3 + 1); have q2 := (HIv.out.below HB9.out).own.frozen (i * 3 + 2); clear hjb hJ hb))
              have HOD := Aside0.mk (own_done (J := ⟨t.f6, demL t.f6 (([] : List Int)), 0, 0, 0⟩) HIv.out hin HB9.out HJB.out HJ9.out HBv.out (Nat.le_trans HBv.out HJB.out))
              go_wp2
              go_roundg k1
              case measure => exact Nat.lt_succ_self _
              case rel =>
                refine ⟨j + 1, _, ev7, by omega, by rw [show ((j : Int) + 1) = ((j + 1 : Nat) : Int) by omega], by omega, ?_, ?_, HOD.out.1, HKv.out.trans ((KpT.of_below HB9.out _).trans (HOD.out.2.mono (by decide)))⟩
                · exact ⟨by rw [← HR4.out]; simp [KS.abs, KS.note, List.map_set]⟩
                · exact ⟨by have := hE.out.1; simp [KS.note]; omega, hE.out.2⟩
    · have hlt1 : decide ((j : Int) < (l.length : Int)) = false := decide_eq_false (by omega)
      have hh := hR.out
      rw [List.drop_of_length_le (by omega), arriveA] at hh
      have HI := Aside0.mk hI
      have HK := Aside0.mk hK
      have HH := Aside0.mk hh
      clear hI hK hh
      go_wp2
      go_end0
      exact ⟨rfl, ⟨K', ev', HI.out, HH.out⟩, (KpT.of_below HB1.out _).trans HK.out⟩
theorem lateA_len (T : List S46) : ∀ (d i : Nat) (A : KA), (lateA T d i A).evs.length ≤ A.evs.length + d
  | 0, i, A => Nat.le_refl _
  | d + 1, i, A => by
    unfold lateA
    refine Nat.le_trans (lateA_len T d (i + 1) _) ?_
    split
    · simp only [KA.note, List.length_append, List.length_singleton]; omega
    · omega
theorem lateA_st (T : List S46) : ∀ (d i : Nat) (A : KA), (lateA T d i A).st = A.st ∧ (lateA T d i A).tick = A.tick ∧ (lateA T d i A).job = A.job ∧ (lateA T d i A).last = A.last
  | 0, i, A => ⟨rfl, rfl, rfl, rfl⟩
  | d + 1, i, A => by
    unfold lateA
    split
    · obtain ⟨h1, h2, h3, h4⟩ := lateA_st T d (i + 1) (A.note 3 (i : Int) 0)
      exact ⟨h1, h2, h3, h4⟩
    · exact lateA_st T d (i + 1) A
theorem arriveA_len (T : List S46) (D : List (List Int)) : ∀ (l : List Int) (A : KA), (arriveA T D l A).evs.length ≤ A.evs.length + l.length
  | [], A => Nat.le_refl _
  | x :: l, A => by
    unfold arriveA
    refine Nat.le_trans (arriveA_len T D l _) ?_
    have := arrive1_len T D A x
    rw [List.length_cons]; omega
theorem arriveA_tick (T : List S46) (D : List (List Int)) : ∀ (l : List Int) (A : KA), (arriveA T D l A).tick = A.tick
  | [], A => rfl
  | x :: l, A => by
    unfold arriveA
    rw [arriveA_tick T D l, arrive1_tick]
def midA (T : List S46) (D : List (List Int)) (s : Nat) (A : KA) : KA := arriveA T D (listFrom s 64 0) (lateA T T.length 0 { A with evs := [] })
def goA (rl : Int) (T : List S46) (tn : Nat) (A : KA) (r : Int) : KA := if r = -1 then A.note 10 (-1) 0 else runA (touchA T tn (turn2 rl (turn1 T A r) r) r) r
def endT (A : KA) (r : Int) : KA := { A with last := r, tick := wrap64 (A.tick + 1) }
def StepPost (B0 : Bs) (w : World) (g : Nat) (rl : Int) (T : List S46) (L : KL) (tn : Nat) (A : KA) (e : Ending) (w' : World) : Prop :=
  ∃ r : Int, rule_Choose.f 20 rl T A.st A.last A.tick = some r ∧ Who T A.st r ∧ (∃ K ev, e = .returned ev ∧ KInv B0 w' g rl T L K ev none ∧ K.abs = endT (goA rl T tn A r) r) ∧ KpT B0 w w' TsAll
theorem turn_job (rl : Int) (T : List S46) (A : KA) (r : Int) : (turn2 rl (turn1 T A r) r).job = A.job ∧ (turn1 T A r).st = A.st ∧ (turn1 T A r).job = A.job := by
  have h1 : (turn1 T A r).st = A.st ∧ (turn1 T A r).job = A.job := by
    unfold turn1; split <;> exact ⟨rfl, rfl⟩
  refine ⟨?_, h1⟩
  unfold turn2
  split
  · exact h1.2
  · split <;> exact h1.2
theorem turn_len (rl : Int) (T : List S46) (A : KA) (r : Int) : (turn2 rl (turn1 T A r) r).evs.length ≤ A.evs.length + 2 := by
  have h1 : (turn1 T A r).evs.length ≤ A.evs.length + 1 := by
    unfold turn1; split
    · simp [KA.note]
    · omega
  unfold turn2
  split
  · simp only [KA.note, List.length_append, List.length_singleton]; omega
  · split
    · simp only [KA.note, List.length_append, List.length_singleton]; omega
    · omega
theorem turn_has (rl : Int) (T : List S46) (A : KA) (i : Nat) (hi : i < A.st.length) (h : hasS A.st (i : Int) = true) : hasS (turn2 rl (turn1 T A (i : Int)) (i : Int)).st (i : Int) = true := by
  have h1 := (turn_job rl T A (i : Int)).2.1
  unfold turn2
  split
  · show hasS ((turn1 T A (i : Int)).st.set (i : Int).toNat ⟨(rd_T132 (turn1 T A (i : Int)).st (i : Int)).f0, true, (rd_T132 (turn1 T A (i : Int)).st (i : Int)).f2, (rd_T132 (turn1 T A (i : Int)).st (i : Int)).f3⟩) (i : Int) = true
    rw [h1, Int.toNat_natCast]
    unfold hasS at h ⊢
    rw [rdS_set_eq hi, List.length_set]; exact h
  · split
    · show hasS (turn1 T A (i : Int)).st (i : Int) = true
      rw [h1]; exact h
    · rw [h1]; exact h
theorem ker_done {B0 : Bs} {w : World} {g : Nat} {rl : Int} {T : List S46} {L : KL} {K : KS} {ev : Value} (h : KInv B0 w g rl T L K ev none) (r t : Int) :
    KInv B0 ((w.setCell ⟨g, 3, none⟩ (.int .i64 r)).setCell ⟨g, 2, none⟩ (.int .i64 t)) g rl T L { K with last := r, tick := t } ev none ∧ KpT B0 w ((w.setCell ⟨g, 3, none⟩ (.int .i64 r)).setCell ⟨g, 2, none⟩ (.int .i64 t)) [96, 43] := by
  have b1 := blk_set h.ker 3 (.int .i64 r)
  have b2 := blk_set b1 2 (.int .i64 t)
  have hk : KpT B0 w ((w.setCell ⟨g, 3, none⟩ (.int .i64 r)).setCell ⟨g, 2, none⟩ (.int .i64 t)) [96, 43] := (KpT.one (Kp.set1 (Kp.set1 (Kp.refl _ _) _ _) _ _) h.ker h.ge.1).mono (by decide)
  refine ⟨h.setKer hk rfl rfl rfl rfl ?_ ?_, hk⟩
  · have e : ((kcells rl L T.length K ev).setIfInBounds 3 (.int .i64 r)).setIfInBounds 2 (.int .i64 t) = kcells rl L T.length { K with last := r, tick := t } ev := by simp [kcells]
    rw [← e]; exact b2
  · exact Kd.R_set (Kd.R_set h.evs h.ker (fun q hq => by rw [List.mem_singleton.mp hq]; decide) 3 _) b1 (fun q hq => by rw [List.mem_singleton.mp hq]; decide) 2 _
theorem KInv.rebase {Bo B0 : Bs} {w : World} {g : Nat} {rl : Int} {T : List S46} {L : KL} {K : KS} {ev : Value} {X : Option Nat} (h : KInv Bo w g rl T L K ev X) (hb : B0.b = Bo.b) (he : Kd.R k43 43 w B0.e (fun _ => True) ev K.evs) : KInv B0 w g rl T L K ev X := by
  obtain ⟨b, e, le⟩ := Bo
  obtain ⟨b', e', le'⟩ := B0
  obtain rfl : b' = b := hb
  exact ⟨h.ker, h.tasks, h.pol, h.cac, h.tab, h.own, he, h.lw, h.ls, h.lo, h.lj, h.n1, h.n8, h.job, h.inj, h.ge, h.hadr⟩
theorem ker_first {Bo B0 : Bs} {w : World} {g : Nat} {rl : Int} {T : List S46} {L : KL} {K : KS} {ev : Value} (h : KInv Bo w g rl T L K ev none) (hbb : B0.b = Bo.b) (o : Obj) :
    KInv B0 ((w.setCell ⟨g, 8, none⟩ (.slice none 0 0)).alloc o) g rl T L { K with evs := [] } (.slice none 0 0) none ∧ KpT B0 w ((w.setCell ⟨g, 8, none⟩ (.slice none 0 0)).alloc o) TsAll := by
  have b1 := blk_set h.ker 8 (.slice none 0 0)
  have hk : ∀ B : Bs, B.b = Bo.b → KpT B w (w.setCell ⟨g, 8, none⟩ (.slice none 0 0)) [96, 43] := fun B hB => (KpT.one (Kp.set1 (Kp.refl _ _) _ _) h.ker (hB ▸ h.ge.1)).mono (by decide)
  have h1 : KInv Bo (w.setCell ⟨g, 8, none⟩ (.slice none 0 0)) g rl T L { K with evs := [] } (.slice none 0 0) none := by
    refine h.setKer (hk Bo rfl) rfl rfl rfl rfl ?_ (Kd.R_nil _ _ _ _ _)
    have e : (kcells rl L T.length K ev).setIfInBounds 8 (.slice none 0 0) = kcells rl L T.length { K with evs := [] } (.slice none 0 0) := by simp [kcells]
    rw [← e]; exact b1
  exact ⟨(h1.below (Below.alloc (Below.refl _ _) (Nat.le_refl _) _)).rebase hbb (Kd.R_nil _ _ _ _ _), ((hk B0 hbb).mono (by decide)).alloc _⟩
set_option maxHeartbeats 16000000 in
set_option maxRecDepth 100000 in
theorem step_calls (Bo B0 : Bs) (w : World) (g : Nat) (rl : Int) (T : List S46) (L : KL) (K : KS) (ev : Value) (s : Nat) (AD : Option Addr) (cD : Nat) (D : List (List Int)) (tn : Nat) (hTw : ∀ W, KpT B0 w W TsAll → TabW W) (h : KInv Bo w g rl T L K ev none) (hbb : B0.b = Bo.b) (hB0 : B0.e ≤ w.heap.size)
    (hs : s < 18446744073709551616) (htn : tn < 18446744073709551616) (hD : ∀ W, KpT B0 w W TsAll → Kd.C (Kd.slice 2 (Kd.int .i64)) W AD D.length D) (htick : 0 ≤ K.tick) (htick2 : K.tick < 1099511627776) (hodd : ∀ t ∈ T, 1 ≤ t.f6.length ∧ t.f6.length ≤ 8 ∧ t.f6.any oddTime = false)
    (hU : ∀ t ∈ T, (0 ≤ t.f7 ∧ t.f7 < 18446744073709551616) ∧ (0 ≤ t.f8 ∧ t.f8 < 18446744073709551616))
    (hrdy : ∀ i, i < T.length → hasS (midA T D s K.abs).st (i : Int) = true → JRdy ((midA T D s K.abs).job.getD i zJ)) :
    Calls Tryz.prog 27 #[.pointer (some ⟨g, 0, none⟩), .agg #[.int .u64 (s : Int), .slice AD D.length cD, .int .u64 (tn : Int)]] w (StepPost B0 w g rl T L tn (midA T D s K.abs)) := by
  obtain ⟨tv, pb, wb, cb, tb, sb, ob⟩ := L
  have k2 : w.cell? ⟨g, 2, none⟩ = some (.int .i64 K.tick) := blk_cell h.ker 2
  have k8 : w.cell? ⟨g, 8, none⟩ = some ev := blk_cell h.ker 8
  have f8 := blk_frozen h.ker 8
  have hg := blk_lt h.ker
  have e1 : decide (K.tick ≥ 1099511627776) = false := decide_eq_false (by omega)
  have HI := Aside0.mk h
  have HB0 := Aside0.mk hB0
  have HT := Aside0.mk hTw
  have HD := Aside0.mk hD
  have HR := Aside0.mk hrdy
  have HO := Aside0.mk hodd
  have HU := Aside0.mk hU
  clear h hB0 hTw hD hrdy hodd hU
  have hnp : ∀ w : World, (binOp .eql 65 (.pointer (some ⟨g, 0, none⟩)) (.pointer none)).run Tryz.prog w = .ok (.bool false) w := fun w => by kernel_rfl
  go_enter Tryz.func27, Tryz.ntmps27
  go_upto_region 4 with fail
  generalize hw1 : World.alloc _ _ = w1
  have HF := ker_first HI.out hbb (.cells #[.int .u64 (s : Int), .slice AD D.length cD, .int .u64 (tn : Int)] 52)
  have hbx := heap_alloc_new (w.setCell ⟨g, 8, none⟩ (.slice none 0 0)) (.cells #[.int .u64 (s : Int), .slice AD D.length cD, .int .u64 (tn : Int)] 52)
  have hz : (w.setCell ⟨g, 8, none⟩ (.slice none 0 0)).heap.size = w.heap.size := by simp
  rw [hz] at hbx
  rw [hw1] at HF hbx
  obtain ⟨H1, hK1⟩ := HF
  have H1 := Aside0.mk H1
  have HK1 := Aside0.mk hK1
  have hs1 := hK1.size
  clear hw1 hz hK1 k2 k8 f8
  have hbb : ∃ cs, w1.heap[w.heap.size]? = some (.cells cs 52 (0, 0)) := ⟨_, hbx⟩
  have x0 : w1.cell? ⟨w.heap.size, 0, none⟩ = some (.int .u64 (s : Int)) := blk_cell hbx 0
  have x1 : w1.cell? ⟨w.heap.size, 1, none⟩ = some (.slice AD D.length cD) := blk_cell hbx 1
  have x2 : w1.cell? ⟨w.heap.size, 2, none⟩ = some (.int .u64 (tn : Int)) := blk_cell hbx 2
  clear hbx
  have HLA := Aside0.mk (late_calls B0 w1 g rl T ⟨tv, pb, wb, cb, tb, sb, ob⟩ { K with evs := [] } (.slice none 0 0) none H1.out (by have := HB0.out; omega) (by simp))
  have hla : Aside0 ((lateK T T.length 0 { K with evs := [] }).abs = lateA T T.length 0 { K.abs with evs := [] }) := ⟨abs_late T T.length 0 _⟩
  generalize hKl : lateK T T.length 0 { K with evs := [] } = K2 at HLA hla
  clear hKl
  have hAll : Aside0 (K2.evs.length ≤ 8 ∧ K2.tick = K.tick) := Aside0.mk (by
    have h1 := congrArg KA.evs hla.out
    have h2 := congrArg KA.tick hla.out
    have h3 := lateA_len T T.length 0 { K.abs with evs := [] }
    have h4 := (lateA_st T T.length 0 { K.abs with evs := [] }).2.1
    have h5 := HI.out.n8
    refine ⟨?_, h2.trans h4⟩
    show K2.abs.evs.length ≤ 8
    rw [h1]
    exact Nat.le_trans h3 (by show 0 + T.length ≤ 8; omega))
  go_upto_region 6 with (first | (go_at_call 49; (with_reducible refine HLA.out.mono ?_); rintro e w2 ⟨rfl, ⟨ev2, hi2⟩, hk2⟩; have H2 := Aside0.mk hi2; have HK2 := Aside0.mk (HK1.out.trans (hk2.mono (by decide))); have hs2 := hk2.size; have hbb2 : ∃ cs, w2.heap[w.heap.size]? = some (.cells cs 52 (0, 0)) := (by obtain ⟨cs, hcs⟩ := hbb; exact ⟨cs, hk2.blk hcs (by decide)⟩); have v0 := hk2.cellG hbb (by decide) x0; have v1 := hk2.cellG hbb (by decide) x1; have v2 := hk2.cellG hbb (by decide) x2; have HAR := Aside0.mk (arrive_calls B0 w2 g rl T ⟨tv, pb, wb, cb, tb, sb, ob⟩ K2 ev2 s AD cD D (tn : Int) (HT.out _ HK2.out) hi2 (by have := HB0.out; omega) (by have := hAll.out.1; omega) hs (fun W hW => HD.out _ (HK2.out.trans hW)) (by rw [hAll.out.2]; exact htick) HO.out); clear hi2 hk2) | (go_at_call 50; (with_reducible refine HAR.out.mono ?_); rintro e w3 ⟨rfl, ⟨K3, ev3, hi3, habs⟩, hk3⟩; have H3 := Aside0.mk hi3; have HK3 := Aside0.mk (HK2.out.trans hk3); have hs3 := hk3.size; have z2 := hk3.cellG hbb2 (by decide) v2; have hbb3 : ∃ cs, w3.heap[w.heap.size]? = some (.cells cs 52 (0, 0)) := (by obtain ⟨cs, hcs⟩ := hbb2; exact ⟨cs, hk3.blk hcs (by decide)⟩); replace habs := Aside0.mk habs; clear hi3 hk3))
  have hmid : Aside0 (K3.abs = midA T D s K.abs) := Aside0.mk (by rw [habs.out, hla.out]; rfl)
  clear habs hla hAll x0 x1 x2 hbb
  rw [← hmid.out] at HR
  have hgoal : Aside0 (∀ e W, StepPost B0 w g rl T ⟨tv, pb, wb, cb, tb, sb, ob⟩ tn K3.abs e W → StepPost B0 w g rl T ⟨tv, pb, wb, cb, tb, sb, ob⟩ tn (midA T D s K.abs) e W) := ⟨fun e W h => by rw [hmid.out] at h; exact h⟩
  have hlen3 : Aside0 (K3.evs.length ≤ 100) := Aside0.mk (by
    have h1 : K3.evs = (midA T D s K.abs).evs := congrArg KA.evs hmid.out
    have h2 := arriveA_len T D (listFrom s 64 0) (lateA T T.length 0 { K.abs with evs := [] })
    have h3 := lateA_len T T.length 0 { K.abs with evs := [] }
    have h4 := listFrom_le s 64 0
    have h5 := HI.out.n8
    rw [h1]
    exact Nat.le_trans h2 (Nat.le_trans (Nat.add_le_add h3 (Nat.le_refl _)) (by show 0 + T.length + (listFrom s 64 0).length ≤ 100; omega)))
  clear hmid
  obtain ⟨r, hr, hwho⟩ := choose_some rl T K3.st H3.out.ls H3.out.n8 K3.last K3.tick
  obtain ⟨At, ct, rfl, hlt2, hCt⟩ := Kd.R_reads H3.out.tasks
  have y0 : w3.cell? ⟨g, 0, none⟩ = some (.int .i64 rl) := blk_cell H3.out.ker 0
  have y1 : w3.cell? ⟨g, 1, none⟩ = some (.slice At T.length ct) := blk_cell H3.out.ker 1
  have y2 : w3.cell? ⟨g, 2, none⟩ = some (.int .i64 K3.tick) := blk_cell H3.out.ker 2
  have y3 : w3.cell? ⟨g, 3, none⟩ = some (.int .i64 K3.last) := blk_cell H3.out.ker 3
  have y6 : w3.cell? ⟨g, 6, none⟩ = some (.pointer (some ⟨tb, 0, none⟩)) := blk_cell H3.out.ker 6
  have HAL := Aside0.mk (fun W (hb : Below w3.heap.size w3 W) => All_calls W tb sb K3.st (H3.out.below hb).tab)
  have HCH := Aside0.mk (fun W A c (hb : Below w3.heap.size w3 W) (hC : Kd.C k132 W A K3.st.length K3.st) (hc : K3.st.length ≤ c) => rule_Choose.calls 20 rl At ct T A c K3.st K3.last K3.tick r W H3.out.ls H3.out.n8 (Kd.C_below hCt hb) hC hc hr)
  have hg3 := blk_lt H3.out.ker
  replace hr := Aside0.mk hr
  replace hwho := Aside0.mk hwho
  clear hCt
  go_region_held3 (fun W => W.cell? ⟨g, 0, none⟩ = some (.int .i64 rl) ∧ W.cell? ⟨g, 1, none⟩ = some (.slice At T.length ct) ∧ W.cell? ⟨g, 2, none⟩ = some (.int .i64 K3.tick) ∧ W.cell? ⟨g, 3, none⟩ = some (.int .i64 K3.last) ∧ W.cell? ⟨g, 6, none⟩ = some (.pointer (some ⟨tb, 0, none⟩)))
    (first | exact ⟨y0, y1, y2, y3, y6⟩ | exact ⟨pw_cell_below HB5.out y0, pw_cell_below HB5.out y1, pw_cell_below HB5.out y2, pw_cell_below HB5.out y3, pw_cell_below HB5.out y6⟩ | exact ⟨pw_cell_below HB4.out y0, pw_cell_below HB4.out y1, pw_cell_below HB4.out y2, pw_cell_below HB4.out y3, pw_cell_below HB4.out y6⟩ | go_keep)
    ((first | (go_at_call 52; (with_reducible refine (HAL.out _ ?sideB).mono ?_); (case sideB => repeat (first | exact Below.refl _ _ | apply below_drew1 | apply pw_below_drewN)); rintro e w4 ⟨v4, rfl, hR4, hb⟩; have HB4 := Aside0.mk (show Below w3.heap.size w3 w4 from (below_drew1 (Below.refl _ _)).trans hb); obtain ⟨A4, c4, rfl, hlc4, hC4⟩ := Kd.R_reads hR4; have HC4 := Aside0.mk hC4; clear hb hR4 hC4) | (go_at_call 51; (with_reducible refine (HCH.out _ A4 c4 ?sideB ?sideC hlc4).mono ?_); (case sideB => repeat (first | exact HB4.out | apply below_drew1 | apply pw_below_drewN)); (case sideC => exact Kd.C_below HC4.out (by repeat (first | exact Below.refl _ _ | apply below_drew1 | apply pw_below_drewN))); rintro e w5 ⟨rfl, hb⟩; have HB5 := Aside0.mk (show Below w3.heap.size w3 w5 from HB4.out.trans (hb.mono HB4.out.size)); clear hb)))
  go_upto_region 7 with fail
  rcases hwho.out with rfl | ⟨i, rfl, hi, hp⟩
  · have HI5 := Aside0.mk (H3.out.below HB5.out)
    have hs5 := HB5.out.size
    go_wp2_with (go_at_call 53; (with_reducible refine (notes_calls B0 _ g rl T ⟨.slice At T.length ct, pb, wb, cb, tb, sb, ob⟩ K3 ev3 none 10 (-1) 0 HI5.out (by have := HB0.out; omega) (by have := hlen3.out; omega)).mono ?_); rintro e w6 ⟨rfl, ⟨ev6, hi6⟩, hk6⟩; have H6 := Aside0.mk hi6; have HK6 := Aside0.mk hk6; have t2 : w6.cell? ⟨g, 2, none⟩ = some (.int .i64 K3.tick) := blk_cell hi6.ker 2; have t3 : w6.cell? ⟨g, 3, none⟩ = some (.int .i64 K3.last) := blk_cell hi6.ker 3; have t8 : w6.cell? ⟨g, 8, none⟩ = some ev6 := blk_cell hi6.ker 8; have q2 := blk_frozen hi6.ker 2; have q3 := blk_frozen hi6.ker 3; have hg6 := blk_lt hi6.ker; clear hi6 hk6)
    go_ret
    have hd := ker_done H6.out (-1) (wrap64 (K3.tick + 1))
    exact hgoal.out _ _ ⟨-1, hr.out, hwho.out, ⟨_, ev6, rfl, hd.1, rfl⟩, HK3.out.trans ((KpT.of_below HB5.out _).trans ((HK6.out.mono (by decide)).trans (hd.2.mono (by decide))))⟩
  · have HI5 := Aside0.mk (H3.out.below HB5.out)
    have hs5 := HB5.out.size
    have HK5 := Aside0.mk (HK3.out.trans (KpT.of_below HB5.out _))
    have z25 := pw_cell_below HB5.out z2
    have hbb5 : ∃ cs, w5.heap[w.heap.size]? = some (.cells cs 52 (0, 0)) := (by obtain ⟨cs, hcs⟩ := hbb3; exact ⟨cs, (KpT.of_below (B0 := B0) HB5.out [96]).blk hcs (by decide)⟩)
    have hne : decide ((i : Int) = -1) = false := decide_eq_false (by omega)
    have HTU := Aside0.mk (turns_calls B0 w5 g rl T ⟨.slice At T.length ct, pb, wb, cb, tb, sb, ob⟩ K3 ev3 i (fun W hW => HT.out _ (HK5.out.trans hW)) HI5.out (by have := HB0.out; omega) (by have := hlen3.out; omega) hi hp HU.out)
    clear z2 hbb2 hbb3 y0 y1 y2 y3 y6 v0 v1 v2
    replace hp := Aside0.mk hp
    go_upto_region 10 with (go_at_call 54; (with_reducible refine HTU.out.mono ?_); rintro e w6 ⟨rfl, ⟨K6, ev6, hi6, ha6⟩, hk6⟩; have H6 := Aside0.mk hi6; have HA6 := Aside0.mk ha6; have HK6 := Aside0.mk hk6; have z26 := hk6.cellG hbb5 (by decide) z25; have hs6 := hk6.size; clear hi6 ha6 hk6)
    have hj6 : Aside0 (JRdy (K6.job.getD i zJ)) := Aside0.mk (by
      have h1 : K6.job = K3.abs.job := (congrArg KA.job HA6.out).trans (turn_job rl T K3.abs (i : Int)).1
      rw [h1]; exact HR.out i hi hp.out)
    have hp6 : Aside0 (hasS K6.st (i : Int) = true) := Aside0.mk (by
      have h1 : K6.st = (turn2 rl (turn1 T K3.abs (i : Int)) (i : Int)).st := congrArg KA.st HA6.out
      rw [h1]; exact turn_has rl T K3.abs i (Nat.lt_of_lt_of_eq hi H3.out.ls.symm) hp.out)
    have hl6 : Aside0 (K6.evs.length ≤ 1000) := Aside0.mk (by
      have h1 : K6.evs = (turn2 rl (turn1 T K3.abs (i : Int)) (i : Int)).evs := congrArg KA.evs HA6.out
      have h2 := turn_len rl T K3.abs (i : Int)
      have h3 := hlen3.out
      have h4 : K3.abs.evs.length = K3.evs.length := rfl
      rw [h1]; omega)
    have HRU := Aside0.mk (runs_calls B0 w6 g rl T ⟨.slice At T.length ct, pb, wb, cb, tb, sb, ob⟩ K6 ev6 i tn htn (fun W hW => HT.out _ (HK5.out.trans (HK6.out.trans hW))) H6.out (by have := HB0.out; omega) hl6.out hi hp6.out hj6.out HU.out)
    go_wp2_with (go_at_call 55; (with_reducible refine HRU.out.mono ?_); rintro e w7 ⟨rfl, ⟨K7, ev7, hi7, ha7⟩, hk7⟩; have H7 := Aside0.mk hi7; have HA7 := Aside0.mk ha7; have HK7 := Aside0.mk hk7; have t2 : w7.cell? ⟨g, 2, none⟩ = some (.int .i64 K7.tick) := blk_cell hi7.ker 2; have t3 : w7.cell? ⟨g, 3, none⟩ = some (.int .i64 K7.last) := blk_cell hi7.ker 3; have t8 : w7.cell? ⟨g, 8, none⟩ = some ev7 := blk_cell hi7.ker 8; have q2 := blk_frozen hi7.ker 2; have q3 := blk_frozen hi7.ker 3; have hg6 := blk_lt hi7.ker; clear hi7 ha7 hk7)
    go_ret
    have hd := ker_done H7.out (i : Int) (wrap64 (K7.tick + 1))
    refine hgoal.out _ _ ⟨(i : Int), hr.out, hwho.out, ⟨_, ev7, rfl, hd.1, ?_⟩, HK5.out.trans (HK6.out.trans (HK7.out.trans (hd.2.mono (by decide))))⟩
    have h1 : goA rl T tn K3.abs (i : Int) = K7.abs := by
      unfold goA
      rw [if_neg (show ¬ (i : Int) = -1 by omega), ← HA6.out, ← HA7.out]
    rw [h1]; rfl
end Go.Proofs.YtaofmmnfenlofaaGreatDoor.QTc
namespace Go.Proofs.YtaofmmnfenlofaaGreatDoor.QTc
open Go.RowKit Go.Proofs.YtaofmmnfenlofaaGreatDoorW.PrintWords Go.Proofs.YtaofmmnfenlofaaGreatDoorW.PrintLast Go.Proofs.YtaofmmnfenlofaaGreatDoorW.PrintMore
set_option linter.unusedVariables false
set_option linter.unusedSimpArgs false
def kW : Kd W3 := Kd.iso (Kd.pair (Kd.int .i64) (Kd.pair (Kd.int .i64) Kd.bool)) (fun x : W3 => (x.period, x.last, x.noted))
theorem kW_openM {w : World} {base : Nat} {ok : Nat → Prop} {x : W3} {cs : List Value} (h : kW.M w base ok x cs) : cs = encW x := by
  obtain ⟨_, _, rfl, rfl, ⟨_, _, rfl, rfl, rfl⟩⟩ := h
  exact rfl
theorem kW_mkM (w : World) (base : Nat) (ok : Nat → Prop) (x : W3) : kW.M w base ok x (encW x) := ⟨[.int .i64 x.period], [.int .i64 x.last, .bool x.noted], rfl, rfl, ⟨[.int .i64 x.last], [.bool x.noted], rfl, rfl, rfl⟩⟩
theorem info130 : (Tryz.prog.info? 130).map (fun i => (i.zero, i.size, i.bytes)) = some (some (.agg #[.int .i64 0, .int .i64 0, .bool false]), 3, 24) := by kernel_rfl
theorem RowE.of_R {α : Type} {d : Kd α} {enc : α → List Value} {sz e : Nat} {w : World} {base : Nat} {ok : Nat → Prop} {v : Value} {l : List α} (h : Kd.R d e w base ok v l) (hsz : d.sz = sz) (henc : ∀ (ok : Nat → Prop) x cs, d.M w base ok x cs → cs = enc x) (hlen : ∀ q, (enc q).length = sz) (hne : 0 < l.length) :
    ∃ b c, v = .slice (some ⟨b, 0, none⟩) l.length c ∧ RowE enc sz e w b l ∧ base ≤ b := by
  obtain ⟨h0, inner, ⟨ho1, ho2⟩, hr1, hr2⟩ := h
  rcases ho2 with ⟨_, hz⟩ | ⟨b, cap, cur, rfl, hb, hh, h1, h2, h3, h4⟩
  · omega
  · refine ⟨b, cap, rfl, ⟨cur, hh, fun j p hp i u hu => ?_⟩, hb⟩
    have h5 := hr2 j p hp
    have h6 := henc _ _ _ h5
    rw [hsz] at h6 h4
    have hi : i < sz := by
      rcases Nat.lt_or_ge i sz with x | x
      · exact x
      · rw [List.getElem?_eq_none (by rw [hlen]; exact x)] at hu; cases hu
    rw [← h6, List.getElem?_take_of_lt hi, List.getElem?_drop, ← h4] at hu
    have hj : j < l.length := by
      rcases Nat.lt_or_ge j l.length with x | x
      · exact x
      · rw [List.getElem?_eq_none x] at hp; cases hp
    have hji : j * sz + i < l.length * sz := by
      have : (j + 1) * sz ≤ l.length * sz := Nat.mul_le_mul_right _ hj
      rw [Nat.add_mul, Nat.one_mul] at this; omega
    rw [List.getElem?_take_of_lt hji] at hu
    rw [← hu, Array.getElem?_toList]
def watL (ps : List Int) : List W3 := ps.map fun t => ⟨t, 0, false⟩
theorem watL_len (ps : List Int) : (watL ps).length = ps.length := by simp [watL]
theorem watL_take (ps : List Int) (i : Nat) (hi : i < ps.length) : (watL ps).take (i + 1) = (watL ps).take i ++ [⟨rd ps (i : Int), 0, false⟩] := by
  rw [List.take_add_one, List.getElem?_eq_getElem (by rw [watL_len]; exact hi)]
  simp only [watL, List.getElem_map]
  unfold rd
  rw [Int.toNat_natCast, List.getD_eq_getElem?_getD, List.getElem?_eq_getElem hi]; rfl
structure PNewI (B0 : Nat) (w : World) (pb : Nat) (ps : List Int) (u : Value) (i : Nat) (w' : World) : Prop where
  blk : w'.heap[pb]? = some (.cells #[u] 128 (0, 0))
  hu : Kd.R kW 130 w' B0 (fun k => True) u ((watL ps).take i)
  hB : Below B0 w w'
  hj : B0 ≤ pb
theorem PNewI.ne {B0 : Nat} {w : World} {pb : Nat} {ps : List Int} {u : Value} {i : Nat} {W : World} (h : PNewI B0 w pb ps u i W) : some pb ≠ u.ownBlock := by
  intro e
  obtain ⟨_, inner, ho, _⟩ := h.hu
  obtain ⟨cs, hcs⟩ := own_typed ho pb e.symm
  exact blk_ne hcs h.blk (by decide) rfl
theorem PNewI.next {B0 : Nat} {w : World} {pb : Nat} {ps : List Int} {u : Value} {i : Nat} {W w9 : World} {u1 : Value} (h : PNewI B0 w pb ps u i W)
    (hR : Kd.R kW 130 w9 B0 (fun _ => True) u1 ((watL ps).take (i + 1))) (hB : Below B0 w w9) (hg : W.grownBy w9 u.ownBlock) :
    PNewI B0 w pb ps u1 (i + 1) (w9.setCell ⟨pb, 0, none⟩ u1) := by
  have hb9 := blk_grown h.blk hg h.ne
  have h1 := blk_set hb9 0 u1
  refine ⟨by simpa using h1, Kd.R_set hR hb9 (fun q hq => by rw [List.mem_singleton.mp hq]; decide) 0 u1, Below.setCell hB h.hj u1, h.hj⟩
set_option maxHeartbeats 8000000 in
set_option maxRecDepth 100000 in
theorem pNew_calls (w : World) (A0 : Option Addr) (c : Nat) (ps : List Int) (hr : Kd.C (Kd.int .i64) w A0 ps.length ps) (hc : ps.length ≤ c)
    (h1 : 1 ≤ ps.length) (h8 : ps.length ≤ 8) (ho : ps.any oddTime = false) :
    Calls Tryz.prog 48 #[.slice A0 ps.length c] w fun e w' => ∃ pb b, e = .returned (.pointer (some ⟨pb, 0, none⟩)) ∧ PolIs w' pb b (watL ps) ∧ w.heap.size ≤ b ∧ Below w.heap.size w w' := by
  have HCF := Aside0.mk (cf_calls _ oddTime odd_police _ Tryz.func78 (by kernel_rfl) rfl A0 c ps w hr hc)
  rw [ho] at HCF
  have HR := Aside0.mk hr
  have e1 : decide ((ps.length : Int) > 8) = false := decide_eq_false (by omega)
  have e2 : decide (8 < ps.length) = false := decide_eq_false (by omega)
  clear hr ho
  go_enter Tryz.func48, Tryz.ntmps48
  go_wp2_with (go_at_call 77; (with_reducible refine HCF.out.mono ?_); rintro e w' ⟨rfl, ⟨nd, rfl⟩⟩)
  have N0 : PNewI w.heap.size w w.heap.size ps (.slice none 0 0) 0 ((w.drewN nd).alloc (.cells #[.slice none 0 0] 128)) := by
    refine ⟨heap_alloc_new (w.drewN nd) _, Kd.R_nil _ _ _ _ _, Below.alloc (pw_below_drewN (Below.refl _ _) nd) (Nat.le_refl _) _, Nat.le_refl _⟩
  generalize (w.drewN nd).alloc (.cells #[.slice none 0 0] 128) = W0 at N0 ⊢
  generalize hpb : w.heap.size = pb at N0 ⊢
  replace hpb := Aside0.mk hpb
  replace N0 := Aside0.mk N0
  go_loopg [5, 17] (ps.length + 1) (fun kq v5 v17 w' => ∃ (i : Nat) (A : Option Addr) (q : Nat), kq + i = ps.length + 1 ∧ v17 = .int .i64 (i : Int) ∧ i ≤ ps.length ∧ PNewI pb w pb ps (.slice A i q) i w')
  case atStart => exact ⟨0, none, 0, by omega, rfl, by omega, by simpa using N0.out⟩
  case round =>
    clear N0
    obtain ⟨i, A, q, hq, rfl, hi, INV⟩ := hrel
    cases gk with
    | zero => exfalso; omega
    | succ k1 =>
    have hB := INV.hB
    have k1_ : wr.cell? ⟨pb, 0, none⟩ = some (.slice A i q) := blk_cell INV.blk 0
    have z1 := blk_frozen INV.blk 0
    by_cases hlt : i < ps.length
    · have hlt1 : decide ((i : Int) < (ps.length : Int)) = true := decide_eq_true (by omega)
      have i0 : 0 ≤ (i : Int) := by omega
      have i1 : (i : Int) < (ps.length : Int) := by omega
      have htk := watL_take ps i hlt
      have HL := Aside0.mk (show ((watL ps).take i).length = i by rw [List.length_take, watL_len]; omega)
      have HL2 := Aside0.mk (show ((watL ps).take (i + 1)).length = i + 1 by rw [List.length_take, watL_len]; omega)
      obtain ⟨ad, rfl, hx⟩ := Kd.at_int (Kd.C_below HR.out (hpb.out ▸ hB)) (i : Int) i0 i1
      rw [Int.toNat_natCast] at hx
      have HB := Aside0.mk hB
      have HI := Aside0.mk INV
      generalize rd ps (i : Int) = t at hx htk
      have HTK := Aside0.mk htk
      clear hB INV htk
      go_wp2_with ((with_reducible refine gate_builtin (b := .append) (xs := #[.tmp 25, .tmp 28]) rfl ?_); at_builtin; go_loud (refine Kd.R_append kW (w0 := w) pb rfl (.tmp 25) (.tmp 28) 126 130 (.agg #[.int .i64 0, .int .i64 0, .bool false]) 24 rfl Tryz.underlying126 info130 rfl (by decide) (by omega) (.slice A i q) ((watL ps).take i) ⟨t, 0, false⟩ [.int .i64 t, .int .i64 0, .bool false] (fun _ => True) (fun _ => False) rfl rfl ?aP (fun _ hk => hk.elim) (fun _ _ => trivial) ?aO ?aB ?aS ?aL ?_; (case aP => exact kW_mkM _ _ _ _); (case aO => exact HI.out.hu); (case aB => exact HB.out); (case aS => have := HB.out.size; have := blk_lt HI.out.blk; omega); (case aL => have := HL.out; omega); intro u1 w9 hR9 hB9 hg9 hat9; rw [← HTK.out] at hR9; obtain ⟨A9, q9, e9⟩ := Kd.R_slice hR9; rw [HL2.out] at e9; subst e9; have HN := Aside0.mk (PNewI.next HI.out hR9 hB9 hg9); have zz : w9.frozen? ⟨pb, 0, none⟩ = false := (blk_frozen (blk_grown HI.out.blk hg9 (PNewI.ne HI.out)) 0); have zc : w9.cell? ⟨pb, 0, none⟩ = some (.slice A i q) := (blk_cell (blk_grown HI.out.blk hg9 (PNewI.ne HI.out)) 0); clear hR9 hB9 hg9 hat9))
      go_roundg k1
      case measure => exact Nat.lt_succ_self _
      case rel => exact ⟨i + 1, A9, q9, by omega, by rw [show ((i : Int) + 1) = ((i + 1 : Nat) : Int) by omega], by omega, HN.out⟩
    · have hlt1 : decide ((i : Int) < (ps.length : Int)) = false := decide_eq_false (by omega)
      have HI := Aside0.mk INV
      clear INV hB
      go_wp2
      go_ret
      have hil : i = ps.length := by omega
      subst hil
      have h9 := HI.out
      have hu9 := h9.hu
      rw [List.take_of_length_le (show (watL ps).length ≤ ps.length by rw [watL_len]; exact Nat.le_refl _)] at hu9
      obtain ⟨b, cc, e, hr, hb⟩ := RowE.of_R hu9 rfl (fun _ _ _ h => kW_openM h) encW_len (by rw [watL_len]; omega)
      rw [watL_len] at e
      have hblk := h9.blk
      rw [e] at hblk
      exact ⟨pb, b, rfl, ⟨⟨cc, by rw [watL_len]; exact hblk⟩, hr, by rw [watL_len]; exact h8⟩, hpb.out ▸ hb, hpb.out ▸ h9.hB⟩
end Go.Proofs.YtaofmmnfenlofaaGreatDoor.QTc
namespace Go.Proofs.YtaofmmnfenlofaaGreatDoor.QTc
open Go.RowKit Go.Proofs.YtaofmmnfenlofaaGreatDoorW.PrintWords Go.Proofs.YtaofmmnfenlofaaGreatDoorW.PrintLast Go.Proofs.YtaofmmnfenlofaaGreatDoorW.PrintMore
attribute [local go_sem] max2_int min2_int max_two min_two max_three min_three max_four min_four
set_option linter.unusedVariables false
set_option linter.unusedSimpArgs false
def lex_isLetter.f (a0 : Int) : Option (Bool) := if a0 ≥ 97 then (some (decide (a0 ≤ 122))) else (some false)
set_option maxHeartbeats 8000000 in
set_option maxRecDepth 100000 in
theorem lex_isLetter.calls (a0 : Int) (r : Bool) (w : World) (h : lex_isLetter.f a0 = some r) :
  Calls Tryz.prog 160 #[.int .u8 a0] w fun e w' => e = .returned (.bool r) ∧ Drawn0 w w' := by
 have H : (if a0 ≥ 97 then (some (decide (a0 ≤ 122))) else (some false)) = some r := h
 clear h
 by_cases c2 : a0 ≥ 97
 ·rw [if_pos c2] at H
  have c2b0 : decide (97 ≤ a0) = true := decide_eq_true c2
  clear c2
  obtain rfl := Option.some.inj H
  go_enter Tryz.func160, Tryz.ntmps160
  go_wp2
  go_ret
  exact ⟨by first | rfl | (simp; done) | (simp [*]; done), by repeat (first | exact Drawn0.refl _ | apply Drawn0.step)⟩
 ·rw [if_neg c2] at H
  have c2b0 : decide (97 ≤ a0) = false := decide_eq_false c2
  clear c2
  obtain rfl := Option.some.inj H
  go_enter Tryz.func160, Tryz.ntmps160
  go_wp2
  go_ret
  exact ⟨by first | rfl | (simp; done) | (simp [*]; done), by repeat (first | exact Drawn0.refl _ | apply Drawn0.step)⟩
def slices_Index_string_string.l0 : Nat → List ByteArray → ByteArray → Int → Int → Option (Int)
 | 0, _, _, _, _ => none
 | k + 1, x0, x1, x7, x8 => if x8 < x7 then (if 0 ≤ x8 then (if x8 < (x0.length : Int) then (if x1.toList = (rdOf ByteArray.empty x0 x8).toList then (some x8) else (slices_Index_string_string.l0 k x0 x1 x7 (wrap64 (x8 + 1)))) else (none)) else (none)) else (some (-1))
def slices_Index_string_string.f (k : Nat) (l0 : List ByteArray) (a1 : ByteArray) : Option (Int) := slices_Index_string_string.l0 k l0 a1 (l0.length : Int) 0
set_option maxHeartbeats 8000000 in
set_option maxRecDepth 100000 in
theorem slices_Index_string_string.calls (k : Nat) (A0 : Option Addr) (c0 : Nat) (l0 : List ByteArray) (a1 : ByteArray) (r : Int) (w : World) (hr0 : Kd.C Kd.string w A0 l0.length l0) (hc0 : l0.length ≤ c0) (h : slices_Index_string_string.f k l0 a1 = some r) :
  Calls Tryz.prog 193 #[.slice A0 l0.length c0, .string a1] w fun e w' => e = .returned (.int .i64 r) ∧ Drawn0 w w' := by
 have HR0 := Aside0.mk hr0
 have HC0 := Aside0.mk hc0
 clear hr0 hc0
 have H : (slices_Index_string_string.l0 k l0 a1 (l0.length : Int) 0) = some r := h
 clear h
 have H' := Aside0.mk H
 clear H
 go_enter Tryz.func193, Tryz.ntmps193
 go_wp2
 go_loopg [8] k (fun kq v8 w' => ∃ (x8_1 : Int), v8 = .int .i64 x8_1 ∧ Aside0 (slices_Index_string_string.l0 kq l0 a1 (l0.length : Int) x8_1 = some r) ∧ Aside0 (kq ≤ k) ∧ Drawn0 w w')
 case atStart => exact ⟨(0), (by first | rfl | (simp; done) | (simp [*]; done)), H', ⟨Nat.le_refl _⟩, by repeat (first | exact Drawn0.refl _ | apply Drawn0.step)⟩
 case round =>
  clear H'
  try clear c1
  try clear p2
  obtain ⟨x8_1, rfl, HA, HK1, ⟨m1, rfl⟩⟩ := hrel
  cases gk with
  | zero => exact absurd HA.out (by simp [slices_Index_string_string.l0])
  | succ k1 =>
   have H := HA.out
   clear HA
   simp only [slices_Index_string_string.l0] at H
   by_cases c3 : x8_1 < (l0.length : Int)
   ·rw [if_pos c3] at H
    have c3b0 : decide (x8_1 < (l0.length : Int)) = true := decide_eq_true c3
    clear c3
    by_cases c4 : 0 ≤ x8_1
    ·rw [if_pos c4] at H
     have c4b0 : decide (0 ≤ x8_1) = true := decide_eq_true c4
     clear c4
     by_cases c5 : x8_1 < (l0.length : Int)
     ·rw [if_pos c5] at H
      have c5b0 : decide (x8_1 < (l0.length : Int)) = true := decide_eq_true c5
      clear c5
      by_cases c6 : a1.toList = (rdOf ByteArray.empty l0 x8_1).toList
      ·rw [if_pos c6] at H
       have c6b0 : (a1.toList == (rdOf ByteArray.empty l0 x8_1).toList) = true := beq_iff_eq.mpr c6
       have c6b1 : (a1.toList != (rdOf ByteArray.empty l0 x8_1).toList) = false := bne_eq_false_iff_eq.mpr c6
       clear c6
       obtain rfl := Option.some.inj H
       have p109 : 0 ≤ (x8_1 : Int) := of_decide_eq_true (by first | (with_reducible assumption) | assumption)
       have q109 : x8_1 < (l0.length : Int) := of_decide_eq_true (by first | (with_reducible assumption) | assumption)
       obtain ⟨ad109, e109, hx109_0⟩ := Kd.at_string HR0.out x8_1 p109 q109
       cases e109
       replace p109 := eq_true p109
       replace q109 := eq_true q109
       go_wp2
       go_ret
       exact ⟨by first | rfl | (simp; done) | (simp [*]; done), by repeat (first | exact Drawn0.refl _ | apply Drawn0.step)⟩
      ·rw [if_neg c6] at H
       have c6b0 : (a1.toList == (rdOf ByteArray.empty l0 x8_1).toList) = false := beq_eq_false_iff_ne.mpr c6
       have c6b1 : (a1.toList != (rdOf ByteArray.empty l0 x8_1).toList) = true := bne_iff_ne.mpr c6
       have H' := Aside0.mk H
       clear H
       have p109 : 0 ≤ (x8_1 : Int) := of_decide_eq_true (by first | (with_reducible assumption) | assumption)
       have q109 : x8_1 < (l0.length : Int) := of_decide_eq_true (by first | (with_reducible assumption) | assumption)
       obtain ⟨ad109, e109, hx109_0⟩ := Kd.at_string HR0.out x8_1 p109 q109
       cases e109
       replace p109 := eq_true p109
       replace q109 := eq_true q109
       go_wp2
       go_roundg k1
       case measure => have := HK1.out; omega
       case rel => exact ⟨(wrap64 (x8_1 + 1)), (by first | rfl | (simp; done) | (simp [*]; done)), H', ⟨by have := HK1.out; omega⟩, by repeat (first | exact Drawn0.refl _ | apply Drawn0.step)⟩
     ·rw [if_neg c5] at H
      exact absurd H (by simp)
    ·rw [if_neg c4] at H
     exact absurd H (by simp)
   ·rw [if_neg c3] at H
    have c3b0 : decide (x8_1 < (l0.length : Int)) = false := decide_eq_false c3
    clear c3
    obtain rfl := Option.some.inj H
    go_wp2
    go_ret
    exact ⟨by first | rfl | (simp; done) | (simp [*]; done), by repeat (first | exact Drawn0.refl _ | apply Drawn0.step)⟩
def slices_Contains_string_string.f (k : Nat) (l0 : List ByteArray) (a1 : ByteArray) : Option (Bool) := (slices_Index_string_string.f k l0 a1).bind fun t110 => (some (decide (t110 ≥ 0)))
set_option maxHeartbeats 8000000 in
set_option maxRecDepth 100000 in
theorem slices_Contains_string_string.calls (k : Nat) (A0 : Option Addr) (c0 : Nat) (l0 : List ByteArray) (a1 : ByteArray) (r : Bool) (w : World) (hr0 : Kd.C Kd.string w A0 l0.length l0) (hc0 : l0.length ≤ c0) (h : slices_Contains_string_string.f k l0 a1 = some r) :
  Calls Tryz.prog 180 #[.slice A0 l0.length c0, .string a1] w fun e w' => e = .returned (.bool r) ∧ Drawn0 w w' := by
 have HR0 := Aside0.mk hr0
 have HC0 := Aside0.mk hc0
 clear hr0 hc0
 have H : ((slices_Index_string_string.f k l0 a1).bind fun t110 => (some (decide (t110 ≥ 0)))) = some r := h
 clear h
 replace H := Option.bind_eq_some_iff.mp H
 obtain ⟨t110, A30, H⟩ := H
 replace H : (some (decide (t110 ≥ 0))) = some r := H
 have A3 := Aside0.mk A30
 clear A30
 obtain rfl := Option.some.inj H
 go_enter Tryz.func180, Tryz.ntmps180
 go_wp2_with (first | ((with_reducible refine gate_callee (f := 193) rfl ?_); refine goesL_ (some 7) rfl rfl Tryz.func193 (by kernel_rfl) rfl #[.slice A0 l0.length c0, .string a1] rfl (by (try simp only [List.map_toArray, List.map_cons, List.map_nil]); first | done | rfl | (simp only [List.length_drop, List.length_take]; rfl)) ?_; (with_reducible refine (slices_Index_string_string.calls k _ _ l0 a1 t110 _ ?side1 ?side2 A3.out).mono ?_); (case side1 => repeat (first | exact HR0.out | (with_reducible refine Kd.C_alloc ?_ _) | (with_reducible refine Kd.C_drewN ?_ _) | (with_reducible refine Kd.C_drew ?_))); (case side2 => exact HC0.out); rintro e w' ⟨rfl, ⟨nd, rfl⟩⟩; refine ⟨_, rfl, ?_⟩))
 go_ret
 exact ⟨by first | rfl | (simp; done) | (simp [*]; done), by repeat (first | exact Drawn0.refl _ | apply Drawn0.step)⟩
end Go.Proofs.YtaofmmnfenlofaaGreatDoor.QTc
namespace Go.Proofs
open Go.Shelf
def Tryz.lays206_ren : Go.Shelf.Ren := ⟨fun | 206 => 182 | n => n, fun | 9 => 9 | 4 => 4 | 3 => 3 | n => n, fun | n => n⟩
theorem Tryz.lays206 : Go.Proofs.Lays.n206 Tryz.prog Tryz.lays206_ren := {
  mixed := by kernel_rfl
  f206 := Tryz.func182.trans (congrArg some (by kernel_rfl))
  t3 := Tryz.underlying3
  a3 := Tryz.isAgg3
  z3 := Tryz.sizeOf3
  v3 := Tryz.zeroValue3
  t4 := Tryz.underlying4
  a4 := Tryz.isAgg4
  z4 := Tryz.sizeOf4
  v4 := Tryz.zeroValue4
  t9 := Tryz.underlying9
  a9 := Tryz.isAgg9
  z9 := Tryz.sizeOf9
  v9 := Tryz.zeroValue9 }
open Go.RowKit Go.Lib in
theorem Tryz.stringslite_HasPrefix (s p : ByteArray) (w : World) :
    Calls Tryz.prog 182 #[.string s, .string p] w fun e w' => e = .returned (.bool (Lib.hasPrefix s.data.toList p.data.toList)) ∧ w' = w := Any.stringslite_HasPrefix Tryz.lays206 s p w
def Tryz.lays99_ren : Go.Shelf.Ren := ⟨fun | 99 => 164 | 206 => 182 | n => n, fun | 9 => 9 | 4 => 4 | 3 => 3 | n => n, fun | n => n⟩
theorem Tryz.lays99 : Go.Proofs.Lays.n99 Tryz.prog Tryz.lays99_ren := {
  mixed := by kernel_rfl
  f99 := Tryz.func164.trans (congrArg some (by kernel_rfl))
  f206 := Tryz.func182.trans (congrArg some (by kernel_rfl))
  t3 := Tryz.underlying3
  a3 := Tryz.isAgg3
  z3 := Tryz.sizeOf3
  v3 := Tryz.zeroValue3
  t4 := Tryz.underlying4
  a4 := Tryz.isAgg4
  z4 := Tryz.sizeOf4
  v4 := Tryz.zeroValue4
  t9 := Tryz.underlying9
  a9 := Tryz.isAgg9
  z9 := Tryz.sizeOf9
  v9 := Tryz.zeroValue9 }
open Go.RowKit Go.Lib in
theorem Tryz.strings_HasPrefix (s p : ByteArray) (w : World) :
    Calls Tryz.prog 164 #[.string s, .string p] w fun e w' => e = .returned (.bool (Lib.hasPrefix s.data.toList p.data.toList)) ∧ w' = w := Any.strings_HasPrefix Tryz.lays99 s p w
def Tryz.lays157_ren : Go.Shelf.Ren := ⟨fun | 157 => 194 | 229 => 204 | 199 => 205 | 261 => 211 | 311 => 212 | 312 => 213 | n => n, fun | 9 => 9 | 31 => 206 | 3 => 3 | 5 => 5 | 4 => 4 | 119 => 250 | 0 => 0 | 40 => 252 | 152 => 257 | 21 => 21 | 154 => 259 | 51 => 244 | 141 => 261 | 196 => 266 | 193 => 263 | 198 => 269 | 49 => 267 | 194 => 264 | 201 => 272 | 226 => 274 | 46 => 210 | 227 => 275 | n => n, fun | 0 => 3 | 6 => 5 | n => n⟩
theorem Tryz.lays157 : Go.Proofs.Lays.n157 Tryz.prog Tryz.lays157_ren := {
  mixed := by kernel_rfl
  f157 := Tryz.func194.trans (congrArg some (by kernel_rfl))
  f199 := Tryz.func205.trans (congrArg some (by kernel_rfl))
  f229 := Tryz.func204.trans (congrArg some (by kernel_rfl))
  f261 := Tryz.func211.trans (congrArg some (by kernel_rfl))
  f311 := Tryz.func212.trans (congrArg some (by kernel_rfl))
  f312 := Tryz.func213.trans (congrArg some (by kernel_rfl))
  t0 := Tryz.underlying0
  a0 := Tryz.isAgg0
  z0 := Tryz.sizeOf0
  v0 := Tryz.zeroValue0
  t3 := Tryz.underlying3
  a3 := Tryz.isAgg3
  z3 := Tryz.sizeOf3
  v3 := Tryz.zeroValue3
  t4 := Tryz.underlying4
  a4 := Tryz.isAgg4
  z4 := Tryz.sizeOf4
  v4 := Tryz.zeroValue4
  t5 := Tryz.underlying5
  a5 := Tryz.isAgg5
  z5 := Tryz.sizeOf5
  v5 := Tryz.zeroValue5
  t9 := Tryz.underlying9
  a9 := Tryz.isAgg9
  z9 := Tryz.sizeOf9
  v9 := Tryz.zeroValue9
  t21 := Tryz.underlying21
  a21 := Tryz.isAgg21
  z21 := Tryz.sizeOf21
  v21 := Tryz.zeroValue21
  t31 := Tryz.underlying206
  a31 := Tryz.isAgg206
  z31 := Tryz.sizeOf206
  v31 := Tryz.zeroValue206
  t40 := Tryz.underlying252
  a40 := Tryz.isAgg252
  z40 := Tryz.sizeOf252
  v40 := Tryz.zeroValue252
  t46 := Tryz.underlying210
  a46 := Tryz.isAgg210
  z46 := Tryz.sizeOf210
  v46 := Tryz.zeroValue210
  t49 := Tryz.underlying267
  a49 := Tryz.isAgg267
  z49 := Tryz.sizeOf267
  v49 := Tryz.zeroValue267
  t51 := Tryz.underlying244
  a51 := Tryz.isAgg244
  z51 := Tryz.sizeOf244
  v51 := Tryz.zeroValue244
  t119 := Tryz.underlying250
  a119 := Tryz.isAgg250
  z119 := Tryz.sizeOf250
  t141 := Tryz.underlying261
  a141 := Tryz.isAgg261
  z141 := Tryz.sizeOf261
  v141 := Tryz.zeroValue261
  t152 := Tryz.underlying257
  a152 := Tryz.isAgg257
  z152 := Tryz.sizeOf257
  v152 := Tryz.zeroValue257
  t154 := Tryz.underlying259
  a154 := Tryz.isAgg259
  z154 := Tryz.sizeOf259
  v154 := Tryz.zeroValue259
  t193 := Tryz.underlying263
  a193 := Tryz.isAgg263
  z193 := Tryz.sizeOf263
  v193 := Tryz.zeroValue263
  t194 := Tryz.underlying264
  a194 := Tryz.isAgg264
  z194 := Tryz.sizeOf264
  v194 := Tryz.zeroValue264
  t196 := Tryz.underlying266
  a196 := Tryz.isAgg266
  z196 := Tryz.sizeOf266
  v196 := Tryz.zeroValue266
  t198 := Tryz.underlying269
  a198 := Tryz.isAgg269
  z198 := Tryz.sizeOf269
  v198 := Tryz.zeroValue269
  t201 := Tryz.underlying272
  a201 := Tryz.isAgg272
  z201 := Tryz.sizeOf272
  v201 := Tryz.zeroValue272
  t226 := Tryz.underlying274
  a226 := Tryz.isAgg274
  z226 := Tryz.sizeOf274
  v226 := Tryz.zeroValue274
  t227 := Tryz.underlying275
  a227 := Tryz.isAgg275
  z227 := Tryz.sizeOf275
  v227 := Tryz.zeroValue275
  g0 := by kernel_rfl
  g6 := by kernel_rfl }
open Go.RowKit Go.Lib in
theorem Tryz.strings_Fields (s : ByteArray) (w : World) (hs : s.size < 4294967281) (hascii : ∀ (j : Nat) b, s.data.toList[j]? = some b → b.toNat < 128) (htab : Lib.TabIs Tryz.prog w "strings.asciiSpace" .u8 Lib.asciiSpaceTab) :
    Calls Tryz.prog 194 #[.string s] w fun e w' =>
      e = .returned (.slice (some ⟨w.heap.size, 0, none⟩) (Lib.fields s.data.toList).length (Lib.fields s.data.toList).length) ∧ w' = w.alloc (.cells ((Lib.fields s.data.toList).map fun l => Value.string ⟨l.toArray⟩).toArray 9) := Any.strings_Fields Tryz.lays157 (by kernel_rfl) (by kernel_rfl) s w hs hascii htab
end Go.Proofs
namespace Go.Proofs.YtaofmmnfenlofaaGreatDoor.QTc
open Go.RowKit Go.Proofs.YtaofmmnfenlofaaGreatDoorW.PrintWords Go.Proofs.YtaofmmnfenlofaaGreatDoorW.PrintLast Go.Proofs.YtaofmmnfenlofaaGreatDoorW.PrintMore
set_option linter.unusedVariables false
set_option linter.unusedSimpArgs false
theorem cntF_le : ∀ (l : List UInt8) (b : Bool), Lib.cntF b l ≤ l.length
  | [], _ => by simp [Lib.cntF]
  | c :: l, b => by
    unfold Lib.cntF
    have := cntF_le l (Lib.isSp c)
    rw [List.length_cons]
    split <;> omega
theorem fields_len (l : List UInt8) : (Lib.fields l).length ≤ l.length + 1 := by
  unfold Lib.fields
  rw [Lib.fieldsGo_length]
  have := cntF_le l true
  simp
  omega
def strings_Fields.f (a0 : ByteArray) : Option (List ByteArray) :=
  if a0.size < 4294967281 ∧ (a0.data.toList.all fun b => decide (b.toNat < 128)) = true then some ((Lib.fields a0.data.toList).map fun l => ⟨l.toArray⟩) else none
theorem strings_Fields.calls (a0 : ByteArray) (r : List ByteArray) (w : World) (hT : TabW w) (h : strings_Fields.f a0 = some r) :
    Calls Tryz.prog 194 #[.string a0] w fun e w' => ∃ v, e = .returned v ∧ Kd.R Kd.string 9 w' w.heap.size (fun _ => True) v r ∧ Below w.heap.size w w' := by
  unfold strings_Fields.f at h
  by_cases hr : a0.size < 4294967281 ∧ (a0.data.toList.all fun b => decide (b.toNat < 128)) = true
  · rw [if_pos hr] at h
    obtain rfl := Option.some.inj h
    obtain ⟨h0, h1⟩ := hr
    have hlen : (Lib.fields a0.data.toList).length ≤ 9223372036854775807 := by
      have := fields_len a0.data.toList
      have h2 : a0.data.toList.length = a0.size := by simp
      omega
    have ha : ∀ (j : Nat) b, a0.data.toList[j]? = some b → b.toNat < 128 := fun j b hj => by
      have := List.all_eq_true.mp h1 b (List.mem_of_getElem? hj)
      exact of_decide_eq_true this
    refine (Tryz.strings_Fields a0 w h0 ha hT.2).mono fun e w' ⟨he, hw⟩ => ⟨_, he, ?_, by rw [hw]; exact Below.alloc (Below.refl _ _) (Nat.le_refl _) _⟩
    subst hw
    generalize Lib.fields a0.data.toList = L at hlen ⊢
    refine ⟨fun _ _ => trivial, ?_⟩
    have hR : Reps (Kd.string.M (w.alloc (.cells ((L.map fun l => Value.string ⟨l.toArray⟩).toArray) 9)) w.heap.size (fun k => True ∧ some k ≠ (Value.slice (some ⟨w.heap.size, 0, none⟩) L.length L.length).ownBlock)) 1 (L.map fun l => (⟨l.toArray⟩ : ByteArray)) (L.map fun l => Value.string ⟨l.toArray⟩) := by
      refine ⟨by simp, fun j p hj => ?_⟩
      rw [List.getElem?_map] at hj
      obtain ⟨x, hx, rfl⟩ := Option.map_eq_some_iff.mp hj
      show _ = [Value.string _]
      rw [Nat.mul_one]
      have hlt : j < (L.map fun l => Value.string ⟨l.toArray⟩).length := by
        rcases Nat.lt_or_ge j L.length with q | q
        · simpa using q
        · rw [List.getElem?_eq_none q] at hx; cases hx
      rw [List.drop_eq_getElem_cons hlt]
      rw [List.getElem?_eq_some_iff] at hx
      obtain ⟨hq, rfl⟩ := hx
      simp
    have := OwnRow.lit (e := 9) w w.heap.size hR (Nat.le_refl _) (by rw [List.length_map]; exact hlen)
    have hz : Kd.string.sz = 1 := rfl
    rw [hz]
    simpa using this
  · rw [if_neg hr] at h; cases h
end Go.Proofs.YtaofmmnfenlofaaGreatDoor.QTc
namespace Go.Proofs.YtaofmmnfenlofaaGreatDoor.QTc
open Go.RowKit Go.Proofs.YtaofmmnfenlofaaGreatDoorW.PrintWords Go.Proofs.YtaofmmnfenlofaaGreatDoorW.PrintLast Go.Proofs.YtaofmmnfenlofaaGreatDoorW.PrintMore
attribute [local go_sem] max2_int min2_int max_two min_two max_three min_three max_four min_four
set_option linter.unusedVariables false
set_option linter.unusedSimpArgs false
def lex_Words.f  : Option (List ByteArray) := (strings_Fields.f (⟨#[114, 101, 108, 111, 97, 100, 32, 116, 97, 115, 107, 32, 112, 101, 114, 105, 111, 100, 32, 100, 101, 97, 100, 108, 105, 110, 101, 32, 102, 105, 120, 101, 100, 32, 102, 108, 111, 97, 116, 32, 116, 104, 114, 101, 115, 104, 32, 114, 101, 103, 105, 111, 110, 115, 32, 101, 99, 98, 32, 117, 99, 98]⟩ : ByteArray)).bind fun t114 => (some t114)
set_option maxHeartbeats 8000000 in
set_option maxRecDepth 100000 in
theorem lex_Words.calls  (r : List ByteArray) (w : World) (hT : TabW w) (h : lex_Words.f  = some r) :
  Calls Tryz.prog 181 #[] w fun e w' => ∃ v0_ : Value, e = .returned (v0_) ∧ Kd.R Kd.string 9 w' w.heap.size (fun _ => True) v0_ r ∧ Below w.heap.size w w' := by
 have HT := Aside0.mk hT
 clear hT
 have HB := Aside0.mk (Below.refl w.heap.size w)
 have H : ((strings_Fields.f (⟨#[114, 101, 108, 111, 97, 100, 32, 116, 97, 115, 107, 32, 112, 101, 114, 105, 111, 100, 32, 100, 101, 97, 100, 108, 105, 110, 101, 32, 102, 105, 120, 101, 100, 32, 102, 108, 111, 97, 116, 32, 116, 104, 114, 101, 115, 104, 32, 114, 101, 103, 105, 111, 110, 115, 32, 101, 99, 98, 32, 117, 99, 98]⟩ : ByteArray)).bind fun t114 => (some t114)) = some r := h
 clear h
 replace H := Option.bind_eq_some_iff.mp H
 obtain ⟨t114, A10, H⟩ := H
 replace H : (some t114) = some r := H
 have A1 := Aside0.mk A10
 clear A10
 obtain rfl := Option.some.inj H
 go_enter Tryz.func181, Tryz.ntmps181
 go_wp2_with (first | ((with_reducible refine gate_callee (f := 194) rfl ?_); refine goesL_ (some 1) rfl rfl Tryz.func194 (by kernel_rfl) rfl #[.string (⟨#[114, 101, 108, 111, 97, 100, 32, 116, 97, 115, 107, 32, 112, 101, 114, 105, 111, 100, 32, 100, 101, 97, 100, 108, 105, 110, 101, 32, 102, 105, 120, 101, 100, 32, 102, 108, 111, 97, 116, 32, 116, 104, 114, 101, 115, 104, 32, 114, 101, 103, 105, 111, 110, 115, 32, 101, 99, 98, 32, 117, 99, 98]⟩ : ByteArray)] rfl (by (try simp only [List.map_toArray, List.map_cons, List.map_nil]); first | done | rfl | (simp only [List.length_drop, List.length_take]; rfl)) ?_; (with_reducible refine (strings_Fields.calls (hT := ?sideT) (⟨#[114, 101, 108, 111, 97, 100, 32, 116, 97, 115, 107, 32, 112, 101, 114, 105, 111, 100, 32, 100, 101, 97, 100, 108, 105, 110, 101, 32, 102, 105, 120, 101, 100, 32, 102, 108, 111, 97, 116, 32, 116, 104, 114, 101, 115, 104, 32, 114, 101, 103, 105, 111, 110, 115, 32, 101, 99, 98, 32, 117, 99, 98]⟩ : ByteArray) t114 _ A1.out).mono ?_); (case sideT => first | with_reducible exact HT.out | refine TabW.below HT.out ?_; repeat (first | (with_reducible first | exact HB.out | apply below_alloc | apply pw_below_drewN | apply below_drew1) | exact HB.out | exact Below.refl _ _)); rintro e w2 ⟨v115, rfl, ho0, hb⟩; refine ⟨_, rfl, ?_⟩; have n0_ := Aside0.mk (Kd.R_lower ho0 (below_size (by repeat (first | (with_reducible first | exact HB.out | apply below_alloc | apply pw_below_drewN | apply below_drew1) | exact HB.out)))); have n1_ := Aside0.mk (below_step (by repeat (first | (with_reducible first | exact HB.out | apply below_alloc | apply pw_below_drewN | apply below_drew1) | exact HB.out)) hb); clear HB; have HO116 := n0_; have HB := n1_; clear n0_ n1_; (try clear hb); (try clear hb2); (try clear hk); (try clear hi); (try clear ho0)))
 go_ret
 exact ⟨_, by first | rfl | (simp [errW_none, errW_some] <;> rfl) | (simp [*, errW_none, errW_some] <;> rfl), by (with_reducible repeat (first | apply Kd.R_alloc | apply Kd.R_drewN | apply Kd.R_drew)); exact HO116.out, by repeat (first | (with_reducible first | exact HB.out | apply below_alloc | apply pw_below_drewN | apply below_drew1) | exact HB.out)⟩
def lex_isDigit.f (a0 : Int) : Option (Bool) := if a0 ≥ 48 then (some (decide (a0 ≤ 57))) else (some false)
set_option maxHeartbeats 8000000 in
set_option maxRecDepth 100000 in
theorem lex_isDigit.calls (a0 : Int) (r : Bool) (w : World) (h : lex_isDigit.f a0 = some r) :
  Calls Tryz.prog 162 #[.int .u8 a0] w fun e w' => e = .returned (.bool r) ∧ Drawn0 w w' := by
 have H : (if a0 ≥ 48 then (some (decide (a0 ≤ 57))) else (some false)) = some r := h
 clear h
 by_cases c2 : a0 ≥ 48
 ·rw [if_pos c2] at H
  have c2b0 : decide (48 ≤ a0) = true := decide_eq_true c2
  clear c2
  obtain rfl := Option.some.inj H
  go_enter Tryz.func162, Tryz.ntmps162
  go_wp2
  go_ret
  exact ⟨by first | rfl | (simp; done) | (simp [*]; done), by repeat (first | exact Drawn0.refl _ | apply Drawn0.step)⟩
 ·rw [if_neg c2] at H
  have c2b0 : decide (48 ≤ a0) = false := decide_eq_false c2
  clear c2
  obtain rfl := Option.some.inj H
  go_enter Tryz.func162, Tryz.ntmps162
  go_wp2
  go_ret
  exact ⟨by first | rfl | (simp; done) | (simp [*]; done), by repeat (first | exact Drawn0.refl _ | apply Drawn0.step)⟩
def lex_isMore.f (a0 : Int) : Option (Bool) := (lex_isLetter.f a0).bind fun t107 => (if t107 = true then (some true) else ((lex_isDigit.f a0).bind fun t108 => (if t108 = true then (some true) else (some (a0 == 95)))))
set_option maxHeartbeats 8000000 in
set_option maxRecDepth 100000 in
theorem lex_isMore.calls (a0 : Int) (r : Bool) (w : World) (h : lex_isMore.f a0 = some r) :
  Calls Tryz.prog 179 #[.int .u8 a0] w fun e w' => e = .returned (.bool r) ∧ Drawn0 w w' := by
 have H : ((lex_isLetter.f a0).bind fun t107 => (if t107 = true then (some true) else ((lex_isDigit.f a0).bind fun t108 => (if t108 = true then (some true) else (some (a0 == 95)))))) = some r := h
 clear h
 replace H := Option.bind_eq_some_iff.mp H
 obtain ⟨t107, A20, H⟩ := H
 replace H : (if t107 = true then (some true) else ((lex_isDigit.f a0).bind fun t108 => (if t108 = true then (some true) else (some (a0 == 95))))) = some r := H
 have A2 := Aside0.mk A20
 clear A20
 by_cases c3 : t107 = true
 ·subst c3
  have H1 : (some true) = some r := by rw [if_pos rfl] at H; exact H
  clear H
  have H := H1
  clear H1
  obtain rfl := Option.some.inj H
  go_enter Tryz.func179, Tryz.ntmps179
  go_wp2_with (first | ((with_reducible refine gate_callee (f := 160) rfl ?_); refine goesL_ (some 4) rfl rfl Tryz.func160 (by kernel_rfl) rfl #[.int .u8 a0] rfl (by (try simp only [List.map_toArray, List.map_cons, List.map_nil]); first | done | rfl | (simp only [List.length_drop, List.length_take]; rfl)) ?_; (with_reducible refine (lex_isLetter.calls a0 true _ A2.out).mono ?_); rintro e w' ⟨rfl, ⟨nd, rfl⟩⟩; refine ⟨_, rfl, ?_⟩))
  go_ret
  exact ⟨by first | rfl | (simp; done) | (simp [*]; done), by repeat (first | exact Drawn0.refl _ | apply Drawn0.step)⟩
 ·replace c3 := Bool.eq_false_iff.mpr c3
  subst c3
  have H1 : ((lex_isDigit.f a0).bind fun t108 => (if t108 = true then (some true) else (some (a0 == 95)))) = some r := by rw [if_neg (show ¬ (false = true) by decide)] at H; exact H
  clear H
  have H := H1
  clear H1
  replace H := Option.bind_eq_some_iff.mp H
  obtain ⟨t108, A40, H⟩ := H
  replace H : (if t108 = true then (some true) else (some (a0 == 95))) = some r := H
  have A4 := Aside0.mk A40
  clear A40
  by_cases c5 : t108 = true
  ·subst c5
   have H1 : (some true) = some r := by rw [if_pos rfl] at H; exact H
   clear H
   have H := H1
   clear H1
   obtain rfl := Option.some.inj H
   go_enter Tryz.func179, Tryz.ntmps179
   go_wp2_with (first | ((with_reducible refine gate_callee (f := 160) rfl ?_); refine goesL_ (some 4) rfl rfl Tryz.func160 (by kernel_rfl) rfl #[.int .u8 a0] rfl (by (try simp only [List.map_toArray, List.map_cons, List.map_nil]); first | done | rfl | (simp only [List.length_drop, List.length_take]; rfl)) ?_; (with_reducible refine (lex_isLetter.calls a0 false _ A2.out).mono ?_); rintro e w' ⟨rfl, ⟨nd, rfl⟩⟩; refine ⟨_, rfl, ?_⟩) | (go_at_call 162; (with_reducible refine (lex_isDigit.calls a0 true _ A4.out).mono ?_); rintro e w' ⟨rfl, ⟨nd, rfl⟩⟩))
   go_ret
   exact ⟨by first | rfl | (simp; done) | (simp [*]; done), by repeat (first | exact Drawn0.refl _ | apply Drawn0.step)⟩
  ·replace c5 := Bool.eq_false_iff.mpr c5
   subst c5
   have H1 : (some (a0 == 95)) = some r := by rw [if_neg (show ¬ (false = true) by decide)] at H; exact H
   clear H
   have H := H1
   clear H1
   obtain rfl := Option.some.inj H
   go_enter Tryz.func179, Tryz.ntmps179
   go_wp2_with (first | ((with_reducible refine gate_callee (f := 160) rfl ?_); refine goesL_ (some 4) rfl rfl Tryz.func160 (by kernel_rfl) rfl #[.int .u8 a0] rfl (by (try simp only [List.map_toArray, List.map_cons, List.map_nil]); first | done | rfl | (simp only [List.length_drop, List.length_take]; rfl)) ?_; (with_reducible refine (lex_isLetter.calls a0 false _ A2.out).mono ?_); rintro e w' ⟨rfl, ⟨nd, rfl⟩⟩; refine ⟨_, rfl, ?_⟩) | (go_at_call 162; (with_reducible refine (lex_isDigit.calls a0 false _ A4.out).mono ?_); rintro e w' ⟨rfl, ⟨nd, rfl⟩⟩))
   go_ret
   exact ⟨by first | rfl | (simp; done) | (simp [*]; done), by repeat (first | exact Drawn0.refl _ | apply Drawn0.step)⟩
end Go.Proofs.YtaofmmnfenlofaaGreatDoor.QTc
namespace Go.Proofs.YtaofmmnfenlofaaGreatDoor.QTc
open Go.RowKit Go.Proofs.YtaofmmnfenlofaaGreatDoorW.PrintWords Go.Proofs.YtaofmmnfenlofaaGreatDoorW.PrintLast Go.Proofs.YtaofmmnfenlofaaGreatDoorW.PrintMore
set_option linter.unusedVariables false
set_option linter.unusedSimpArgs false
def plen (p : UInt8 → Bool) : List UInt8 → Nat
  | [] => 0
  | c :: r => if p c = true then plen p r + 1 else 0
theorem plen_le (p : UInt8 → Bool) : ∀ l, plen p l ≤ l.length
  | [] => Nat.le_refl _
  | c :: r => by
    unfold plen
    split
    · have := plen_le p r; rw [List.length_cons]; omega
    · exact Nat.zero_le _
set_option maxHeartbeats 4000000 in
theorem run_calls (fn : FuncId) (p : UInt8 → Bool) (s : ByteArray) (hs : s.size ≤ 100000) (hp : ∀ (c : UInt8) (w : World), Calls Tryz.prog fn #[.int .u8 c.toNat] w fun e w' => e = .returned (.bool (p c)) ∧ Drawn0 w w')
    (fd : Func) (hf : Tryz.prog.funcs[fn]? = some fd) (hname : (fd.name == "runtime.NumGoroutine") = false) (hb : fd.body.isSome = true) (w : World) :
    Calls Tryz.prog 158 #[.string s, .func (.func fn) #[] #[]] w fun e w' => e = .returned (.int .i64 (plen p s.data.toList : Nat)) ∧ Drawn0 w w' := by
  have HP := Aside0.mk hp
  have HE := Aside0.mk (fun (args : Array Value) (w : World) => enters_ hf hname hb args w)
  clear hp hf hname hb
  go_enter Tryz.func158, Tryz.ntmps158
  go_wp2
  go_loopg [5] (s.size + 1) (fun kq v5 w' => ∃ i : Nat, kq + i = s.size + 1 ∧ v5 = .int .i64 (i : Int) ∧ i ≤ s.size ∧ i + plen p (s.data.toList.drop i) = plen p s.data.toList ∧ Drawn0 w w')
  case atStart => exact ⟨0, by omega, rfl, by omega, by simp, Drawn0.refl _⟩
  case round =>
    obtain ⟨i, hq, rfl, hi, hl, hB⟩ := hrel
    cases gk with
    | zero => exfalso; omega
    | succ k1 =>
    by_cases hlt : i < s.size
    · have hlt1 : decide ((i : Int) < (s.size : Int)) = true := decide_eq_true (by omega)
      have hdrop : s.data.toList.drop i = s[i] :: s.data.toList.drop (i + 1) := by
        rw [List.drop_eq_getElem_cons (by simpa using hlt)]; rfl
      rw [hdrop, plen] at hl
      have h0 := HP.out s[i]
      have i0 : decide (0 ≤ (i : Int)) = true := decide_eq_true (by omega)
      have HE' := HE.out
      have hw1 : wrap64 ((i : Int) + 1) = ((i + 1 : Nat) : Int) := by unfold wrap64; omega
      by_cases hc : p s[i] = true
      · rw [if_pos hc] at hl
        rw [hc] at h0
        go_wp2_with (first | ((with_reducible refine (h0 _).mono ?_); rintro e w1 ⟨rfl, ⟨nd, rfl⟩⟩))
        go_roundg k1
        case measure => exact Nat.lt_succ_self _
        case rel => exact ⟨i + 1, by omega, by rw [show ((i : Int) + 1) = ((i + 1 : Nat) : Int) by omega], by omega, by omega, by repeat (first | exact hB | apply Drawn0.step)⟩
      · rw [if_neg hc] at hl
        rw [Bool.eq_false_iff.mpr hc] at h0
        go_wp2_with (first | ((with_reducible refine (h0 _).mono ?_); rintro e w1 ⟨rfl, ⟨nd, rfl⟩⟩))
        go_wp2
        go_ret
        rw [← hl]
        exact ⟨by first | rfl | (simp; done), by repeat (first | exact hB | apply Drawn0.step)⟩
    · have hlt1 : decide ((i : Int) < (s.size : Int)) = false := decide_eq_false (by omega)
      rw [List.drop_of_length_le (by simp; omega), plen] at hl
      go_wp2
      go_ret
      rw [← hl]
      exact ⟨by first | rfl | (simp; done), hB⟩
def isLetterB (c : UInt8) : Bool := decide (97 ≤ c.toNat ∧ c.toNat ≤ 122)
def isDigitB (c : UInt8) : Bool := decide (48 ≤ c.toNat ∧ c.toNat ≤ 57)
def isMoreB (c : UInt8) : Bool := isLetterB c || isDigitB c || decide (c.toNat = 95)
theorem letter_f (c : UInt8) : lex_isLetter.f (c.toNat : Int) = some (isLetterB c) := by
  unfold lex_isLetter.f isLetterB
  by_cases h : 97 ≤ c.toNat
  · rw [if_pos (by omega)]; simp [h]; omega
  · rw [if_neg (by omega)]; simp [h]
theorem digit_f (c : UInt8) : lex_isDigit.f (c.toNat : Int) = some (isDigitB c) := by
  unfold lex_isDigit.f isDigitB
  by_cases h : 48 ≤ c.toNat
  · rw [if_pos (by omega)]; simp [h]; omega
  · rw [if_neg (by omega)]; simp [h]
theorem more_f (c : UInt8) : lex_isMore.f (c.toNat : Int) = some (isMoreB c) := by
  unfold lex_isMore.f
  rw [letter_f, digit_f]
  unfold isMoreB
  have e : ((c.toNat : Int) == 95) = decide (c.toNat = 95) := by
    rw [Bool.eq_iff_iff]; simp; omega
  cases h1 : isLetterB c <;> cases h2 : isDigitB c <;> simp [e]
def lex_runMore.f (a0 : ByteArray) : Option Int := if a0.size ≤ 100000 then some (plen isMoreB a0.data.toList : Nat) else none
theorem lex_runMore.calls (a0 : ByteArray) (r : Int) (w : World) (h : lex_runMore.f a0 = some r) :
    Calls Tryz.prog 158 #[.string a0, .func (.func 179) #[] #[]] w fun e w' => e = .returned (.int .i64 r) ∧ Drawn0 w w' := by
  unfold lex_runMore.f at h
  by_cases hr : a0.size ≤ 100000
  · rw [if_pos hr] at h
    obtain rfl := Option.some.inj h
    exact run_calls _ isMoreB a0 hr (fun c w => lex_isMore.calls _ _ w (more_f c)) _ Tryz.func179 (by kernel_rfl) rfl w
  · rw [if_neg hr] at h; cases h
def lex_runDigit.f (a0 : ByteArray) : Option Int := if a0.size ≤ 100000 then some (plen isDigitB a0.data.toList : Nat) else none
theorem lex_runDigit.calls (a0 : ByteArray) (r : Int) (w : World) (h : lex_runDigit.f a0 = some r) :
    Calls Tryz.prog 158 #[.string a0, .func (.func 162) #[] #[]] w fun e w' => e = .returned (.int .i64 r) ∧ Drawn0 w w' := by
  unfold lex_runDigit.f at h
  by_cases hr : a0.size ≤ 100000
  · rw [if_pos hr] at h
    obtain rfl := Option.some.inj h
    exact run_calls _ isDigitB a0 hr (fun c w => lex_isDigit.calls _ _ w (digit_f c)) _ Tryz.func162 (by kernel_rfl) rfl w
  · rw [if_neg hr] at h; cases h
def notFeed (c : UInt8) : Bool := decide (c.toNat ≠ 10)
set_option maxHeartbeats 1000000 in
theorem feed_calls (c : UInt8) (w : World) : Calls Tryz.prog 159 #[.int .u8 c.toNat] w fun e w' => e = .returned (.bool (notFeed c)) ∧ Drawn0 w w' := by
  have e : ((c.toNat : Int) != 10) = notFeed c := by
    unfold notFeed
    rw [Bool.eq_iff_iff]; simp; omega
  generalize notFeed c = r at e ⊢
  go_enter Tryz.func159, Tryz.ntmps159
  go_wp2
  go_ret
  exact ⟨by first | rfl | (simp; done) | (simp [*]; done), by repeat (first | exact Drawn0.refl _ | apply Drawn0.step)⟩
def gapN : List UInt8 → Nat
  | [] => 0
  | c :: r => if c.toNat = 32 ∨ c.toNat = 10 then 1 else if c.toNat = 35 then plen notFeed (c :: r) else 0
set_option maxHeartbeats 4000000 in
theorem lex_gap.calls (s : ByteArray) (hs : s.size ≤ 100000) (h0 : 0 < s.size) (w : World) :
    Calls Tryz.prog 135 #[.string s] w fun e w' => e = .returned (.int .i64 (gapN s.data.toList : Nat)) ∧ Drawn0 w w' := by
  have hl : s.data.toList = s[0] :: s.data.toList.drop 1 := by
    have := List.drop_eq_getElem_cons (l := s.data.toList) (i := 0) (by simpa using h0)
    rw [List.drop_zero] at this; exact this
  have hg : gapN s.data.toList = if s[0].toNat = 32 ∨ s[0].toNat = 10 then 1 else if s[0].toNat = 35 then plen notFeed s.data.toList else 0 := by
    conv => lhs; rw [hl, gapN]
    rw [← hl]
  rw [hg]
  have R := fun w => run_calls _ notFeed s hs (fun c w => feed_calls c w) _ Tryz.func159 (by kernel_rfl) rfl w
  clear hg hl
  have h00 : decide ((0 : Int) < (s.size : Int)) = true := decide_eq_true (by omega)
  by_cases c1 : s[0].toNat = 32
  · have e1 : ((s[0].toNat : Int) == 32) = true := by simp; omega
    rw [if_pos (Or.inl c1)]
    clear R c1
    go_enter Tryz.func135, Tryz.ntmps135
    go_wp2
    go_ret
    exact ⟨by first | rfl | (simp; done) | (simp [*]; done), by repeat (first | exact Drawn0.refl _ | apply Drawn0.step)⟩
  · have e1 : ((s[0].toNat : Int) == 32) = false := by simp; omega
    by_cases c2 : s[0].toNat = 10
    · have e2 : ((s[0].toNat : Int) == 10) = true := by simp; omega
      rw [if_pos (Or.inr c2)]
      clear R c1 c2
      go_enter Tryz.func135, Tryz.ntmps135
      go_wp2
      go_ret
      exact ⟨by first | rfl | (simp; done) | (simp [*]; done), by repeat (first | exact Drawn0.refl _ | apply Drawn0.step)⟩
    · have e2 : ((s[0].toNat : Int) == 10) = false := by simp; omega
      rw [if_neg (by omega)]
      by_cases c3 : s[0].toNat = 35
      · have e3 : ((s[0].toNat : Int) == 35) = true := by simp; omega
        rw [if_pos c3]
        generalize plen notFeed s.data.toList = n at R ⊢
        have RA := Aside0.mk R
        clear R c1 c2 c3
        go_enter Tryz.func135, Tryz.ntmps135
        go_wp2_with (go_at_call 158; (with_reducible refine (RA.out _).mono ?_); rintro e w' ⟨rfl, ⟨nd, rfl⟩⟩)
        go_ret
        exact ⟨by first | rfl | (simp; done) | (simp [*]; done), by repeat (first | exact Drawn0.refl _ | apply Drawn0.step)⟩
      · have e3 : ((s[0].toNat : Int) == 35) = false := by simp; omega
        rw [if_neg c3]
        clear R c1 c2 c3
        go_enter Tryz.func135, Tryz.ntmps135
        go_wp2
        go_ret
        exact ⟨by first | rfl | (simp; done) | (simp [*]; done), by repeat (first | exact Drawn0.refl _ | apply Drawn0.step)⟩
end Go.Proofs.YtaofmmnfenlofaaGreatDoor.QTc
namespace Go.Proofs.YtaofmmnfenlofaaGreatDoor.QTc
open Go.RowKit Go.Proofs.YtaofmmnfenlofaaGreatDoorW.PrintWords Go.Proofs.YtaofmmnfenlofaaGreatDoorW.PrintLast Go.Proofs.YtaofmmnfenlofaaGreatDoorW.PrintMore
attribute [local go_sem] max2_int min2_int max_two min_two max_three min_three max_four min_four
set_option linter.unusedVariables false
set_option linter.unusedSimpArgs false
def lex_name.f (k : Nat) (a0 : ByteArray) : Option (Int × ByteArray × Int × Int × Int × Bool) := (lex_runMore.f a0).bind fun t118 => (if 0 ≤ t118 then (if t118 ≤ (a0.size : Int) then ((lex_Words.f).bind fun t120 => ((slices_Contains_string_string.f k t120 (a0.extract 0 (t118 : Int).toNat)).bind fun t123 => (if t123 = true then (some (3, a0.extract 0 (t118 : Int).toNat, 0, 0, t118, decide (t118 ≤ 12))) else (some (1, a0.extract 0 (t118 : Int).toNat, 0, 0, t118, decide (t118 ≤ 12)))))) else (none)) else (none))
set_option maxHeartbeats 8000000 in
set_option maxRecDepth 100000 in
theorem lex_name.calls (k : Nat) (a0 : ByteArray) (r1 : Int) (r2 : ByteArray) (r3 : Int) (r4 : Int) (r5 : Int) (r6 : Bool) (w : World) (hT : TabW w) (h : lex_name.f k a0 = some (r1, r2, r3, r4, r5, r6)) :
  Calls Tryz.prog 161 #[.string a0] w fun e w' => e = .returned (.tuple #[.agg #[.int .i64 r1, .string r2, .int .i64 r3, .int .i64 r4], .int .i64 r5, .bool r6]) ∧ Below w.heap.size w w' := by
 have HT := Aside0.mk hT
 clear hT
 have hu155 := Tryz.underlying155
 have HB := Aside0.mk (Below.refl w.heap.size w)
 have H : ((lex_runMore.f a0).bind fun t118 => (if 0 ≤ t118 then (if t118 ≤ (a0.size : Int) then ((lex_Words.f).bind fun t120 => ((slices_Contains_string_string.f k t120 (a0.extract 0 (t118 : Int).toNat)).bind fun t123 => (if t123 = true then (some (3, a0.extract 0 (t118 : Int).toNat, 0, 0, t118, decide (t118 ≤ 12))) else (some (1, a0.extract 0 (t118 : Int).toNat, 0, 0, t118, decide (t118 ≤ 12)))))) else (none)) else (none))) = some (r1, r2, r3, r4, r5, r6) := h
 clear h
 replace H := Option.bind_eq_some_iff.mp H
 obtain ⟨t118, A20, H⟩ := H
 replace H : (if 0 ≤ t118 then (if t118 ≤ (a0.size : Int) then ((lex_Words.f).bind fun t120 => ((slices_Contains_string_string.f k t120 (a0.extract 0 (t118 : Int).toNat)).bind fun t123 => (if t123 = true then (some (3, a0.extract 0 (t118 : Int).toNat, 0, 0, t118, decide (t118 ≤ 12))) else (some (1, a0.extract 0 (t118 : Int).toNat, 0, 0, t118, decide (t118 ≤ 12)))))) else (none)) else (none)) = some (r1, r2, r3, r4, r5, r6) := H
 have A2 := Aside0.mk A20
 clear A20
 by_cases c3 : 0 ≤ t118
 ·rw [if_pos c3] at H
  have c3b0 := eq_true c3
  have c3b1 : decide (0 ≤ t118) = true := decide_eq_true c3
  clear c3
  by_cases c4 : t118 ≤ (a0.size : Int)
  ·rw [if_pos c4] at H
   have c4b0 := eq_true c4
   have c4b1 : decide (t118 ≤ (a0.size : Int)) = true := decide_eq_true c4
   clear c4
   replace H := Option.bind_eq_some_iff.mp H
   obtain ⟨t120, A50, H⟩ := H
   replace H : ((slices_Contains_string_string.f k t120 (a0.extract 0 (t118 : Int).toNat)).bind fun t123 => (if t123 = true then (some (3, a0.extract 0 (t118 : Int).toNat, 0, 0, t118, decide (t118 ≤ 12))) else (some (1, a0.extract 0 (t118 : Int).toNat, 0, 0, t118, decide (t118 ≤ 12))))) = some (r1, r2, r3, r4, r5, r6) := H
   have A5 := Aside0.mk A50
   clear A50
   replace H := Option.bind_eq_some_iff.mp H
   obtain ⟨t123, A60, H⟩ := H
   replace H : (if t123 = true then (some (3, a0.extract 0 (t118 : Int).toNat, 0, 0, t118, decide (t118 ≤ 12))) else (some (1, a0.extract 0 (t118 : Int).toNat, 0, 0, t118, decide (t118 ≤ 12)))) = some (r1, r2, r3, r4, r5, r6) := H
   have A6 := Aside0.mk A60
   clear A60
   by_cases c7 : t123 = true
   ·subst c7
    have H1 : (some (3, a0.extract 0 (t118 : Int).toNat, 0, 0, t118, decide (t118 ≤ 12))) = some (r1, r2, r3, r4, r5, r6) := by rw [if_pos rfl] at H; exact H
    clear H
    have H := H1
    clear H1
    simp only [Option.some.injEq, Prod.mk.injEq] at H
    obtain ⟨rfl, rfl, rfl, rfl, rfl, rfl⟩ := H
    go_enter Tryz.func161, Tryz.ntmps161
    try go_wp2_with (first | ((with_reducible refine gate_dst (N := 2) rfl ?_); refine box_event ?hg (N := 2) ?hd (cs := #[.int .i64 0, .string (⟨#[]⟩ : ByteArray), .int .i64 0, .int .i64 0]) (t := 155) ?hr ?_; (case hd => rfl); (case hg => rfl); (case hr => first | (go_simp; done) | (go_simp; rfl)); intro gb117 hg w8 hbox hb; have n0_ := Aside0.mk (below_step (by repeat (first | (with_reducible first | exact HB.out | apply below_alloc | apply pw_below_drewN | apply below_drew1) | exact HB.out)) hb); have n1_ := Aside0.mk (hbox); have n2_ := Aside0.mk ((by rw [hg]; exact (below_size (by repeat (first | (with_reducible first | exact HB.out | apply below_alloc | apply pw_below_drewN | apply below_drew1) | exact HB.out))) : w.heap.size ≤ gb117)); have n3_ := Aside0.mk ((by rw [hg]; exact (below_size (by repeat (first | (with_reducible first | exact HB.out | apply below_alloc | apply pw_below_drewN | apply below_drew1) | exact HB.out))) : w.heap.size ≤ gb117)); clear HB; have HB := n0_; have BK117 := n1_; have GW117 := n2_; have GE117 := n3_; clear n0_ n1_ n2_ n3_; clear hb hbox hg) | ((with_reducible refine gate_callee (f := 158) rfl ?_); refine goesL_ (some 8) rfl rfl Tryz.func158 (by kernel_rfl) rfl #[.string a0, .func (.func 179) #[] #[]] rfl (by (try simp only [List.map_toArray, List.map_cons, List.map_nil]); first | done | rfl | (simp only [List.length_drop, List.length_take]; rfl)) ?_; (with_reducible refine (lex_runMore.calls a0 t118 _ A2.out).mono ?_); rintro e w' ⟨rfl, ⟨nd, rfl⟩⟩; refine ⟨_, rfl, ?_⟩; (try (rw [drewN_self w8]; generalize hq_ : World.drewN w8 _ = w8; have n0_ : Aside0 (w8.heap[gb117]? = some (.cells #[.int .i64 0, .string (⟨#[]⟩ : ByteArray), .int .i64 0, .int .i64 0] 155 (0, 0))) := ⟨by rw [← hq_]; exact (by (with_reducible repeat (first | refine blk_drewN ?_ _ | refine blk_drew ?_ | refine blk_alloc ?_ _)); exact BK117.out)⟩; have n1_ : Aside0 (Below w.heap.size w w8) := ⟨by rw [← hq_]; exact (by repeat (first | (with_reducible first | exact HB.out | apply below_alloc | apply pw_below_drewN | apply below_drew1 | refine below_set ?_ GE117.out) | exact HB.out))⟩; clear BK117 HB hq_; have BK117 := n0_; have HB := n1_; clear n0_ n1_))) | ((with_reducible refine gate_dst (N := 6) rfl ?_); refine box_event ?hg (N := 6) ?hd (cs := #[.int .i64 0, .string (⟨#[]⟩ : ByteArray), .int .i64 0, .int .i64 0]) (t := 155) ?hr ?_; (case hd => rfl); (case hg => rfl); (case hr => first | (go_simp; done) | (go_simp; rfl)); intro gb119 hg w9 hbox hb; have n0_ := Aside0.mk (blk_below (g := gb117) (o := .cells #[.int .i64 0, .string (⟨#[]⟩ : ByteArray), .int .i64 0, .int .i64 0] 155 (0, 0)) (by (with_reducible repeat (first | refine blk_drewN ?_ _ | refine blk_drew ?_ | refine blk_alloc ?_ _)); exact BK117.out) hb); have n1_ := Aside0.mk (below_step (by repeat (first | (with_reducible first | exact HB.out | apply below_alloc | apply pw_below_drewN | apply below_drew1 | refine below_set ?_ GE117.out) | exact HB.out)) hb); have n2_ := Aside0.mk (hbox); have n3_ := Aside0.mk ((by rw [hg]; exact (below_size (by repeat (first | (with_reducible first | exact HB.out | apply below_alloc | apply pw_below_drewN | apply below_drew1 | refine below_set ?_ GE117.out) | exact HB.out))) : w.heap.size ≤ gb119)); have n4_ := Aside0.mk ((by rw [hg]; exact (below_size (by repeat (first | (with_reducible first | exact HB.out | apply below_alloc | apply pw_below_drewN | apply below_drew1 | refine below_set ?_ GE117.out) | exact HB.out))) : w.heap.size ≤ gb119)); have n5_ := Aside0.mk ((by rw [hg]; exact Nat.ne_of_lt (blk_lt (g := gb117) (o := .cells #[.int .i64 0, .string (⟨#[]⟩ : ByteArray), .int .i64 0, .int .i64 0] 155 (0, 0)) (by (with_reducible repeat (first | refine blk_drewN ?_ _ | refine blk_drew ?_ | refine blk_alloc ?_ _)); exact BK117.out)) : gb117 ≠ gb119)); have n6_ := Aside0.mk ((by rw [hg]; exact Nat.ne_of_gt (blk_lt (g := gb117) (o := .cells #[.int .i64 0, .string (⟨#[]⟩ : ByteArray), .int .i64 0, .int .i64 0] 155 (0, 0)) (by (with_reducible repeat (first | refine blk_drewN ?_ _ | refine blk_drew ?_ | refine blk_alloc ?_ _)); exact BK117.out)) : gb119 ≠ gb117)); clear BK117; clear HB; have BK117 := n0_; have HB := n1_; have BK119 := n2_; have GW119 := n3_; have GE119 := n4_; have NB117_119 := n5_; have NB119_117 := n6_; clear n0_ n1_ n2_ n3_ n4_ n5_ n6_; clear hb hbox hg; have hnb10 := NB119_117.out; have hnc10 := NB117_119.out; have hcz11_0 : w9.cell? ⟨gb119, 0, none⟩ = some (.int .i64 0) := (blk_cell BK119.out 0).trans rfl; have hcz11_1 : w9.cell? ⟨gb119, 1, none⟩ = some (.string (⟨#[]⟩ : ByteArray)) := (blk_cell BK119.out 1).trans rfl; have hcz11_2 : w9.cell? ⟨gb119, 2, none⟩ = some (.int .i64 0) := (blk_cell BK119.out 2).trans rfl; have hcz11_3 : w9.cell? ⟨gb119, 3, none⟩ = some (.int .i64 0) := (blk_cell BK119.out 3).trans rfl; have hfz11_0 := blk_frozen BK119.out 0; have hfz11_1 := blk_frozen BK119.out 1; have hfz11_2 := blk_frozen BK119.out 2; have hfz11_3 := blk_frozen BK119.out 3))
    have n0_ : Aside0 (((((w9.setCell ⟨gb119, 0, none⟩ (.int .i64 1)).setCell ⟨gb119, 1, none⟩ (.string (a0.extract 0 (t118 : Int).toNat))).setCell ⟨gb119, 2, none⟩ (.int .i64 0)).setCell ⟨gb119, 3, none⟩ (.int .i64 0)).heap[gb117]? = some (.cells #[.int .i64 0, .string (⟨#[]⟩ : ByteArray), .int .i64 0, .int .i64 0] 155 (0, 0))) := ⟨by (with_reducible repeat (first | refine blk_drewN ?_ _ | refine blk_drew ?_ | refine blk_alloc ?_ _)); refine blk_far ?_ NB117_119.out _; (with_reducible repeat (first | refine blk_drewN ?_ _ | refine blk_drew ?_ | refine blk_alloc ?_ _)); refine blk_far ?_ NB117_119.out _; (with_reducible repeat (first | refine blk_drewN ?_ _ | refine blk_drew ?_ | refine blk_alloc ?_ _)); refine blk_far ?_ NB117_119.out _; (with_reducible repeat (first | refine blk_drewN ?_ _ | refine blk_drew ?_ | refine blk_alloc ?_ _)); refine blk_far ?_ NB117_119.out _; (with_reducible repeat (first | refine blk_drewN ?_ _ | refine blk_drew ?_ | refine blk_alloc ?_ _)); exact BK117.out⟩
    have n1_ : Aside0 (((((w9.setCell ⟨gb119, 0, none⟩ (.int .i64 1)).setCell ⟨gb119, 1, none⟩ (.string (a0.extract 0 (t118 : Int).toNat))).setCell ⟨gb119, 2, none⟩ (.int .i64 0)).setCell ⟨gb119, 3, none⟩ (.int .i64 0)).heap[gb119]? = some (.cells #[.int .i64 1, .string (a0.extract 0 (t118 : Int).toNat), .int .i64 0, .int .i64 0] 155 (0, 0))) := ⟨by (with_reducible repeat (first | refine blk_drewN ?_ _ | refine blk_drew ?_ | refine blk_alloc ?_ _)); refine blk_put (cs := #[.int .i64 1, .string (a0.extract 0 (t118 : Int).toNat), .int .i64 0, .int .i64 0]) ?_ 3 _ rfl; (with_reducible repeat (first | refine blk_drewN ?_ _ | refine blk_drew ?_ | refine blk_alloc ?_ _)); refine blk_put (cs := #[.int .i64 1, .string (a0.extract 0 (t118 : Int).toNat), .int .i64 0, .int .i64 0]) ?_ 2 _ rfl; (with_reducible repeat (first | refine blk_drewN ?_ _ | refine blk_drew ?_ | refine blk_alloc ?_ _)); refine blk_put (cs := #[.int .i64 1, .string (⟨#[]⟩ : ByteArray), .int .i64 0, .int .i64 0]) ?_ 1 _ rfl; (with_reducible repeat (first | refine blk_drewN ?_ _ | refine blk_drew ?_ | refine blk_alloc ?_ _)); refine blk_put (cs := #[.int .i64 0, .string (⟨#[]⟩ : ByteArray), .int .i64 0, .int .i64 0]) ?_ 0 _ rfl; (with_reducible repeat (first | refine blk_drewN ?_ _ | refine blk_drew ?_ | refine blk_alloc ?_ _)); exact BK119.out⟩
    have n2_ : Aside0 (Below w.heap.size w ((((w9.setCell ⟨gb119, 0, none⟩ (.int .i64 1)).setCell ⟨gb119, 1, none⟩ (.string (a0.extract 0 (t118 : Int).toNat))).setCell ⟨gb119, 2, none⟩ (.int .i64 0)).setCell ⟨gb119, 3, none⟩ (.int .i64 0))) := ⟨by repeat (first | (with_reducible first | exact HB.out | apply below_alloc | apply pw_below_drewN | apply below_drew1 | refine below_set ?_ GE117.out | refine below_set ?_ GE119.out) | exact HB.out)⟩
    (try clear BK117)
    (try clear BK119)
    (try clear HB)
    generalize ((((w9.setCell ⟨gb119, 0, none⟩ (.int .i64 1)).setCell ⟨gb119, 1, none⟩ (.string (a0.extract 0 (t118 : Int).toNat))).setCell ⟨gb119, 2, none⟩ (.int .i64 0)).setCell ⟨gb119, 3, none⟩ (.int .i64 0)) = w12 at n0_ n1_ n2_ ⊢
    have BK117 := n0_
    have BK119 := n1_
    have HB := n2_
    clear n0_ n1_ n2_
    have n0_ := Aside0.mk (blk_drew BK117.out)
    have n1_ := Aside0.mk (blk_drew BK119.out)
    have n2_ := Aside0.mk (below_drew1 HB.out)
    clear BK117
    clear BK119
    clear HB
    have BK117 := n0_
    have BK119 := n1_
    have HB := n2_
    clear n0_ n1_ n2_
    refine start_ (n := 4) (S := fun w' => w'.cell? ⟨gb119, 0, none⟩ = some (.int .i64 1) ∧ w'.cell? ⟨gb119, 1, none⟩ = some (.string (a0.extract 0 (t118 : Int).toNat)) ∧ w'.cell? ⟨gb119, 2, none⟩ = some (.int .i64 0) ∧ w'.cell? ⟨gb119, 3, none⟩ = some (.int .i64 0)) (ds := []) #[false, false, false, false] (by kernel_rfl) rfl rfl ⟨(blk_cell BK119.out 0).trans rfl, (blk_cell BK119.out 1).trans rfl, (blk_cell BK119.out 2).trans rfl, (blk_cell BK119.out 3).trans rfl⟩ (fun hHeld => ?_)
    generalize w12.drew = w13 at BK117 BK119 HB hHeld ⊢
    refine pure_ (i := 1) (N := some 14) (v := ?_) (a' := ?_) #[false, true, false, false] rfl rfl (by kernel_rfl) (fun _ _ _ h => h) (Or.inl ⟨by rfl, ?_⟩) ?_ ?_
    rotate_left
    ·intro w'
     go_simp
     with_reducible rfl
    rotate_left
    ·simp only [Act.put, List.setIfInBounds_toArray, List.set_cons_zero, List.set_cons_succ, i64_w, i32_w]
     rfl
    refine take_ (i := 2) (N := some 15) (v := ?_) (a' := ?_) #[false, true, true, false] rfl rfl (by kernel_rfl) (fun _ _ _ h => h) (Or.inl ⟨by rfl, ?_⟩) hHeld ?_ ?_
    rotate_left
    ·rintro w' ⟨s0, s1, s2, s3⟩
     go_simp
     with_reducible rfl
    rotate_left
    ·simp only [Act.put, List.setIfInBounds_toArray, List.set_cons_zero, List.set_cons_succ, i64_w, i32_w]
     rfl
    refine one_ (i := 0) (N := some 13) #[true, true, true, false] rfl rfl (by kernel_rfl) (by decide) (fun K hK => ?_)
    refine goes_ Tryz.func181 (by kernel_rfl) rfl #[] (by rfl) rfl rfl (by (try simp only [List.map_toArray, List.map_cons, List.map_nil]); first | done | rfl | (simp only [List.length_drop, List.length_take]; rfl)) ?_
    with_reducible refine (lex_Words.calls (hT := ?sideT)  t120 _ A5.out).mono ?_
    (case sideT => first | with_reducible exact HT.out | refine TabW.below HT.out ?_; repeat (first | (with_reducible first | exact HB.out | apply below_alloc | apply pw_below_drewN | apply below_drew1 | refine below_set ?_ GE117.out | refine below_set ?_ GE119.out) | exact HB.out | exact Below.refl _ _))
    rintro e w14 ⟨v121, rfl, ho0, hb⟩
    refine ⟨_, rfl, ?_⟩
    have n0_ := Aside0.mk (Kd.R_lower ho0 (below_size (by repeat (first | (with_reducible first | exact HB.out | apply below_alloc | apply pw_below_drewN | apply below_drew1 | refine below_set ?_ GE117.out | refine below_set ?_ GE119.out) | exact HB.out))))
    have n1_ := Aside0.mk (blk_below (g := gb117) (o := .cells #[.int .i64 0, .string (⟨#[]⟩ : ByteArray), .int .i64 0, .int .i64 0] 155 (0, 0)) (by (with_reducible repeat (first | refine blk_drewN ?_ _ | refine blk_drew ?_ | refine blk_alloc ?_ _)); exact BK117.out) hb)
    have n2_ := Aside0.mk (blk_below (g := gb119) (o := .cells #[.int .i64 1, .string (a0.extract 0 (t118 : Int).toNat), .int .i64 0, .int .i64 0] 155 (0, 0)) (by (with_reducible repeat (first | refine blk_drewN ?_ _ | refine blk_drew ?_ | refine blk_alloc ?_ _)); exact BK119.out) hb)
    have n3_ := Aside0.mk (below_step (by repeat (first | (with_reducible first | exact HB.out | apply below_alloc | apply pw_below_drewN | apply below_drew1 | refine below_set ?_ GE117.out | refine below_set ?_ GE119.out) | exact HB.out)) hb)
    clear BK117
    clear BK119
    clear HB
    have HO122 := n0_
    have BK117 := n1_
    have BK119 := n2_
    have HB := n3_
    clear n0_ n1_ n2_ n3_
    (try clear hb)
    (try clear hb2)
    (try clear hk)
    (try clear hi)
    (try clear ho0)
    obtain ⟨Ao15, co15, eo15⟩ := Kd.R_slice HO122.out
    (first | subst eo15 | (injection eo15 with f1_ f2_ f3_; have f4_ := f1_.symm; have f5_ := f3_.symm; clear f1_ f2_ f3_; subst f4_; subst f5_))
    refine hK.out _ _ ⟨(blk_cell BK119.out 0).trans rfl, (blk_cell BK119.out 1).trans rfl, (blk_cell BK119.out 2).trans rfl, (blk_cell BK119.out 3).trans rfl⟩ (fun hHeld => ?_)
    clear hK K
    refine norm_ (a' := ?_) ?_ ?_
    rotate_left
    ·show Act.put _ (some 13) _ = _
     simp only [Act.put, List.setIfInBounds_toArray, List.set_cons_zero, List.set_cons_succ, i64_w, i32_w]
     rfl
    refine one_ (i := 3) (N := some 16) #[true, true, true, true] rfl rfl (by kernel_rfl) (by decide) (fun K hK => ?_)
    refine goes_ Tryz.func180 (by kernel_rfl) rfl #[.slice Ao15 t120.length co15, .string (a0.extract 0 (t118 : Int).toNat)] (by rfl) rfl rfl (by (try simp only [List.map_toArray, List.map_cons, List.map_nil]); first | done | rfl | (simp only [List.length_drop, List.length_take]; rfl)) ?_
    with_reducible refine (slices_Contains_string_string.calls k _ _ t120 (a0.extract 0 (t118 : Int).toNat) true _ ?side1 ?side2 A6.out).mono ?_
    (case side1 => repeat (first | exact (Kd.R_reads' HO122.out).2.2 | (with_reducible refine Kd.C_alloc ?_ _) | (with_reducible refine Kd.C_drewN ?_ _) | (with_reducible refine Kd.C_drew ?_)))
    (case side2 => exact (Kd.R_reads' HO122.out).2.1)
    rintro e w' ⟨rfl, ⟨nd, rfl⟩⟩
    refine ⟨_, rfl, ?_⟩
    refine hK.out _ _ ⟨(blk_cell BK119.out 0).trans rfl, (blk_cell BK119.out 1).trans rfl, (blk_cell BK119.out 2).trans rfl, (blk_cell BK119.out 3).trans rfl⟩ (fun hHeld => ?_)
    clear hK K
    refine norm_ (a' := ?_) ?_ ?_
    rotate_left
    ·show Act.put _ (some 16) _ = _
     simp only [Act.put, List.setIfInBounds_toArray, List.set_cons_zero, List.set_cons_succ, i64_w, i32_w]
     rfl
    refine done_ (by kernel_rfl) ?_
    have hcz16_0 : w14.cell? ⟨gb119, 0, none⟩ = some (.int .i64 1) := (blk_cell BK119.out 0).trans rfl
    have hcz16_1 : w14.cell? ⟨gb119, 1, none⟩ = some (.string (a0.extract 0 (t118 : Int).toNat)) := (blk_cell BK119.out 1).trans rfl
    have hcz16_2 : w14.cell? ⟨gb119, 2, none⟩ = some (.int .i64 0) := (blk_cell BK119.out 2).trans rfl
    have hcz16_3 : w14.cell? ⟨gb119, 3, none⟩ = some (.int .i64 0) := (blk_cell BK119.out 3).trans rfl
    have hfz16_0 := blk_frozen BK119.out 0
    have hfz16_1 := blk_frozen BK119.out 1
    have hfz16_2 := blk_frozen BK119.out 2
    have hfz16_3 := blk_frozen BK119.out 3
    have hcz17_0 : w14.cell? ⟨gb117, 0, none⟩ = some (.int .i64 0) := (blk_cell BK117.out 0).trans rfl
    have hcz17_1 : w14.cell? ⟨gb117, 1, none⟩ = some (.string (⟨#[]⟩ : ByteArray)) := (blk_cell BK117.out 1).trans rfl
    have hcz17_2 : w14.cell? ⟨gb117, 2, none⟩ = some (.int .i64 0) := (blk_cell BK117.out 2).trans rfl
    have hcz17_3 : w14.cell? ⟨gb117, 3, none⟩ = some (.int .i64 0) := (blk_cell BK117.out 3).trans rfl
    have hfz17_0 := blk_frozen BK117.out 0
    have hfz17_1 := blk_frozen BK117.out 1
    have hfz17_2 := blk_frozen BK117.out 2
    have hfz17_3 := blk_frozen BK117.out 3
    try go_wp2
    refine bodyPost_ret (results_ctt rfl _ _ gb117 155 #[.int .i64 3, .string (a0.extract 0 (t118 : Int).toNat), .int .i64 0, .int .i64 0] (0, 0) _ rfl (by (with_reducible repeat (first | refine blk_drewN ?_ _ | refine blk_drew ?_ | refine blk_alloc ?_ _)); refine blk_put (cs := #[.int .i64 3, .string (a0.extract 0 (t118 : Int).toNat), .int .i64 0, .int .i64 0]) ?_ 3 _ rfl; (with_reducible repeat (first | refine blk_drewN ?_ _ | refine blk_drew ?_ | refine blk_alloc ?_ _)); refine blk_put (cs := #[.int .i64 3, .string (a0.extract 0 (t118 : Int).toNat), .int .i64 0, .int .i64 0]) ?_ 2 _ rfl; (with_reducible repeat (first | refine blk_drewN ?_ _ | refine blk_drew ?_ | refine blk_alloc ?_ _)); refine blk_put (cs := #[.int .i64 3, .string (⟨#[]⟩ : ByteArray), .int .i64 0, .int .i64 0]) ?_ 1 _ rfl; (with_reducible repeat (first | refine blk_drewN ?_ _ | refine blk_drew ?_ | refine blk_alloc ?_ _)); refine blk_put (cs := #[.int .i64 0, .string (⟨#[]⟩ : ByteArray), .int .i64 0, .int .i64 0]) ?_ 0 _ rfl; (with_reducible repeat (first | refine blk_drewN ?_ _ | refine blk_drew ?_ | refine blk_alloc ?_ _)); refine blk_far ?_ NB117_119.out _; (with_reducible repeat (first | refine blk_drewN ?_ _ | refine blk_drew ?_ | refine blk_alloc ?_ _)); exact BK117.out) Tryz.underlying155 rfl (by kernel_rfl)) rfl ?_
    exact ⟨by first | rfl | (simp [errW_none, errW_some] <;> rfl) | (simp [*, errW_none, errW_some] <;> rfl), by repeat (first | (with_reducible first | exact HB.out | apply below_alloc | apply pw_below_drewN | apply below_drew1 | refine below_set ?_ GE117.out | refine below_set ?_ GE119.out) | exact HB.out)⟩
   ·replace c7 := Bool.eq_false_iff.mpr c7
    subst c7
    have H1 : (some (1, a0.extract 0 (t118 : Int).toNat, 0, 0, t118, decide (t118 ≤ 12))) = some (r1, r2, r3, r4, r5, r6) := by rw [if_neg (show ¬ (false = true) by decide)] at H; exact H
    clear H
    have H := H1
    clear H1
    simp only [Option.some.injEq, Prod.mk.injEq] at H
    obtain ⟨rfl, rfl, rfl, rfl, rfl, rfl⟩ := H
    go_enter Tryz.func161, Tryz.ntmps161
    try go_wp2_with (first | ((with_reducible refine gate_dst (N := 2) rfl ?_); refine box_event ?hg (N := 2) ?hd (cs := #[.int .i64 0, .string (⟨#[]⟩ : ByteArray), .int .i64 0, .int .i64 0]) (t := 155) ?hr ?_; (case hd => rfl); (case hg => rfl); (case hr => first | (go_simp; done) | (go_simp; rfl)); intro gb117 hg w18 hbox hb; have n0_ := Aside0.mk (below_step (by repeat (first | (with_reducible first | exact HB.out | apply below_alloc | apply pw_below_drewN | apply below_drew1) | exact HB.out)) hb); have n1_ := Aside0.mk (hbox); have n2_ := Aside0.mk ((by rw [hg]; exact (below_size (by repeat (first | (with_reducible first | exact HB.out | apply below_alloc | apply pw_below_drewN | apply below_drew1) | exact HB.out))) : w.heap.size ≤ gb117)); have n3_ := Aside0.mk ((by rw [hg]; exact (below_size (by repeat (first | (with_reducible first | exact HB.out | apply below_alloc | apply pw_below_drewN | apply below_drew1) | exact HB.out))) : w.heap.size ≤ gb117)); clear HB; have HB := n0_; have BK117 := n1_; have GW117 := n2_; have GE117 := n3_; clear n0_ n1_ n2_ n3_; clear hb hbox hg) | ((with_reducible refine gate_callee (f := 158) rfl ?_); refine goesL_ (some 8) rfl rfl Tryz.func158 (by kernel_rfl) rfl #[.string a0, .func (.func 179) #[] #[]] rfl (by (try simp only [List.map_toArray, List.map_cons, List.map_nil]); first | done | rfl | (simp only [List.length_drop, List.length_take]; rfl)) ?_; (with_reducible refine (lex_runMore.calls a0 t118 _ A2.out).mono ?_); rintro e w' ⟨rfl, ⟨nd, rfl⟩⟩; refine ⟨_, rfl, ?_⟩; (try (rw [drewN_self w18]; generalize hq_ : World.drewN w18 _ = w18; have n0_ : Aside0 (w18.heap[gb117]? = some (.cells #[.int .i64 0, .string (⟨#[]⟩ : ByteArray), .int .i64 0, .int .i64 0] 155 (0, 0))) := ⟨by rw [← hq_]; exact (by (with_reducible repeat (first | refine blk_drewN ?_ _ | refine blk_drew ?_ | refine blk_alloc ?_ _)); exact BK117.out)⟩; have n1_ : Aside0 (Below w.heap.size w w18) := ⟨by rw [← hq_]; exact (by repeat (first | (with_reducible first | exact HB.out | apply below_alloc | apply pw_below_drewN | apply below_drew1 | refine below_set ?_ GE117.out) | exact HB.out))⟩; clear BK117 HB hq_; have BK117 := n0_; have HB := n1_; clear n0_ n1_))) | ((with_reducible refine gate_dst (N := 6) rfl ?_); refine box_event ?hg (N := 6) ?hd (cs := #[.int .i64 0, .string (⟨#[]⟩ : ByteArray), .int .i64 0, .int .i64 0]) (t := 155) ?hr ?_; (case hd => rfl); (case hg => rfl); (case hr => first | (go_simp; done) | (go_simp; rfl)); intro gb119 hg w19 hbox hb; have n0_ := Aside0.mk (blk_below (g := gb117) (o := .cells #[.int .i64 0, .string (⟨#[]⟩ : ByteArray), .int .i64 0, .int .i64 0] 155 (0, 0)) (by (with_reducible repeat (first | refine blk_drewN ?_ _ | refine blk_drew ?_ | refine blk_alloc ?_ _)); exact BK117.out) hb); have n1_ := Aside0.mk (below_step (by repeat (first | (with_reducible first | exact HB.out | apply below_alloc | apply pw_below_drewN | apply below_drew1 | refine below_set ?_ GE117.out) | exact HB.out)) hb); have n2_ := Aside0.mk (hbox); have n3_ := Aside0.mk ((by rw [hg]; exact (below_size (by repeat (first | (with_reducible first | exact HB.out | apply below_alloc | apply pw_below_drewN | apply below_drew1 | refine below_set ?_ GE117.out) | exact HB.out))) : w.heap.size ≤ gb119)); have n4_ := Aside0.mk ((by rw [hg]; exact (below_size (by repeat (first | (with_reducible first | exact HB.out | apply below_alloc | apply pw_below_drewN | apply below_drew1 | refine below_set ?_ GE117.out) | exact HB.out))) : w.heap.size ≤ gb119)); have n5_ := Aside0.mk ((by rw [hg]; exact Nat.ne_of_lt (blk_lt (g := gb117) (o := .cells #[.int .i64 0, .string (⟨#[]⟩ : ByteArray), .int .i64 0, .int .i64 0] 155 (0, 0)) (by (with_reducible repeat (first | refine blk_drewN ?_ _ | refine blk_drew ?_ | refine blk_alloc ?_ _)); exact BK117.out)) : gb117 ≠ gb119)); have n6_ := Aside0.mk ((by rw [hg]; exact Nat.ne_of_gt (blk_lt (g := gb117) (o := .cells #[.int .i64 0, .string (⟨#[]⟩ : ByteArray), .int .i64 0, .int .i64 0] 155 (0, 0)) (by (with_reducible repeat (first | refine blk_drewN ?_ _ | refine blk_drew ?_ | refine blk_alloc ?_ _)); exact BK117.out)) : gb119 ≠ gb117)); clear BK117; clear HB; have BK117 := n0_; have HB := n1_; have BK119 := n2_; have GW119 := n3_; have GE119 := n4_; have NB117_119 := n5_; have NB119_117 := n6_; clear n0_ n1_ n2_ n3_ n4_ n5_ n6_; clear hb hbox hg; have hnb20 := NB119_117.out; have hnc20 := NB117_119.out; have hcz21_0 : w19.cell? ⟨gb119, 0, none⟩ = some (.int .i64 0) := (blk_cell BK119.out 0).trans rfl; have hcz21_1 : w19.cell? ⟨gb119, 1, none⟩ = some (.string (⟨#[]⟩ : ByteArray)) := (blk_cell BK119.out 1).trans rfl; have hcz21_2 : w19.cell? ⟨gb119, 2, none⟩ = some (.int .i64 0) := (blk_cell BK119.out 2).trans rfl; have hcz21_3 : w19.cell? ⟨gb119, 3, none⟩ = some (.int .i64 0) := (blk_cell BK119.out 3).trans rfl; have hfz21_0 := blk_frozen BK119.out 0; have hfz21_1 := blk_frozen BK119.out 1; have hfz21_2 := blk_frozen BK119.out 2; have hfz21_3 := blk_frozen BK119.out 3))
    have n0_ : Aside0 (((((w19.setCell ⟨gb119, 0, none⟩ (.int .i64 1)).setCell ⟨gb119, 1, none⟩ (.string (a0.extract 0 (t118 : Int).toNat))).setCell ⟨gb119, 2, none⟩ (.int .i64 0)).setCell ⟨gb119, 3, none⟩ (.int .i64 0)).heap[gb117]? = some (.cells #[.int .i64 0, .string (⟨#[]⟩ : ByteArray), .int .i64 0, .int .i64 0] 155 (0, 0))) := ⟨by (with_reducible repeat (first | refine blk_drewN ?_ _ | refine blk_drew ?_ | refine blk_alloc ?_ _)); refine blk_far ?_ NB117_119.out _; (with_reducible repeat (first | refine blk_drewN ?_ _ | refine blk_drew ?_ | refine blk_alloc ?_ _)); refine blk_far ?_ NB117_119.out _; (with_reducible repeat (first | refine blk_drewN ?_ _ | refine blk_drew ?_ | refine blk_alloc ?_ _)); refine blk_far ?_ NB117_119.out _; (with_reducible repeat (first | refine blk_drewN ?_ _ | refine blk_drew ?_ | refine blk_alloc ?_ _)); refine blk_far ?_ NB117_119.out _; (with_reducible repeat (first | refine blk_drewN ?_ _ | refine blk_drew ?_ | refine blk_alloc ?_ _)); exact BK117.out⟩
    have n1_ : Aside0 (((((w19.setCell ⟨gb119, 0, none⟩ (.int .i64 1)).setCell ⟨gb119, 1, none⟩ (.string (a0.extract 0 (t118 : Int).toNat))).setCell ⟨gb119, 2, none⟩ (.int .i64 0)).setCell ⟨gb119, 3, none⟩ (.int .i64 0)).heap[gb119]? = some (.cells #[.int .i64 1, .string (a0.extract 0 (t118 : Int).toNat), .int .i64 0, .int .i64 0] 155 (0, 0))) := ⟨by (with_reducible repeat (first | refine blk_drewN ?_ _ | refine blk_drew ?_ | refine blk_alloc ?_ _)); refine blk_put (cs := #[.int .i64 1, .string (a0.extract 0 (t118 : Int).toNat), .int .i64 0, .int .i64 0]) ?_ 3 _ rfl; (with_reducible repeat (first | refine blk_drewN ?_ _ | refine blk_drew ?_ | refine blk_alloc ?_ _)); refine blk_put (cs := #[.int .i64 1, .string (a0.extract 0 (t118 : Int).toNat), .int .i64 0, .int .i64 0]) ?_ 2 _ rfl; (with_reducible repeat (first | refine blk_drewN ?_ _ | refine blk_drew ?_ | refine blk_alloc ?_ _)); refine blk_put (cs := #[.int .i64 1, .string (⟨#[]⟩ : ByteArray), .int .i64 0, .int .i64 0]) ?_ 1 _ rfl; (with_reducible repeat (first | refine blk_drewN ?_ _ | refine blk_drew ?_ | refine blk_alloc ?_ _)); refine blk_put (cs := #[.int .i64 0, .string (⟨#[]⟩ : ByteArray), .int .i64 0, .int .i64 0]) ?_ 0 _ rfl; (with_reducible repeat (first | refine blk_drewN ?_ _ | refine blk_drew ?_ | refine blk_alloc ?_ _)); exact BK119.out⟩
    have n2_ : Aside0 (Below w.heap.size w ((((w19.setCell ⟨gb119, 0, none⟩ (.int .i64 1)).setCell ⟨gb119, 1, none⟩ (.string (a0.extract 0 (t118 : Int).toNat))).setCell ⟨gb119, 2, none⟩ (.int .i64 0)).setCell ⟨gb119, 3, none⟩ (.int .i64 0))) := ⟨by repeat (first | (with_reducible first | exact HB.out | apply below_alloc | apply pw_below_drewN | apply below_drew1 | refine below_set ?_ GE117.out | refine below_set ?_ GE119.out) | exact HB.out)⟩
    (try clear BK117)
    (try clear BK119)
    (try clear HB)
    generalize ((((w19.setCell ⟨gb119, 0, none⟩ (.int .i64 1)).setCell ⟨gb119, 1, none⟩ (.string (a0.extract 0 (t118 : Int).toNat))).setCell ⟨gb119, 2, none⟩ (.int .i64 0)).setCell ⟨gb119, 3, none⟩ (.int .i64 0)) = w22 at n0_ n1_ n2_ ⊢
    have BK117 := n0_
    have BK119 := n1_
    have HB := n2_
    clear n0_ n1_ n2_
    have n0_ := Aside0.mk (blk_drew BK117.out)
    have n1_ := Aside0.mk (blk_drew BK119.out)
    have n2_ := Aside0.mk (below_drew1 HB.out)
    clear BK117
    clear BK119
    clear HB
    have BK117 := n0_
    have BK119 := n1_
    have HB := n2_
    clear n0_ n1_ n2_
    refine start_ (n := 4) (S := fun w' => w'.cell? ⟨gb119, 0, none⟩ = some (.int .i64 1) ∧ w'.cell? ⟨gb119, 1, none⟩ = some (.string (a0.extract 0 (t118 : Int).toNat)) ∧ w'.cell? ⟨gb119, 2, none⟩ = some (.int .i64 0) ∧ w'.cell? ⟨gb119, 3, none⟩ = some (.int .i64 0)) (ds := []) #[false, false, false, false] (by kernel_rfl) rfl rfl ⟨(blk_cell BK119.out 0).trans rfl, (blk_cell BK119.out 1).trans rfl, (blk_cell BK119.out 2).trans rfl, (blk_cell BK119.out 3).trans rfl⟩ (fun hHeld => ?_)
    generalize w22.drew = w23 at BK117 BK119 HB hHeld ⊢
    refine pure_ (i := 1) (N := some 14) (v := ?_) (a' := ?_) #[false, true, false, false] rfl rfl (by kernel_rfl) (fun _ _ _ h => h) (Or.inl ⟨by rfl, ?_⟩) ?_ ?_
    rotate_left
    ·intro w'
     go_simp
     with_reducible rfl
    rotate_left
    ·simp only [Act.put, List.setIfInBounds_toArray, List.set_cons_zero, List.set_cons_succ, i64_w, i32_w]
     rfl
    refine take_ (i := 2) (N := some 15) (v := ?_) (a' := ?_) #[false, true, true, false] rfl rfl (by kernel_rfl) (fun _ _ _ h => h) (Or.inl ⟨by rfl, ?_⟩) hHeld ?_ ?_
    rotate_left
    ·rintro w' ⟨s0, s1, s2, s3⟩
     go_simp
     with_reducible rfl
    rotate_left
    ·simp only [Act.put, List.setIfInBounds_toArray, List.set_cons_zero, List.set_cons_succ, i64_w, i32_w]
     rfl
    refine one_ (i := 0) (N := some 13) #[true, true, true, false] rfl rfl (by kernel_rfl) (by decide) (fun K hK => ?_)
    refine goes_ Tryz.func181 (by kernel_rfl) rfl #[] (by rfl) rfl rfl (by (try simp only [List.map_toArray, List.map_cons, List.map_nil]); first | done | rfl | (simp only [List.length_drop, List.length_take]; rfl)) ?_
    with_reducible refine (lex_Words.calls (hT := ?sideT)  t120 _ A5.out).mono ?_
    (case sideT => first | with_reducible exact HT.out | refine TabW.below HT.out ?_; repeat (first | (with_reducible first | exact HB.out | apply below_alloc | apply pw_below_drewN | apply below_drew1 | refine below_set ?_ GE117.out | refine below_set ?_ GE119.out) | exact HB.out | exact Below.refl _ _))
    rintro e w24 ⟨v121, rfl, ho0, hb⟩
    refine ⟨_, rfl, ?_⟩
    have n0_ := Aside0.mk (Kd.R_lower ho0 (below_size (by repeat (first | (with_reducible first | exact HB.out | apply below_alloc | apply pw_below_drewN | apply below_drew1 | refine below_set ?_ GE117.out | refine below_set ?_ GE119.out) | exact HB.out))))
    have n1_ := Aside0.mk (blk_below (g := gb117) (o := .cells #[.int .i64 0, .string (⟨#[]⟩ : ByteArray), .int .i64 0, .int .i64 0] 155 (0, 0)) (by (with_reducible repeat (first | refine blk_drewN ?_ _ | refine blk_drew ?_ | refine blk_alloc ?_ _)); exact BK117.out) hb)
    have n2_ := Aside0.mk (blk_below (g := gb119) (o := .cells #[.int .i64 1, .string (a0.extract 0 (t118 : Int).toNat), .int .i64 0, .int .i64 0] 155 (0, 0)) (by (with_reducible repeat (first | refine blk_drewN ?_ _ | refine blk_drew ?_ | refine blk_alloc ?_ _)); exact BK119.out) hb)
    have n3_ := Aside0.mk (below_step (by repeat (first | (with_reducible first | exact HB.out | apply below_alloc | apply pw_below_drewN | apply below_drew1 | refine below_set ?_ GE117.out | refine below_set ?_ GE119.out) | exact HB.out)) hb)
    clear BK117
    clear BK119
    clear HB
    have HO122 := n0_
    have BK117 := n1_
    have BK119 := n2_
    have HB := n3_
    clear n0_ n1_ n2_ n3_
    (try clear hb)
    (try clear hb2)
    (try clear hk)
    (try clear hi)
    (try clear ho0)
    obtain ⟨Ao25, co25, eo25⟩ := Kd.R_slice HO122.out
    (first | subst eo25 | (injection eo25 with f1_ f2_ f3_; have f4_ := f1_.symm; have f5_ := f3_.symm; clear f1_ f2_ f3_; subst f4_; subst f5_))
    refine hK.out _ _ ⟨(blk_cell BK119.out 0).trans rfl, (blk_cell BK119.out 1).trans rfl, (blk_cell BK119.out 2).trans rfl, (blk_cell BK119.out 3).trans rfl⟩ (fun hHeld => ?_)
    clear hK K
    refine norm_ (a' := ?_) ?_ ?_
    rotate_left
    ·show Act.put _ (some 13) _ = _
     simp only [Act.put, List.setIfInBounds_toArray, List.set_cons_zero, List.set_cons_succ, i64_w, i32_w]
     rfl
    refine one_ (i := 3) (N := some 16) #[true, true, true, true] rfl rfl (by kernel_rfl) (by decide) (fun K hK => ?_)
    refine goes_ Tryz.func180 (by kernel_rfl) rfl #[.slice Ao25 t120.length co25, .string (a0.extract 0 (t118 : Int).toNat)] (by rfl) rfl rfl (by (try simp only [List.map_toArray, List.map_cons, List.map_nil]); first | done | rfl | (simp only [List.length_drop, List.length_take]; rfl)) ?_
    with_reducible refine (slices_Contains_string_string.calls k _ _ t120 (a0.extract 0 (t118 : Int).toNat) false _ ?side1 ?side2 A6.out).mono ?_
    (case side1 => repeat (first | exact (Kd.R_reads' HO122.out).2.2 | (with_reducible refine Kd.C_alloc ?_ _) | (with_reducible refine Kd.C_drewN ?_ _) | (with_reducible refine Kd.C_drew ?_)))
    (case side2 => exact (Kd.R_reads' HO122.out).2.1)
    rintro e w' ⟨rfl, ⟨nd, rfl⟩⟩
    refine ⟨_, rfl, ?_⟩
    refine hK.out _ _ ⟨(blk_cell BK119.out 0).trans rfl, (blk_cell BK119.out 1).trans rfl, (blk_cell BK119.out 2).trans rfl, (blk_cell BK119.out 3).trans rfl⟩ (fun hHeld => ?_)
    clear hK K
    refine norm_ (a' := ?_) ?_ ?_
    rotate_left
    ·show Act.put _ (some 16) _ = _
     simp only [Act.put, List.setIfInBounds_toArray, List.set_cons_zero, List.set_cons_succ, i64_w, i32_w]
     rfl
    refine done_ (by kernel_rfl) ?_
    have hcz26_0 : w24.cell? ⟨gb119, 0, none⟩ = some (.int .i64 1) := (blk_cell BK119.out 0).trans rfl
    have hcz26_1 : w24.cell? ⟨gb119, 1, none⟩ = some (.string (a0.extract 0 (t118 : Int).toNat)) := (blk_cell BK119.out 1).trans rfl
    have hcz26_2 : w24.cell? ⟨gb119, 2, none⟩ = some (.int .i64 0) := (blk_cell BK119.out 2).trans rfl
    have hcz26_3 : w24.cell? ⟨gb119, 3, none⟩ = some (.int .i64 0) := (blk_cell BK119.out 3).trans rfl
    have hfz26_0 := blk_frozen BK119.out 0
    have hfz26_1 := blk_frozen BK119.out 1
    have hfz26_2 := blk_frozen BK119.out 2
    have hfz26_3 := blk_frozen BK119.out 3
    have hcz27_0 : w24.cell? ⟨gb117, 0, none⟩ = some (.int .i64 0) := (blk_cell BK117.out 0).trans rfl
    have hcz27_1 : w24.cell? ⟨gb117, 1, none⟩ = some (.string (⟨#[]⟩ : ByteArray)) := (blk_cell BK117.out 1).trans rfl
    have hcz27_2 : w24.cell? ⟨gb117, 2, none⟩ = some (.int .i64 0) := (blk_cell BK117.out 2).trans rfl
    have hcz27_3 : w24.cell? ⟨gb117, 3, none⟩ = some (.int .i64 0) := (blk_cell BK117.out 3).trans rfl
    have hfz27_0 := blk_frozen BK117.out 0
    have hfz27_1 := blk_frozen BK117.out 1
    have hfz27_2 := blk_frozen BK117.out 2
    have hfz27_3 := blk_frozen BK117.out 3
    try go_wp2
    refine bodyPost_ret (results_ctt rfl _ _ gb117 155 #[.int .i64 1, .string (a0.extract 0 (t118 : Int).toNat), .int .i64 0, .int .i64 0] (0, 0) _ rfl (by (with_reducible repeat (first | refine blk_drewN ?_ _ | refine blk_drew ?_ | refine blk_alloc ?_ _)); refine blk_put (cs := #[.int .i64 1, .string (a0.extract 0 (t118 : Int).toNat), .int .i64 0, .int .i64 0]) ?_ 3 _ rfl; (with_reducible repeat (first | refine blk_drewN ?_ _ | refine blk_drew ?_ | refine blk_alloc ?_ _)); refine blk_put (cs := #[.int .i64 1, .string (a0.extract 0 (t118 : Int).toNat), .int .i64 0, .int .i64 0]) ?_ 2 _ rfl; (with_reducible repeat (first | refine blk_drewN ?_ _ | refine blk_drew ?_ | refine blk_alloc ?_ _)); refine blk_put (cs := #[.int .i64 1, .string (⟨#[]⟩ : ByteArray), .int .i64 0, .int .i64 0]) ?_ 1 _ rfl; (with_reducible repeat (first | refine blk_drewN ?_ _ | refine blk_drew ?_ | refine blk_alloc ?_ _)); refine blk_put (cs := #[.int .i64 0, .string (⟨#[]⟩ : ByteArray), .int .i64 0, .int .i64 0]) ?_ 0 _ rfl; (with_reducible repeat (first | refine blk_drewN ?_ _ | refine blk_drew ?_ | refine blk_alloc ?_ _)); exact BK117.out) Tryz.underlying155 rfl (by kernel_rfl)) rfl ?_
    exact ⟨by first | rfl | (simp [errW_none, errW_some] <;> rfl) | (simp [*, errW_none, errW_some] <;> rfl), by repeat (first | (with_reducible first | exact HB.out | apply below_alloc | apply pw_below_drewN | apply below_drew1 | refine below_set ?_ GE117.out | refine below_set ?_ GE119.out) | exact HB.out)⟩
  ·rw [if_neg c4] at H
   exact absurd H (by simp)
 ·rw [if_neg c3] at H
  exact absurd H (by simp)
def stringslite_HasPrefix.f (a0 : ByteArray) (a1 : ByteArray) : Option (Bool) := if (a0.size : Int) ≥ (a1.size : Int) then (if 0 ≤ (a1.size : Int) then (if (a1.size : Int) ≤ (a0.size : Int) then (some ((a0.extract 0 ((a1.size : Int) : Int).toNat).toList == a1.toList)) else (none)) else (none)) else (some false)
set_option maxHeartbeats 8000000 in
set_option maxRecDepth 100000 in
theorem stringslite_HasPrefix.calls (a0 : ByteArray) (a1 : ByteArray) (r : Bool) (w : World) (h : stringslite_HasPrefix.f a0 a1 = some r) :
  Calls Tryz.prog 182 #[.string a0, .string a1] w fun e w' => e = .returned (.bool r) ∧ Drawn0 w w' := by
 have H : (if (a0.size : Int) ≥ (a1.size : Int) then (if 0 ≤ (a1.size : Int) then (if (a1.size : Int) ≤ (a0.size : Int) then (some ((a0.extract 0 ((a1.size : Int) : Int).toNat).toList == a1.toList)) else (none)) else (none)) else (some false)) = some r := h
 clear h
 by_cases c3 : (a0.size : Int) ≥ (a1.size : Int)
 ·rw [if_pos c3] at H
  have c3b0 : decide ((a1.size : Int) ≤ (a0.size : Int)) = true := decide_eq_true c3
  have c3b1 : decide (a1.size ≤ a0.size) = true := decide_eq_true (Int.ofNat_le.mp c3)
  clear c3
  by_cases c4 : 0 ≤ (a1.size : Int)
  ·rw [if_pos c4] at H
   have c4b0 := eq_true c4
   have c4b1 : decide (0 ≤ (a1.size : Int)) = true := decide_eq_true c4
   clear c4
   by_cases c5 : (a1.size : Int) ≤ (a0.size : Int)
   ·rw [if_pos c5] at H
    have c5b0 := eq_true c5
    have c5b1 : decide ((a1.size : Int) ≤ (a0.size : Int)) = true := decide_eq_true c5
    clear c5
    obtain rfl := Option.some.inj H
    go_enter Tryz.func182, Tryz.ntmps182
    go_wp2
    go_ret
    exact ⟨by first | rfl | (simp; done) | (simp [*]; done), by repeat (first | exact Drawn0.refl _ | apply Drawn0.step)⟩
   ·rw [if_neg c5] at H
    exact absurd H (by simp)
  ·rw [if_neg c4] at H
   exact absurd H (by simp)
 ·rw [if_neg c3] at H
  have c3b0 : decide ((a1.size : Int) ≤ (a0.size : Int)) = false := decide_eq_false c3
  have c3b1 : decide (a1.size ≤ a0.size) = false := decide_eq_false (fun h => c3 (Int.ofNat_le.mpr h))
  clear c3
  obtain rfl := Option.some.inj H
  go_enter Tryz.func182, Tryz.ntmps182
  go_wp2
  go_ret
  exact ⟨by first | rfl | (simp; done) | (simp [*]; done), by repeat (first | exact Drawn0.refl _ | apply Drawn0.step)⟩
def strings_HasPrefix.f (a0 : ByteArray) (a1 : ByteArray) : Option (Bool) := (stringslite_HasPrefix.f a0 a1).bind fun t124 => (some t124)
set_option maxHeartbeats 8000000 in
set_option maxRecDepth 100000 in
theorem strings_HasPrefix.calls (a0 : ByteArray) (a1 : ByteArray) (r : Bool) (w : World) (h : strings_HasPrefix.f a0 a1 = some r) :
  Calls Tryz.prog 164 #[.string a0, .string a1] w fun e w' => e = .returned (.bool r) ∧ Drawn0 w w' := by
 have H : ((stringslite_HasPrefix.f a0 a1).bind fun t124 => (some t124)) = some r := h
 clear h
 replace H := Option.bind_eq_some_iff.mp H
 obtain ⟨t124, A30, H⟩ := H
 replace H : (some t124) = some r := H
 have A3 := Aside0.mk A30
 clear A30
 obtain rfl := Option.some.inj H
 go_enter Tryz.func164, Tryz.ntmps164
 go_wp2_with (first | ((with_reducible refine gate_callee (f := 182) rfl ?_); refine goesL_ (some 7) rfl rfl Tryz.func182 (by kernel_rfl) rfl #[.string a0, .string a1] rfl (by (try simp only [List.map_toArray, List.map_cons, List.map_nil]); first | done | rfl | (simp only [List.length_drop, List.length_take]; rfl)) ?_; (with_reducible refine (stringslite_HasPrefix.calls a0 a1 t124 _ A3.out).mono ?_); rintro e w' ⟨rfl, ⟨nd, rfl⟩⟩; refine ⟨_, rfl, ?_⟩))
 go_ret
 exact ⟨by first | rfl | (simp; done) | (simp [*]; done), by repeat (first | exact Drawn0.refl _ | apply Drawn0.step)⟩
end Go.Proofs.YtaofmmnfenlofaaGreatDoor.QTc
namespace Go.Proofs.YtaofmmnfenlofaaGreatDoor.QTc
open Go.RowKit Go.Proofs.YtaofmmnfenlofaaGreatDoorW.PrintWords Go.Proofs.YtaofmmnfenlofaaGreatDoorW.PrintLast Go.Proofs.YtaofmmnfenlofaaGreatDoorW.PrintMore
set_option linter.unusedVariables false
set_option linter.unusedSimpArgs false
section
variable {P : Program} {ops : Array Oper} {rest : List Oper} {o : Oper} {a : Act} {Q : Exit → Act → World → Prop}
theorem bytes_event {W : World} (hgd : o.guard = none) {src dst e : TypeId} {s : ByteArray} {u : TypeDesc} (hs : P.underlying src = some u) (hd : P.underlying dst = some (.slice e)) (he : P.underlying e = some (.int .u8))
    (hrun : (convert src dst (.string s)).run P W = .ok (.slice (some ⟨W.heap.size, 0, none⟩) s.size (grownCap W s.size 0 e)) (Lib.bytesWorld W e s) → (execOp a.eval o).run P W = .ok (.value (.slice (some ⟨W.heap.size, 0, none⟩) s.size (grownCap W s.size 0 e))) (Lib.bytesWorld W e s))
    (h : ∀ g c w1, g = W.heap.size → (∀ j, j < s.size → w1.cell? ⟨g, j, none⟩ = some (.int .u8 (s.data.toList.getD j 0).toNat)) → Below W.heap.size W w1 → wpList P ops Q rest (a.put o.dst (.slice (some ⟨g, 0, none⟩) s.size c)) w1) : wpList P ops Q (o :: rest) a W :=
  Kd.event_run hgd (hrun (Lib.run_convert_string_bytes W src dst e s hs hd he)) (h _ _ _ rfl (fun j hj => Lib.bytesWorld_cell W e s j hj) ⟨rfl, rfl, rfl, by rw [Lib.bytesWorld_size]; omega, fun k hk => Lib.bytesWorld_at_old W e s k hk⟩)
end
def numV : Int → List UInt8 → Int
  | n, [] => n
  | n, c :: r => numV (n * 10 + ((c.toNat : Int) - 48)) r
def lex_number.f (a0 : ByteArray) : Option (Int × ByteArray × Int × Int × Int × Bool) :=
  if a0.size ≤ 100000 then
    (if plen isDigitB a0.data.toList > 9 ∨ (plen isDigitB a0.data.toList > 1 ∧ (a0.data.toList.getD 0 0).toNat = 48) then some (2, ⟨#[]⟩, 0, 0, (plen isDigitB a0.data.toList : Nat), false)
     else some (2, ⟨#[]⟩, numV 0 (a0.data.toList.take (plen isDigitB a0.data.toList)), 0, (plen isDigitB a0.data.toList : Nat), true)) else none
set_option maxHeartbeats 4000000 in
theorem number_no (a0 : ByteArray) (n : Nat) (w : World) (hR : ∀ w, Calls Tryz.prog 158 #[.string a0, .func (.func 162) #[] #[]] w fun e w' => e = .returned (.int .i64 (n : Int)) ∧ Drawn0 w w')
    (h : 9 < n) :
    Calls Tryz.prog 163 #[.string a0] w fun e w' => e = .returned (.tuple #[.agg #[.int .i64 2, .string ⟨#[]⟩, .int .i64 0, .int .i64 0], .int .i64 (n : Int), .bool false]) ∧ Below w.heap.size w w' := by
  have HR := Aside0.mk hR
  clear hR
  have e1 : decide ((n : Int) > 9) = true := decide_eq_true (by omega)
  go_enter Tryz.func163, Tryz.ntmps163
  go_wp2_with (go_at_call 158; (with_reducible refine (HR.out _).mono ?_); rintro e w' ⟨rfl, ⟨nd, rfl⟩⟩)
  exact bodyPost_ret (v := .tuple #[.agg #[.int .i64 2, .string ⟨#[]⟩, .int .i64 0, .int .i64 0], .int .i64 (n : Int), .bool false]) (by simp [results, Tryz.results163, go_sem]) rfl ⟨rfl, by repeat (first | exact Below.refl _ _ | refine Below.setCell ?_ (by simp) _ | refine Below.alloc ?_ (by simp) _ | apply pw_below_drewN | apply below_drew1)⟩
set_option maxHeartbeats 4000000 in
theorem number_zero (a0 : ByteArray) (n : Nat) (w : World) (hR : ∀ w, Calls Tryz.prog 158 #[.string a0, .func (.func 162) #[] #[]] w fun e w' => e = .returned (.int .i64 (n : Int)) ∧ Drawn0 w w')
    (h : ¬ 9 < n) (h1 : 1 < n) (h2 : n ≤ a0.size) (hz : a0[0]!.toNat = 48) :
    Calls Tryz.prog 163 #[.string a0] w fun e w' => e = .returned (.tuple #[.agg #[.int .i64 2, .string ⟨#[]⟩, .int .i64 0, .int .i64 0], .int .i64 (n : Int), .bool false]) ∧ Below w.heap.size w w' := by
  have HR := Aside0.mk hR
  clear hR
  have e1 : decide ((n : Int) > 9) = false := decide_eq_false (by omega)
  have e2 : decide ((n : Int) > 1) = true := decide_eq_true (by omega)
  have e3 : decide ((0 : Int) < (a0.size : Int)) = true := decide_eq_true (by omega)
  have h0 : 0 < a0.size := by omega
  have e4 : ((a0[0].toNat : Int) == 48) = true := by
    have : a0[0]! = a0[0] := getElem!_pos a0 0 h0
    rw [this] at hz
    simp; omega
  clear hz
  go_enter Tryz.func163, Tryz.ntmps163
  go_wp2_with (go_at_call 158; (with_reducible refine (HR.out _).mono ?_); rintro e w' ⟨rfl, ⟨nd, rfl⟩⟩)
  exact bodyPost_ret (v := .tuple #[.agg #[.int .i64 2, .string ⟨#[]⟩, .int .i64 0, .int .i64 0], .int .i64 (n : Int), .bool false]) (by simp [results, Tryz.results163, go_sem]) rfl ⟨rfl, by repeat (first | exact Below.refl _ _ | refine Below.setCell ?_ (by simp) _ | refine Below.alloc ?_ (by simp) _ | apply pw_below_drewN | apply below_drew1)⟩
set_option maxHeartbeats 8000000 in
theorem number_yes (a0 : ByteArray) (n : Nat) (w : World) (hR : ∀ w, Calls Tryz.prog 158 #[.string a0, .func (.func 162) #[] #[]] w fun e w' => e = .returned (.int .i64 (n : Int)) ∧ Drawn0 w w')
    (h : ¬ 9 < n) (h2 : n ≤ a0.size) (h3 : (n ≤ 1 ∨ ((a0.data.toList.getD 0 0).toNat : Int) ≠ 48)) (hd : ∀ c ∈ a0.data.toList.take n, isDigitB c = true) :
    Calls Tryz.prog 163 #[.string a0] w fun e w' => e = .returned (.tuple #[.agg #[.int .i64 2, .string ⟨#[]⟩, .int .i64 (numV 0 (a0.data.toList.take n)), .int .i64 0], .int .i64 (n : Int), .bool true]) ∧ Below w.heap.size w w' := by
  have HR := Aside0.mk hR
  have HD := Aside0.mk hd
  clear hR hd
  have e1 : decide ((n : Int) > 9) = false := decide_eq_false (by omega)
  have i1 : 0 ≤ (n : Int) := by omega
  have i2 : (n : Int) ≤ (a0.size : Int) := by omega
  have hds : (a0.extract 0 n).data.toList = a0.data.toList.take n := by rw [ByteArray.data_extract]; simp
  have hsz : (a0.extract 0 n).size = n := by
    have := congrArg List.length hds
    rw [List.length_take] at this
    have h4 : a0.data.toList.length = a0.size := by simp
    have h5 : (a0.extract 0 n).data.toList.length = (a0.extract 0 n).size := by simp
    omega
  replace hds := Aside0.mk hds
  have hne : n ≤ 1 ∨ (1 < n ∧ ((a0.data.toList.getD 0 0).toNat : Int) ≠ 48) := by rcases h3 with h3 | h3 <;> omega
  clear h3
  have hT := Aside0.mk (show (a0.data.toList.take n).length = n by rw [List.length_take]; have h4 : a0.data.toList.length = a0.size := by simp
                                                                   omega)
  generalize a0.data.toList.take n = ds at HD hds hT ⊢
  generalize hres : numV 0 ds = R
  replace hres := Aside0.mk hres
  replace hsz := Aside0.mk hsz
  rcases hne with h1 | ⟨h1, h4⟩
  · have e2 : decide ((n : Int) > 1) = false := decide_eq_false (by omega)
    go_enter Tryz.func163, Tryz.ntmps163
    go_wp2_with (first | (go_at_call 158; (with_reducible refine (HR.out _).mono ?_); rintro e w' ⟨rfl, ⟨nd, rfl⟩⟩) | ((with_reducible refine gate_dst (N := 28) rfl ?_); refine bytes_event ?hg (src := 9) (dst := 221) (s := a0.extract 0 n) Tryz.underlying9 Tryz.underlying221 Tryz.underlying5 ?hr ?_; (case hg => rfl); (case hr => intro hcv; go_simp; done); intro g c w1 hg hcell hb; replace hg := Aside0.mk hg; rw [hsz.out] at hcell ⊢; rw [hds.out] at hcell))
    have G2 : w1.heap[w.heap.size]? = some (.cells #[.int .i64 0, .string ⟨#[]⟩, .int .i64 0, .int .i64 0] 155 (0, 0)) := by
      rw [hb.block _ (by simp; omega), Below.heap_alloc _ _ _ (by simp)]
      exact heap_alloc_new w _
    have G6 : w1.heap[w.heap.size + 1]? = some (.cells #[.int .i64 2, .string ⟨#[]⟩, .int .i64 0, .int .i64 0] 155 (0, 0)) := by
      rw [hb.block _ (by simp)]
      have e : w.heap.size + 1 = ((w.alloc (.cells #[.int .i64 0, .string ⟨#[]⟩, .int .i64 0, .int .i64 0] 155)).drewN nd).heap.size := by simp
      rw [e]
      exact heap_alloc_new _ _
    have HB1 : Below w.heap.size w w1 := (Below.alloc (pw_below_drewN (Below.alloc (Below.refl _ _) (Nat.le_refl _) _) nd) (by simp) _).trans (hb.mono (by simp; omega))
    have hg' : g = w.heap.size + 2 := by rw [hg.out]; simp
    clear hb hg e1 e2
    replace hg' := Aside0.mk hg'
    replace hcell := Aside0.mk hcell
    go_loopg [8, 30] (n + 1) (fun kq v8 v30 w' => ∃ (i : Nat) (N : Int), kq + i = n + 1 ∧ v30 = .int .i64 (i : Int) ∧ i ≤ n ∧ 0 ≤ N ∧ N < 10 ^ i ∧ numV N (ds.drop i) = R ∧ w'.heap[w.heap.size]? = some (.cells #[.int .i64 0, .string ⟨#[]⟩, .int .i64 0, .int .i64 0] 155 (0, 0)) ∧ w'.heap[w.heap.size + 1]? = some (.cells #[.int .i64 2, .string ⟨#[]⟩, .int .i64 N, .int .i64 0] 155 (0, 0)) ∧ (∀ j, j < n → w'.cell? ⟨g, j, none⟩ = some (.int .u8 (ds.getD j 0).toNat)) ∧ Below w.heap.size w w')
    case atStart => exact ⟨0, 0, by omega, rfl, by omega, by omega, by omega, by rw [List.drop_zero]; exact hres.out, G2, G6, hcell.out, HB1⟩
    case round =>
      clear G2 G6 HB1 hcell hres
      obtain ⟨i, N, hq, rfl, hi, hN0, hN1, hl, G2, G6, hc, hB⟩ := hrel
      cases gk with
      | zero => exfalso; omega
      | succ k1 =>
      replace hl := Aside0.mk hl
      replace hB := Aside0.mk hB
      by_cases hlt : i < n
      · have hlt1 : decide ((i : Int) < (n : Int)) = true := decide_eq_true (by omega)
        have hx := hc i hlt
        have hp9 : (10 : Int) ^ i ≤ 10 ^ 8 := by exact_mod_cast Nat.pow_le_pow_right (by omega) (by omega)
        have hps : (10 : Int) ^ (i + 1) = 10 ^ i * 10 := Int.pow_succ 10 i
        have hdl : i < ds.length := by rw [hT.out]; exact hlt
        have hdrop : ds.drop i = ds.getD i 0 :: ds.drop (i + 1) := by
          rw [List.drop_eq_getElem_cons hdl, List.getD_eq_getElem?_getD, List.getElem?_eq_getElem hdl]; rfl
        have hdig := HD.out (ds.getD i 0) (by rw [List.getD_eq_getElem?_getD, List.getElem?_eq_getElem hdl]; exact List.getElem_mem hdl)
        have hl2 : numV (N * 10 + (((ds.getD i 0).toNat : Int) - 48)) (ds.drop (i + 1)) = R := by rw [← hl.out, hdrop]; rfl
        unfold isDigitB at hdig
        have hdig := of_decide_eq_true hdig
        replace hl2 := Aside0.mk hl2
        clear hdrop hl
        generalize (ds.getD i 0).toNat = d at hx hdig hl2
        have d1 : 48 ≤ (d : Int) := by omega
        have d2 : (d : Int) ≤ 57 := by omega
        have n2 : N ≤ 99999999 := by omega
        have n3 : N * 10 + ((d : Int) - 48) < 10 ^ (i + 1) := by omega
        replace n3 := Aside0.mk n3
        have C6 := blk_cell G6 2
        have F6 := blk_frozen G6 2
        replace G2 := Aside0.mk G2
        replace G6 := Aside0.mk G6
        replace hc := Aside0.mk hc
        have hi0 : 0 ≤ (i : Int) := by omega
        have hi1 : (i : Int) < (n : Int) := by omega
        clear hps hp9 hdig
        go_wp2
        go_roundg k1
        case measure => exact Nat.lt_succ_self _
        case rel =>
          exact ⟨i + 1, N * 10 + ((d : Int) - 48), by omega, by rw [show ((i : Int) + 1) = ((i + 1 : Nat) : Int) by omega], by omega, by omega, n3.out, hl2.out, blk_far G2.out (by simp) _, by have := blk_set G6.out 2 (.int .i64 (N * 10 + ((d : Int) - 48))); simpa using this, fun j hj => by
            have h3 : ¬ (w.heap.size + 1 = g) := by have := hg'.out; omega
            rw [cell_far (a := ⟨g, j, none⟩) (by simpa using fun e => h3 e.symm)]; exact hc.out j hj, Below.setCell hB.out (by simp) _⟩
      · have hlt1 : decide ((i : Int) < (n : Int)) = false := decide_eq_false (by omega)
        have hfin : N = R := by
          have := hl.out
          rw [List.drop_of_length_le (by have := hT.out; omega)] at this
          exact this
        subst hfin
        have C60 := blk_cell G6 0
        have C61 := blk_cell G6 1
        have C62 := blk_cell G6 2
        have C63 := blk_cell G6 3
        have C20 := blk_cell G2 0
        have C21 := blk_cell G2 1
        have C22 := blk_cell G2 2
        have C23 := blk_cell G2 3
        have F20 := blk_frozen G2 0
        have F21 := blk_frozen G2 1
        have F22 := blk_frozen G2 2
        have F23 := blk_frozen G2 3
        replace hc := Aside0.mk hc
        clear hN1 hN0 G6 hl
        replace G2 := Aside0.mk G2
        go_wp2
        have G := blk_set (blk_set (blk_set (blk_set G2.out 0 (.int .i64 2)) 1 (.string ⟨#[]⟩)) 2 (.int .i64 N)) 3 (.int .i64 0)
        have Q0 := blk_cell G 0
        have Q1 := blk_cell G 1
        have Q2 := blk_cell G 2
        have Q3 := blk_cell G 3
        have HBe : Below w.heap.size w ((((wr.setCell ⟨w.heap.size, 0, none⟩ (.int .i64 2)).setCell ⟨w.heap.size, 1, none⟩ (.string ⟨#[]⟩)).setCell ⟨w.heap.size, 2, none⟩ (.int .i64 N)).setCell ⟨w.heap.size, 3, none⟩ (.int .i64 0)) := Below.setCell (Below.setCell (Below.setCell (Below.setCell hB.out (Nat.le_refl _) _) (Nat.le_refl _) _) (Nat.le_refl _) _) (Nat.le_refl _) _
        clear G
        generalize ((((wr.setCell ⟨w.heap.size, 0, none⟩ (.int .i64 2)).setCell ⟨w.heap.size, 1, none⟩ (.string ⟨#[]⟩)).setCell ⟨w.heap.size, 2, none⟩ (.int .i64 N)).setCell ⟨w.heap.size, 3, none⟩ (.int .i64 0)) = we at Q0 Q1 Q2 Q3 HBe ⊢
        exact bodyPost_ret (v := .tuple #[.agg #[.int .i64 2, .string ⟨#[]⟩, .int .i64 N, .int .i64 0], .int .i64 (n : Int), .bool true]) (by simp [results, Tryz.results163, go_sem, Q0, Q1, Q2, Q3]) rfl ⟨rfl, HBe⟩
  · have e2 : decide ((n : Int) > 1) = true := decide_eq_true (by omega)
    have e3 : decide ((0 : Int) < (a0.size : Int)) = true := decide_eq_true (by omega)
    have h0 : 0 < a0.size := by omega
    have e4 : ((a0[0].toNat : Int) == 48) = false := by
      have : a0.data.toList.getD 0 0 = a0[0] := by
        rw [List.getD_eq_getElem?_getD, List.getElem?_eq_getElem (by simpa using h0)]; rfl
      rw [this] at h4
      simpa using h4
    clear h4
    go_enter Tryz.func163, Tryz.ntmps163
    go_wp2_with (first | (go_at_call 158; (with_reducible refine (HR.out _).mono ?_); rintro e w' ⟨rfl, ⟨nd, rfl⟩⟩) | ((with_reducible refine gate_dst (N := 28) rfl ?_); refine bytes_event ?hg (src := 9) (dst := 221) (s := a0.extract 0 n) Tryz.underlying9 Tryz.underlying221 Tryz.underlying5 ?hr ?_; (case hg => rfl); (case hr => intro hcv; go_simp; done); intro g c w1 hg hcell hb; replace hg := Aside0.mk hg; rw [hsz.out] at hcell ⊢; rw [hds.out] at hcell))
    have G2 : w1.heap[w.heap.size]? = some (.cells #[.int .i64 0, .string ⟨#[]⟩, .int .i64 0, .int .i64 0] 155 (0, 0)) := by
      rw [hb.block _ (by simp; omega), Below.heap_alloc _ _ _ (by simp)]
      exact heap_alloc_new w _
    have G6 : w1.heap[w.heap.size + 1]? = some (.cells #[.int .i64 2, .string ⟨#[]⟩, .int .i64 0, .int .i64 0] 155 (0, 0)) := by
      rw [hb.block _ (by simp)]
      have e : w.heap.size + 1 = ((w.alloc (.cells #[.int .i64 0, .string ⟨#[]⟩, .int .i64 0, .int .i64 0] 155)).drewN nd).heap.size := by simp
      rw [e]
      exact heap_alloc_new _ _
    have HB1 : Below w.heap.size w w1 := (Below.alloc (pw_below_drewN (Below.alloc (Below.refl _ _) (Nat.le_refl _) _) nd) (by simp) _).trans (hb.mono (by simp; omega))
    have hg' : g = w.heap.size + 2 := by rw [hg.out]; simp
    clear hb hg e1 e2
    replace hg' := Aside0.mk hg'
    replace hcell := Aside0.mk hcell
    go_loopg [8, 30] (n + 1) (fun kq v8 v30 w' => ∃ (i : Nat) (N : Int), kq + i = n + 1 ∧ v30 = .int .i64 (i : Int) ∧ i ≤ n ∧ 0 ≤ N ∧ N < 10 ^ i ∧ numV N (ds.drop i) = R ∧ w'.heap[w.heap.size]? = some (.cells #[.int .i64 0, .string ⟨#[]⟩, .int .i64 0, .int .i64 0] 155 (0, 0)) ∧ w'.heap[w.heap.size + 1]? = some (.cells #[.int .i64 2, .string ⟨#[]⟩, .int .i64 N, .int .i64 0] 155 (0, 0)) ∧ (∀ j, j < n → w'.cell? ⟨g, j, none⟩ = some (.int .u8 (ds.getD j 0).toNat)) ∧ Below w.heap.size w w')
    case atStart => exact ⟨0, 0, by omega, rfl, by omega, by omega, by omega, by rw [List.drop_zero]; exact hres.out, G2, G6, hcell.out, HB1⟩
    case round =>
      clear G2 G6 HB1 hcell hres
      obtain ⟨i, N, hq, rfl, hi, hN0, hN1, hl, G2, G6, hc, hB⟩ := hrel
      cases gk with
      | zero => exfalso; omega
      | succ k1 =>
      replace hl := Aside0.mk hl
      replace hB := Aside0.mk hB
      by_cases hlt : i < n
      · have hlt1 : decide ((i : Int) < (n : Int)) = true := decide_eq_true (by omega)
        have hx := hc i hlt
        have hp9 : (10 : Int) ^ i ≤ 10 ^ 8 := by exact_mod_cast Nat.pow_le_pow_right (by omega) (by omega)
        have hps : (10 : Int) ^ (i + 1) = 10 ^ i * 10 := Int.pow_succ 10 i
        have hdl : i < ds.length := by rw [hT.out]; exact hlt
        have hdrop : ds.drop i = ds.getD i 0 :: ds.drop (i + 1) := by
          rw [List.drop_eq_getElem_cons hdl, List.getD_eq_getElem?_getD, List.getElem?_eq_getElem hdl]; rfl
        have hdig := HD.out (ds.getD i 0) (by rw [List.getD_eq_getElem?_getD, List.getElem?_eq_getElem hdl]; exact List.getElem_mem hdl)
        have hl2 : numV (N * 10 + (((ds.getD i 0).toNat : Int) - 48)) (ds.drop (i + 1)) = R := by rw [← hl.out, hdrop]; rfl
        unfold isDigitB at hdig
        have hdig := of_decide_eq_true hdig
        replace hl2 := Aside0.mk hl2
        clear hdrop hl
        generalize (ds.getD i 0).toNat = d at hx hdig hl2
        have d1 : 48 ≤ (d : Int) := by omega
        have d2 : (d : Int) ≤ 57 := by omega
        have n2 : N ≤ 99999999 := by omega
        have n3 : N * 10 + ((d : Int) - 48) < 10 ^ (i + 1) := by omega
        replace n3 := Aside0.mk n3
        have C6 := blk_cell G6 2
        have F6 := blk_frozen G6 2
        replace G2 := Aside0.mk G2
        replace G6 := Aside0.mk G6
        replace hc := Aside0.mk hc
        have hi0 : 0 ≤ (i : Int) := by omega
        have hi1 : (i : Int) < (n : Int) := by omega
        clear hps hp9 hdig
        go_wp2
        go_roundg k1
        case measure => exact Nat.lt_succ_self _
        case rel =>
          exact ⟨i + 1, N * 10 + ((d : Int) - 48), by omega, by rw [show ((i : Int) + 1) = ((i + 1 : Nat) : Int) by omega], by omega, by omega, n3.out, hl2.out, blk_far G2.out (by simp) _, by have := blk_set G6.out 2 (.int .i64 (N * 10 + ((d : Int) - 48))); simpa using this, fun j hj => by
            have h3 : ¬ (w.heap.size + 1 = g) := by have := hg'.out; omega
            rw [cell_far (a := ⟨g, j, none⟩) (by simpa using fun e => h3 e.symm)]; exact hc.out j hj, Below.setCell hB.out (by simp) _⟩
      · have hlt1 : decide ((i : Int) < (n : Int)) = false := decide_eq_false (by omega)
        have hfin : N = R := by
          have := hl.out
          rw [List.drop_of_length_le (by have := hT.out; omega)] at this
          exact this
        subst hfin
        have C60 := blk_cell G6 0
        have C61 := blk_cell G6 1
        have C62 := blk_cell G6 2
        have C63 := blk_cell G6 3
        have C20 := blk_cell G2 0
        have C21 := blk_cell G2 1
        have C22 := blk_cell G2 2
        have C23 := blk_cell G2 3
        have F20 := blk_frozen G2 0
        have F21 := blk_frozen G2 1
        have F22 := blk_frozen G2 2
        have F23 := blk_frozen G2 3
        replace hc := Aside0.mk hc
        clear hN1 hN0 G6 hl
        replace G2 := Aside0.mk G2
        go_wp2
        have G := blk_set (blk_set (blk_set (blk_set G2.out 0 (.int .i64 2)) 1 (.string ⟨#[]⟩)) 2 (.int .i64 N)) 3 (.int .i64 0)
        have Q0 := blk_cell G 0
        have Q1 := blk_cell G 1
        have Q2 := blk_cell G 2
        have Q3 := blk_cell G 3
        have HBe : Below w.heap.size w ((((wr.setCell ⟨w.heap.size, 0, none⟩ (.int .i64 2)).setCell ⟨w.heap.size, 1, none⟩ (.string ⟨#[]⟩)).setCell ⟨w.heap.size, 2, none⟩ (.int .i64 N)).setCell ⟨w.heap.size, 3, none⟩ (.int .i64 0)) := Below.setCell (Below.setCell (Below.setCell (Below.setCell hB.out (Nat.le_refl _) _) (Nat.le_refl _) _) (Nat.le_refl _) _) (Nat.le_refl _) _
        clear G
        generalize ((((wr.setCell ⟨w.heap.size, 0, none⟩ (.int .i64 2)).setCell ⟨w.heap.size, 1, none⟩ (.string ⟨#[]⟩)).setCell ⟨w.heap.size, 2, none⟩ (.int .i64 N)).setCell ⟨w.heap.size, 3, none⟩ (.int .i64 0)) = we at Q0 Q1 Q2 Q3 HBe ⊢
        exact bodyPost_ret (v := .tuple #[.agg #[.int .i64 2, .string ⟨#[]⟩, .int .i64 N, .int .i64 0], .int .i64 (n : Int), .bool true]) (by simp [results, Tryz.results163, go_sem, Q0, Q1, Q2, Q3]) rfl ⟨rfl, HBe⟩
theorem plen_all (p : UInt8 → Bool) : ∀ (l : List UInt8) (c : UInt8), c ∈ l.take (plen p l) → p c = true
  | [], c, h => by simp [plen] at h
  | x :: r, c, h => by
    unfold plen at h
    by_cases hx : p x = true
    · rw [if_pos hx, List.take_succ_cons, List.mem_cons] at h
      rcases h with rfl | h
      · exact hx
      · exact plen_all p r c h
    · rw [if_neg hx] at h; simp at h
theorem lex_number.calls (a0 : ByteArray) (r1 : Int) (r2 : ByteArray) (r3 : Int) (r4 : Int) (r5 : Int) (r6 : Bool) (w : World) (h : lex_number.f a0 = some (r1, r2, r3, r4, r5, r6)) :
    Calls Tryz.prog 163 #[.string a0] w fun e w' => e = .returned (.tuple #[.agg #[.int .i64 r1, .string r2, .int .i64 r3, .int .i64 r4], .int .i64 r5, .bool r6]) ∧ Below w.heap.size w w' := by
  unfold lex_number.f at h
  by_cases hs : a0.size ≤ 100000
  · rw [if_pos hs] at h
    have hR := fun w => lex_runDigit.calls a0 (plen isDigitB a0.data.toList : Nat) w (by unfold lex_runDigit.f; rw [if_pos hs])
    have hle := plen_le isDigitB a0.data.toList
    have hsz : a0.data.toList.length = a0.size := by simp
    have hall := plen_all isDigitB a0.data.toList
    generalize plen isDigitB a0.data.toList = n at h hR hle hall
    by_cases h9 : 9 < n
    · rw [if_pos (Or.inl h9)] at h
      simp only [Option.some.injEq, Prod.mk.injEq] at h
      obtain ⟨rfl, rfl, rfl, rfl, rfl, rfl⟩ := h
      exact number_no a0 n w hR h9
    · by_cases h1 : n > 1 ∧ (a0.data.toList.getD 0 0).toNat = 48
      · rw [if_pos (Or.inr h1)] at h
        simp only [Option.some.injEq, Prod.mk.injEq] at h
        obtain ⟨rfl, rfl, rfl, rfl, rfl, rfl⟩ := h
        refine number_zero a0 n w hR h9 h1.1 (by omega) ?_
        have h0 : 0 < a0.size := by omega
        rw [getElem!_pos a0 0 h0]
        have : a0.data.toList.getD 0 0 = a0[0] := by
          rw [List.getD_eq_getElem?_getD, List.getElem?_eq_getElem (by simpa using h0)]; rfl
        rw [← this]; exact h1.2
      · rw [if_neg (by omega)] at h
        simp only [Option.some.injEq, Prod.mk.injEq] at h
        obtain ⟨rfl, rfl, rfl, rfl, rfl, rfl⟩ := h
        exact number_yes a0 n w hR h9 (by omega) (by omega) hall
  · rw [if_neg hs] at h; cases h
end Go.Proofs.YtaofmmnfenlofaaGreatDoor.QTc
namespace Go.Proofs.YtaofmmnfenlofaaGreatDoor.QTc
open Go.RowKit Go.Proofs.YtaofmmnfenlofaaGreatDoorW.PrintWords Go.Proofs.YtaofmmnfenlofaaGreatDoorW.PrintLast Go.Proofs.YtaofmmnfenlofaaGreatDoorW.PrintMore
attribute [local go_sem] max2_int min2_int max_two min_two max_three min_three max_four min_four
set_option linter.unusedVariables false
set_option linter.unusedSimpArgs false
def lex_token.f (k : Nat) (a0 : ByteArray) : Option (Int × ByteArray × Int × Int × Int × Bool) := if 0 < (a0.size : Int) then ((lex_isLetter.f (bt a0 0)).bind fun t126 => (if t126 = true then ((lex_name.f k a0).bind fun bt127 => (some (bt127.1, bt127.2.1, bt127.2.2.1, bt127.2.2.2.1, bt127.2.2.2.2.1, bt127.2.2.2.2.2))) else ((lex_isDigit.f (bt a0 0)).bind fun t133 => (if t133 = true then ((lex_number.f a0).bind fun bt134 => (some (bt134.1, bt134.2.1, bt134.2.2.1, bt134.2.2.2.1, bt134.2.2.2.2.1, bt134.2.2.2.2.2))) else ((strings_HasPrefix.f a0 (⟨#[59]⟩ : ByteArray)).bind fun t140 => (if t140 = true then (some (3, (⟨#[59]⟩ : ByteArray), 0, 0, 1, true)) else (some (0, (⟨#[]⟩ : ByteArray), 0, 0, 0, false)))))))) else (none)
set_option maxHeartbeats 8000000 in
set_option maxRecDepth 100000 in
theorem lex_token.calls (k : Nat) (a0 : ByteArray) (r1 : Int) (r2 : ByteArray) (r3 : Int) (r4 : Int) (r5 : Int) (r6 : Bool) (w : World) (hT : TabW w) (h : lex_token.f k a0 = some (r1, r2, r3, r4, r5, r6)) :
  Calls Tryz.prog 136 #[.string a0] w fun e w' => e = .returned (.tuple #[.agg #[.int .i64 r1, .string r2, .int .i64 r3, .int .i64 r4], .int .i64 r5, .bool r6]) ∧ Below w.heap.size w w' := by
 have HT := Aside0.mk hT
 clear hT
 have hu155 := Tryz.underlying155
 have HB := Aside0.mk (Below.refl w.heap.size w)
 have H : (if 0 < (a0.size : Int) then ((lex_isLetter.f (bt a0 0)).bind fun t126 => (if t126 = true then ((lex_name.f k a0).bind fun bt127 => (some (bt127.1, bt127.2.1, bt127.2.2.1, bt127.2.2.2.1, bt127.2.2.2.2.1, bt127.2.2.2.2.2))) else ((lex_isDigit.f (bt a0 0)).bind fun t133 => (if t133 = true then ((lex_number.f a0).bind fun bt134 => (some (bt134.1, bt134.2.1, bt134.2.2.1, bt134.2.2.2.1, bt134.2.2.2.2.1, bt134.2.2.2.2.2))) else ((strings_HasPrefix.f a0 (⟨#[59]⟩ : ByteArray)).bind fun t140 => (if t140 = true then (some (3, (⟨#[59]⟩ : ByteArray), 0, 0, 1, true)) else (some (0, (⟨#[]⟩ : ByteArray), 0, 0, 0, false)))))))) else (none)) = some (r1, r2, r3, r4, r5, r6) := h
 clear h
 by_cases c2 : 0 < (a0.size : Int)
 ·rw [if_pos c2] at H
  have c2b0 : decide (0 < (a0.size : Int)) = true := decide_eq_true c2
  have c2b1 : decide (0 < a0.size) = true := decide_eq_true (by omega)
  clear c2
  replace H := Option.bind_eq_some_iff.mp H
  obtain ⟨t126, A40, H⟩ := H
  replace H : (if t126 = true then ((lex_name.f k a0).bind fun bt127 => (some (bt127.1, bt127.2.1, bt127.2.2.1, bt127.2.2.2.1, bt127.2.2.2.2.1, bt127.2.2.2.2.2))) else ((lex_isDigit.f (bt a0 0)).bind fun t133 => (if t133 = true then ((lex_number.f a0).bind fun bt134 => (some (bt134.1, bt134.2.1, bt134.2.2.1, bt134.2.2.2.1, bt134.2.2.2.2.1, bt134.2.2.2.2.2))) else ((strings_HasPrefix.f a0 (⟨#[59]⟩ : ByteArray)).bind fun t140 => (if t140 = true then (some (3, (⟨#[59]⟩ : ByteArray), 0, 0, 1, true)) else (some (0, (⟨#[]⟩ : ByteArray), 0, 0, 0, false))))))) = some (r1, r2, r3, r4, r5, r6) := H
  have A4 := Aside0.mk A40
  clear A40
  by_cases c5 : t126 = true
  ·subst c5
   have H1 : ((lex_name.f k a0).bind fun bt127 => (some (bt127.1, bt127.2.1, bt127.2.2.1, bt127.2.2.2.1, bt127.2.2.2.2.1, bt127.2.2.2.2.2))) = some (r1, r2, r3, r4, r5, r6) := by rw [if_pos rfl] at H; exact H
   clear H
   have H := H1
   clear H1
   replace H := Option.bind_eq_some_iff.mp H
   obtain ⟨⟨t127, t128, t129, t130, t131, t132⟩, A60, H⟩ := H
   replace H : (some (t127, t128, t129, t130, t131, t132)) = some (r1, r2, r3, r4, r5, r6) := H
   have A6 := Aside0.mk A60
   clear A60
   simp only [Option.some.injEq, Prod.mk.injEq] at H
   obtain ⟨rfl, rfl, rfl, rfl, rfl, rfl⟩ := H
   go_enter Tryz.func136, Tryz.ntmps136
   go_wp2_with (first | ((with_reducible refine gate_dst (N := 2) rfl ?_); refine box_event ?hg (N := 2) ?hd (cs := #[.int .i64 0, .string (⟨#[]⟩ : ByteArray), .int .i64 0, .int .i64 0]) (t := 155) ?hr ?_; (case hd => rfl); (case hg => rfl); (case hr => first | (go_simp; done) | (go_simp; rfl)); intro gb125 hg w7 hbox hb; have n0_ := Aside0.mk (below_step (by repeat (first | (with_reducible first | exact HB.out | apply below_alloc | apply pw_below_drewN | apply below_drew1) | exact HB.out)) hb); have n1_ := Aside0.mk (hbox); have n2_ := Aside0.mk ((by rw [hg]; exact (below_size (by repeat (first | (with_reducible first | exact HB.out | apply below_alloc | apply pw_below_drewN | apply below_drew1) | exact HB.out))) : w.heap.size ≤ gb125)); have n3_ := Aside0.mk ((by rw [hg]; exact (below_size (by repeat (first | (with_reducible first | exact HB.out | apply below_alloc | apply pw_below_drewN | apply below_drew1) | exact HB.out))) : w.heap.size ≤ gb125)); clear HB; have HB := n0_; have BK125 := n1_; have GW125 := n2_; have GE125 := n3_; clear n0_ n1_ n2_ n3_; clear hb hbox hg; have p3 : 0 ≤ (0 : Int) := (by omega); have q3 : 0 < a0.size := (by have : (0 : Int) < (a0.size : Int) := of_decide_eq_true (by first | (with_reducible assumption) | assumption); omega); have hx3 : ∀ h : 0 < a0.size, ((a0[0]'h).toNat : Int) = bt a0 0 := bt_at a0 0; clear p3; have qi3 : (0 < (a0.size : Int)) = True := eq_true (of_decide_eq_true (by first | (with_reducible assumption) | assumption)); replace q3 := eq_true q3) | ((with_reducible refine gate_callee (f := 160) rfl ?_); refine goesL_ (some 8) rfl rfl Tryz.func160 (by kernel_rfl) rfl #[.int .u8 (bt a0 0)] rfl (by (try simp only [List.map_toArray, List.map_cons, List.map_nil]); first | done | rfl | (simp only [List.length_drop, List.length_take]; rfl)) ?_; (with_reducible refine (lex_isLetter.calls (bt a0 0) true _ A4.out).mono ?_); rintro e w' ⟨rfl, ⟨nd, rfl⟩⟩; refine ⟨_, rfl, ?_⟩; (try (rw [drewN_self w7]; generalize hq_ : World.drewN w7 _ = w7; have n0_ : Aside0 (w7.heap[gb125]? = some (.cells #[.int .i64 0, .string (⟨#[]⟩ : ByteArray), .int .i64 0, .int .i64 0] 155 (0, 0))) := ⟨by rw [← hq_]; exact (by (with_reducible repeat (first | refine blk_drewN ?_ _ | refine blk_drew ?_ | refine blk_alloc ?_ _)); exact BK125.out)⟩; have n1_ : Aside0 (Below w.heap.size w w7) := ⟨by rw [← hq_]; exact (by repeat (first | (with_reducible first | exact HB.out | apply below_alloc | apply pw_below_drewN | apply below_drew1 | refine below_set ?_ GE125.out) | exact HB.out))⟩; clear BK125 HB hq_; have BK125 := n0_; have HB := n1_; clear n0_ n1_))) | ((with_reducible refine gate_callee (f := 161) rfl ?_); refine goesL_ (some 10) rfl rfl Tryz.func161 (by kernel_rfl) rfl #[.string a0] rfl (by (try simp only [List.map_toArray, List.map_cons, List.map_nil]); first | done | rfl | (simp only [List.length_drop, List.length_take]; rfl)) ?_; (with_reducible refine (lex_name.calls (hT := ?sideT) k a0 t127 t128 t129 t130 t131 t132 _ A6.out).mono ?_); (case sideT => first | with_reducible exact HT.out | refine TabW.below HT.out ?_; repeat (first | (with_reducible first | exact HB.out | apply below_alloc | apply pw_below_drewN | apply below_drew1 | refine below_set ?_ GE125.out) | exact HB.out | exact Below.refl _ _)); rintro e w8 ⟨rfl, hb⟩; refine ⟨_, rfl, ?_⟩; have n0_ := Aside0.mk (blk_below (g := gb125) (o := .cells #[.int .i64 0, .string (⟨#[]⟩ : ByteArray), .int .i64 0, .int .i64 0] 155 (0, 0)) (by (with_reducible repeat (first | refine blk_drewN ?_ _ | refine blk_drew ?_ | refine blk_alloc ?_ _)); exact BK125.out) hb); have n1_ := Aside0.mk (below_step (by repeat (first | (with_reducible first | exact HB.out | apply below_alloc | apply pw_below_drewN | apply below_drew1 | refine below_set ?_ GE125.out) | exact HB.out)) hb); clear BK125; clear HB; have BK125 := n0_; have HB := n1_; clear n0_ n1_; (try clear hb); (try clear hb2); (try clear hk); (try clear hi); have hcz9_0 : w8.cell? ⟨gb125, 0, none⟩ = some (.int .i64 0) := (blk_cell BK125.out 0).trans rfl; have hcz9_1 : w8.cell? ⟨gb125, 1, none⟩ = some (.string (⟨#[]⟩ : ByteArray)) := (blk_cell BK125.out 1).trans rfl; have hcz9_2 : w8.cell? ⟨gb125, 2, none⟩ = some (.int .i64 0) := (blk_cell BK125.out 2).trans rfl; have hcz9_3 : w8.cell? ⟨gb125, 3, none⟩ = some (.int .i64 0) := (blk_cell BK125.out 3).trans rfl; have hfz9_0 := blk_frozen BK125.out 0; have hfz9_1 := blk_frozen BK125.out 1; have hfz9_2 := blk_frozen BK125.out 2; have hfz9_3 := blk_frozen BK125.out 3))
   refine bodyPost_ret (results_ctt rfl _ _ gb125 155 #[.int .i64 t127, .string t128, .int .i64 t129, .int .i64 t130] (0, 0) _ rfl (by (with_reducible repeat (first | refine blk_drewN ?_ _ | refine blk_drew ?_ | refine blk_alloc ?_ _)); refine blk_put (cs := #[.int .i64 t127, .string t128, .int .i64 t129, .int .i64 0]) ?_ 3 _ rfl; (with_reducible repeat (first | refine blk_drewN ?_ _ | refine blk_drew ?_ | refine blk_alloc ?_ _)); refine blk_put (cs := #[.int .i64 t127, .string t128, .int .i64 0, .int .i64 0]) ?_ 2 _ rfl; (with_reducible repeat (first | refine blk_drewN ?_ _ | refine blk_drew ?_ | refine blk_alloc ?_ _)); refine blk_put (cs := #[.int .i64 t127, .string (⟨#[]⟩ : ByteArray), .int .i64 0, .int .i64 0]) ?_ 1 _ rfl; (with_reducible repeat (first | refine blk_drewN ?_ _ | refine blk_drew ?_ | refine blk_alloc ?_ _)); refine blk_put (cs := #[.int .i64 0, .string (⟨#[]⟩ : ByteArray), .int .i64 0, .int .i64 0]) ?_ 0 _ rfl; (with_reducible repeat (first | refine blk_drewN ?_ _ | refine blk_drew ?_ | refine blk_alloc ?_ _)); exact BK125.out) Tryz.underlying155 rfl (by kernel_rfl)) rfl ?_
   exact ⟨by first | rfl | (simp [errW_none, errW_some] <;> rfl) | (simp [*, errW_none, errW_some] <;> rfl), by repeat (first | (with_reducible first | exact HB.out | apply below_alloc | apply pw_below_drewN | apply below_drew1 | refine below_set ?_ GE125.out) | exact HB.out)⟩
  ·replace c5 := Bool.eq_false_iff.mpr c5
   subst c5
   have H1 : ((lex_isDigit.f (bt a0 0)).bind fun t133 => (if t133 = true then ((lex_number.f a0).bind fun bt134 => (some (bt134.1, bt134.2.1, bt134.2.2.1, bt134.2.2.2.1, bt134.2.2.2.2.1, bt134.2.2.2.2.2))) else ((strings_HasPrefix.f a0 (⟨#[59]⟩ : ByteArray)).bind fun t140 => (if t140 = true then (some (3, (⟨#[59]⟩ : ByteArray), 0, 0, 1, true)) else (some (0, (⟨#[]⟩ : ByteArray), 0, 0, 0, false)))))) = some (r1, r2, r3, r4, r5, r6) := by rw [if_neg (show ¬ (false = true) by decide)] at H; exact H
   clear H
   have H := H1
   clear H1
   replace H := Option.bind_eq_some_iff.mp H
   obtain ⟨t133, A110, H⟩ := H
   replace H : (if t133 = true then ((lex_number.f a0).bind fun bt134 => (some (bt134.1, bt134.2.1, bt134.2.2.1, bt134.2.2.2.1, bt134.2.2.2.2.1, bt134.2.2.2.2.2))) else ((strings_HasPrefix.f a0 (⟨#[59]⟩ : ByteArray)).bind fun t140 => (if t140 = true then (some (3, (⟨#[59]⟩ : ByteArray), 0, 0, 1, true)) else (some (0, (⟨#[]⟩ : ByteArray), 0, 0, 0, false))))) = some (r1, r2, r3, r4, r5, r6) := H
   have A11 := Aside0.mk A110
   clear A110
   by_cases c12 : t133 = true
   ·subst c12
    have H1 : ((lex_number.f a0).bind fun bt134 => (some (bt134.1, bt134.2.1, bt134.2.2.1, bt134.2.2.2.1, bt134.2.2.2.2.1, bt134.2.2.2.2.2))) = some (r1, r2, r3, r4, r5, r6) := by rw [if_pos rfl] at H; exact H
    clear H
    have H := H1
    clear H1
    replace H := Option.bind_eq_some_iff.mp H
    obtain ⟨⟨t134, t135, t136, t137, t138, t139⟩, A130, H⟩ := H
    replace H : (some (t134, t135, t136, t137, t138, t139)) = some (r1, r2, r3, r4, r5, r6) := H
    have A13 := Aside0.mk A130
    clear A130
    simp only [Option.some.injEq, Prod.mk.injEq] at H
    obtain ⟨rfl, rfl, rfl, rfl, rfl, rfl⟩ := H
    go_enter Tryz.func136, Tryz.ntmps136
    go_wp2_with (first | ((with_reducible refine gate_dst (N := 2) rfl ?_); refine box_event ?hg (N := 2) ?hd (cs := #[.int .i64 0, .string (⟨#[]⟩ : ByteArray), .int .i64 0, .int .i64 0]) (t := 155) ?hr ?_; (case hd => rfl); (case hg => rfl); (case hr => first | (go_simp; done) | (go_simp; rfl)); intro gb125 hg w14 hbox hb; have n0_ := Aside0.mk (below_step (by repeat (first | (with_reducible first | exact HB.out | apply below_alloc | apply pw_below_drewN | apply below_drew1) | exact HB.out)) hb); have n1_ := Aside0.mk (hbox); have n2_ := Aside0.mk ((by rw [hg]; exact (below_size (by repeat (first | (with_reducible first | exact HB.out | apply below_alloc | apply pw_below_drewN | apply below_drew1) | exact HB.out))) : w.heap.size ≤ gb125)); have n3_ := Aside0.mk ((by rw [hg]; exact (below_size (by repeat (first | (with_reducible first | exact HB.out | apply below_alloc | apply pw_below_drewN | apply below_drew1) | exact HB.out))) : w.heap.size ≤ gb125)); clear HB; have HB := n0_; have BK125 := n1_; have GW125 := n2_; have GE125 := n3_; clear n0_ n1_ n2_ n3_; clear hb hbox hg; have p3 : 0 ≤ (0 : Int) := (by omega); have q3 : 0 < a0.size := (by have : (0 : Int) < (a0.size : Int) := of_decide_eq_true (by first | (with_reducible assumption) | assumption); omega); have hx3 : ∀ h : 0 < a0.size, ((a0[0]'h).toNat : Int) = bt a0 0 := bt_at a0 0; clear p3; have qi3 : (0 < (a0.size : Int)) = True := eq_true (of_decide_eq_true (by first | (with_reducible assumption) | assumption)); replace q3 := eq_true q3) | ((with_reducible refine gate_callee (f := 160) rfl ?_); refine goesL_ (some 8) rfl rfl Tryz.func160 (by kernel_rfl) rfl #[.int .u8 (bt a0 0)] rfl (by (try simp only [List.map_toArray, List.map_cons, List.map_nil]); first | done | rfl | (simp only [List.length_drop, List.length_take]; rfl)) ?_; (with_reducible refine (lex_isLetter.calls (bt a0 0) false _ A4.out).mono ?_); rintro e w' ⟨rfl, ⟨nd, rfl⟩⟩; refine ⟨_, rfl, ?_⟩; (try (rw [drewN_self w14]; generalize hq_ : World.drewN w14 _ = w14; have n0_ : Aside0 (w14.heap[gb125]? = some (.cells #[.int .i64 0, .string (⟨#[]⟩ : ByteArray), .int .i64 0, .int .i64 0] 155 (0, 0))) := ⟨by rw [← hq_]; exact (by (with_reducible repeat (first | refine blk_drewN ?_ _ | refine blk_drew ?_ | refine blk_alloc ?_ _)); exact BK125.out)⟩; have n1_ : Aside0 (Below w.heap.size w w14) := ⟨by rw [← hq_]; exact (by repeat (first | (with_reducible first | exact HB.out | apply below_alloc | apply pw_below_drewN | apply below_drew1 | refine below_set ?_ GE125.out) | exact HB.out))⟩; clear BK125 HB hq_; have BK125 := n0_; have HB := n1_; clear n0_ n1_)); have p10 : 0 ≤ (0 : Int) := (by omega); have q10 : 0 < a0.size := (by have : (0 : Int) < (a0.size : Int) := of_decide_eq_true (by first | (with_reducible assumption) | assumption); omega); have hx10 : ∀ h : 0 < a0.size, ((a0[0]'h).toNat : Int) = bt a0 0 := bt_at a0 0; clear p10; have qi10 : (0 < (a0.size : Int)) = True := eq_true (of_decide_eq_true (by first | (with_reducible assumption) | assumption)); replace q10 := eq_true q10) | ((with_reducible refine gate_callee (f := 162) rfl ?_); refine goesL_ (some 17) rfl rfl Tryz.func162 (by kernel_rfl) rfl #[.int .u8 (bt a0 0)] rfl (by (try simp only [List.map_toArray, List.map_cons, List.map_nil]); first | done | rfl | (simp only [List.length_drop, List.length_take]; rfl)) ?_; (with_reducible refine (lex_isDigit.calls (bt a0 0) true _ A11.out).mono ?_); rintro e w' ⟨rfl, ⟨nd, rfl⟩⟩; refine ⟨_, rfl, ?_⟩; (try (rw [drewN_self w14]; generalize hq_ : World.drewN w14 _ = w14; have n0_ : Aside0 (w14.heap[gb125]? = some (.cells #[.int .i64 0, .string (⟨#[]⟩ : ByteArray), .int .i64 0, .int .i64 0] 155 (0, 0))) := ⟨by rw [← hq_]; exact (by (with_reducible repeat (first | refine blk_drewN ?_ _ | refine blk_drew ?_ | refine blk_alloc ?_ _)); exact BK125.out)⟩; have n1_ : Aside0 (Below w.heap.size w w14) := ⟨by rw [← hq_]; exact (by repeat (first | (with_reducible first | exact HB.out | apply below_alloc | apply pw_below_drewN | apply below_drew1 | refine below_set ?_ GE125.out) | exact HB.out))⟩; clear BK125 HB hq_; have BK125 := n0_; have HB := n1_; clear n0_ n1_))) | ((with_reducible refine gate_callee (f := 163) rfl ?_); refine goesL_ (some 19) rfl rfl Tryz.func163 (by kernel_rfl) rfl #[.string a0] rfl (by (try simp only [List.map_toArray, List.map_cons, List.map_nil]); first | done | rfl | (simp only [List.length_drop, List.length_take]; rfl)) ?_; (with_reducible refine (lex_number.calls a0 t134 t135 t136 t137 t138 t139 _ A13.out).mono ?_); rintro e w15 ⟨rfl, hb⟩; refine ⟨_, rfl, ?_⟩; have n0_ := Aside0.mk (blk_below (g := gb125) (o := .cells #[.int .i64 0, .string (⟨#[]⟩ : ByteArray), .int .i64 0, .int .i64 0] 155 (0, 0)) (by (with_reducible repeat (first | refine blk_drewN ?_ _ | refine blk_drew ?_ | refine blk_alloc ?_ _)); exact BK125.out) hb); have n1_ := Aside0.mk (below_step (by repeat (first | (with_reducible first | exact HB.out | apply below_alloc | apply pw_below_drewN | apply below_drew1 | refine below_set ?_ GE125.out) | exact HB.out)) hb); clear BK125; clear HB; have BK125 := n0_; have HB := n1_; clear n0_ n1_; (try clear hb); (try clear hb2); (try clear hk); (try clear hi); have hcz16_0 : w15.cell? ⟨gb125, 0, none⟩ = some (.int .i64 0) := (blk_cell BK125.out 0).trans rfl; have hcz16_1 : w15.cell? ⟨gb125, 1, none⟩ = some (.string (⟨#[]⟩ : ByteArray)) := (blk_cell BK125.out 1).trans rfl; have hcz16_2 : w15.cell? ⟨gb125, 2, none⟩ = some (.int .i64 0) := (blk_cell BK125.out 2).trans rfl; have hcz16_3 : w15.cell? ⟨gb125, 3, none⟩ = some (.int .i64 0) := (blk_cell BK125.out 3).trans rfl; have hfz16_0 := blk_frozen BK125.out 0; have hfz16_1 := blk_frozen BK125.out 1; have hfz16_2 := blk_frozen BK125.out 2; have hfz16_3 := blk_frozen BK125.out 3))
    refine bodyPost_ret (results_ctt rfl _ _ gb125 155 #[.int .i64 t134, .string t135, .int .i64 t136, .int .i64 t137] (0, 0) _ rfl (by (with_reducible repeat (first | refine blk_drewN ?_ _ | refine blk_drew ?_ | refine blk_alloc ?_ _)); refine blk_put (cs := #[.int .i64 t134, .string t135, .int .i64 t136, .int .i64 0]) ?_ 3 _ rfl; (with_reducible repeat (first | refine blk_drewN ?_ _ | refine blk_drew ?_ | refine blk_alloc ?_ _)); refine blk_put (cs := #[.int .i64 t134, .string t135, .int .i64 0, .int .i64 0]) ?_ 2 _ rfl; (with_reducible repeat (first | refine blk_drewN ?_ _ | refine blk_drew ?_ | refine blk_alloc ?_ _)); refine blk_put (cs := #[.int .i64 t134, .string (⟨#[]⟩ : ByteArray), .int .i64 0, .int .i64 0]) ?_ 1 _ rfl; (with_reducible repeat (first | refine blk_drewN ?_ _ | refine blk_drew ?_ | refine blk_alloc ?_ _)); refine blk_put (cs := #[.int .i64 0, .string (⟨#[]⟩ : ByteArray), .int .i64 0, .int .i64 0]) ?_ 0 _ rfl; (with_reducible repeat (first | refine blk_drewN ?_ _ | refine blk_drew ?_ | refine blk_alloc ?_ _)); exact BK125.out) Tryz.underlying155 rfl (by kernel_rfl)) rfl ?_
    exact ⟨by first | rfl | (simp [errW_none, errW_some] <;> rfl) | (simp [*, errW_none, errW_some] <;> rfl), by repeat (first | (with_reducible first | exact HB.out | apply below_alloc | apply pw_below_drewN | apply below_drew1 | refine below_set ?_ GE125.out) | exact HB.out)⟩
   ·replace c12 := Bool.eq_false_iff.mpr c12
    subst c12
    have H1 : ((strings_HasPrefix.f a0 (⟨#[59]⟩ : ByteArray)).bind fun t140 => (if t140 = true then (some (3, (⟨#[59]⟩ : ByteArray), 0, 0, 1, true)) else (some (0, (⟨#[]⟩ : ByteArray), 0, 0, 0, false)))) = some (r1, r2, r3, r4, r5, r6) := by rw [if_neg (show ¬ (false = true) by decide)] at H; exact H
    clear H
    have H := H1
    clear H1
    replace H := Option.bind_eq_some_iff.mp H
    obtain ⟨t140, A170, H⟩ := H
    replace H : (if t140 = true then (some (3, (⟨#[59]⟩ : ByteArray), 0, 0, 1, true)) else (some (0, (⟨#[]⟩ : ByteArray), 0, 0, 0, false))) = some (r1, r2, r3, r4, r5, r6) := H
    have A17 := Aside0.mk A170
    clear A170
    by_cases c18 : t140 = true
    ·subst c18
     have H1 : (some (3, (⟨#[59]⟩ : ByteArray), 0, 0, 1, true)) = some (r1, r2, r3, r4, r5, r6) := by rw [if_pos rfl] at H; exact H
     clear H
     have H := H1
     clear H1
     simp only [Option.some.injEq, Prod.mk.injEq] at H
     obtain ⟨rfl, rfl, rfl, rfl, rfl, rfl⟩ := H
     go_enter Tryz.func136, Tryz.ntmps136
     go_wp2_with (first | ((with_reducible refine gate_dst (N := 2) rfl ?_); refine box_event ?hg (N := 2) ?hd (cs := #[.int .i64 0, .string (⟨#[]⟩ : ByteArray), .int .i64 0, .int .i64 0]) (t := 155) ?hr ?_; (case hd => rfl); (case hg => rfl); (case hr => first | (go_simp; done) | (go_simp; rfl)); intro gb125 hg w19 hbox hb; have n0_ := Aside0.mk (below_step (by repeat (first | (with_reducible first | exact HB.out | apply below_alloc | apply pw_below_drewN | apply below_drew1) | exact HB.out)) hb); have n1_ := Aside0.mk (hbox); have n2_ := Aside0.mk ((by rw [hg]; exact (below_size (by repeat (first | (with_reducible first | exact HB.out | apply below_alloc | apply pw_below_drewN | apply below_drew1) | exact HB.out))) : w.heap.size ≤ gb125)); have n3_ := Aside0.mk ((by rw [hg]; exact (below_size (by repeat (first | (with_reducible first | exact HB.out | apply below_alloc | apply pw_below_drewN | apply below_drew1) | exact HB.out))) : w.heap.size ≤ gb125)); clear HB; have HB := n0_; have BK125 := n1_; have GW125 := n2_; have GE125 := n3_; clear n0_ n1_ n2_ n3_; clear hb hbox hg; have p3 : 0 ≤ (0 : Int) := (by omega); have q3 : 0 < a0.size := (by have : (0 : Int) < (a0.size : Int) := of_decide_eq_true (by first | (with_reducible assumption) | assumption); omega); have hx3 : ∀ h : 0 < a0.size, ((a0[0]'h).toNat : Int) = bt a0 0 := bt_at a0 0; clear p3; have qi3 : (0 < (a0.size : Int)) = True := eq_true (of_decide_eq_true (by first | (with_reducible assumption) | assumption)); replace q3 := eq_true q3) | ((with_reducible refine gate_callee (f := 160) rfl ?_); refine goesL_ (some 8) rfl rfl Tryz.func160 (by kernel_rfl) rfl #[.int .u8 (bt a0 0)] rfl (by (try simp only [List.map_toArray, List.map_cons, List.map_nil]); first | done | rfl | (simp only [List.length_drop, List.length_take]; rfl)) ?_; (with_reducible refine (lex_isLetter.calls (bt a0 0) false _ A4.out).mono ?_); rintro e w' ⟨rfl, ⟨nd, rfl⟩⟩; refine ⟨_, rfl, ?_⟩; (try (rw [drewN_self w19]; generalize hq_ : World.drewN w19 _ = w19; have n0_ : Aside0 (w19.heap[gb125]? = some (.cells #[.int .i64 0, .string (⟨#[]⟩ : ByteArray), .int .i64 0, .int .i64 0] 155 (0, 0))) := ⟨by rw [← hq_]; exact (by (with_reducible repeat (first | refine blk_drewN ?_ _ | refine blk_drew ?_ | refine blk_alloc ?_ _)); exact BK125.out)⟩; have n1_ : Aside0 (Below w.heap.size w w19) := ⟨by rw [← hq_]; exact (by repeat (first | (with_reducible first | exact HB.out | apply below_alloc | apply pw_below_drewN | apply below_drew1 | refine below_set ?_ GE125.out) | exact HB.out))⟩; clear BK125 HB hq_; have BK125 := n0_; have HB := n1_; clear n0_ n1_)); have p10 : 0 ≤ (0 : Int) := (by omega); have q10 : 0 < a0.size := (by have : (0 : Int) < (a0.size : Int) := of_decide_eq_true (by first | (with_reducible assumption) | assumption); omega); have hx10 : ∀ h : 0 < a0.size, ((a0[0]'h).toNat : Int) = bt a0 0 := bt_at a0 0; clear p10; have qi10 : (0 < (a0.size : Int)) = True := eq_true (of_decide_eq_true (by first | (with_reducible assumption) | assumption)); replace q10 := eq_true q10) | ((with_reducible refine gate_callee (f := 162) rfl ?_); refine goesL_ (some 17) rfl rfl Tryz.func162 (by kernel_rfl) rfl #[.int .u8 (bt a0 0)] rfl (by (try simp only [List.map_toArray, List.map_cons, List.map_nil]); first | done | rfl | (simp only [List.length_drop, List.length_take]; rfl)) ?_; (with_reducible refine (lex_isDigit.calls (bt a0 0) false _ A11.out).mono ?_); rintro e w' ⟨rfl, ⟨nd, rfl⟩⟩; refine ⟨_, rfl, ?_⟩; (try (rw [drewN_self w19]; generalize hq_ : World.drewN w19 _ = w19; have n0_ : Aside0 (w19.heap[gb125]? = some (.cells #[.int .i64 0, .string (⟨#[]⟩ : ByteArray), .int .i64 0, .int .i64 0] 155 (0, 0))) := ⟨by rw [← hq_]; exact (by (with_reducible repeat (first | refine blk_drewN ?_ _ | refine blk_drew ?_ | refine blk_alloc ?_ _)); exact BK125.out)⟩; have n1_ : Aside0 (Below w.heap.size w w19) := ⟨by rw [← hq_]; exact (by repeat (first | (with_reducible first | exact HB.out | apply below_alloc | apply pw_below_drewN | apply below_drew1 | refine below_set ?_ GE125.out) | exact HB.out))⟩; clear BK125 HB hq_; have BK125 := n0_; have HB := n1_; clear n0_ n1_))) | ((with_reducible refine gate_callee (f := 164) rfl ?_); refine goesL_ (some 25) rfl rfl Tryz.func164 (by kernel_rfl) rfl #[.string a0, .string (⟨#[59]⟩ : ByteArray)] rfl (by (try simp only [List.map_toArray, List.map_cons, List.map_nil]); first | done | rfl | (simp only [List.length_drop, List.length_take]; rfl)) ?_; (with_reducible refine (strings_HasPrefix.calls a0 (⟨#[59]⟩ : ByteArray) true _ A17.out).mono ?_); rintro e w' ⟨rfl, ⟨nd, rfl⟩⟩; refine ⟨_, rfl, ?_⟩; (try (rw [drewN_self w19]; generalize hq_ : World.drewN w19 _ = w19; have n0_ : Aside0 (w19.heap[gb125]? = some (.cells #[.int .i64 0, .string (⟨#[]⟩ : ByteArray), .int .i64 0, .int .i64 0] 155 (0, 0))) := ⟨by rw [← hq_]; exact (by (with_reducible repeat (first | refine blk_drewN ?_ _ | refine blk_drew ?_ | refine blk_alloc ?_ _)); exact BK125.out)⟩; have n1_ : Aside0 (Below w.heap.size w w19) := ⟨by rw [← hq_]; exact (by repeat (first | (with_reducible first | exact HB.out | apply below_alloc | apply pw_below_drewN | apply below_drew1 | refine below_set ?_ GE125.out) | exact HB.out))⟩; clear BK125 HB hq_; have BK125 := n0_; have HB := n1_; clear n0_ n1_)); have hcz20_0 : w19.cell? ⟨gb125, 0, none⟩ = some (.int .i64 0) := (blk_cell BK125.out 0).trans rfl; have hcz20_1 : w19.cell? ⟨gb125, 1, none⟩ = some (.string (⟨#[]⟩ : ByteArray)) := (blk_cell BK125.out 1).trans rfl; have hcz20_2 : w19.cell? ⟨gb125, 2, none⟩ = some (.int .i64 0) := (blk_cell BK125.out 2).trans rfl; have hcz20_3 : w19.cell? ⟨gb125, 3, none⟩ = some (.int .i64 0) := (blk_cell BK125.out 3).trans rfl; have hfz20_0 := blk_frozen BK125.out 0; have hfz20_1 := blk_frozen BK125.out 1; have hfz20_2 := blk_frozen BK125.out 2; have hfz20_3 := blk_frozen BK125.out 3))
     refine bodyPost_ret (results_ctt rfl _ _ gb125 155 #[.int .i64 3, .string (⟨#[59]⟩ : ByteArray), .int .i64 0, .int .i64 0] (0, 0) _ rfl (by (with_reducible repeat (first | refine blk_drewN ?_ _ | refine blk_drew ?_ | refine blk_alloc ?_ _)); refine blk_put (cs := #[.int .i64 3, .string (⟨#[59]⟩ : ByteArray), .int .i64 0, .int .i64 0]) ?_ 3 _ rfl; (with_reducible repeat (first | refine blk_drewN ?_ _ | refine blk_drew ?_ | refine blk_alloc ?_ _)); refine blk_put (cs := #[.int .i64 3, .string (⟨#[59]⟩ : ByteArray), .int .i64 0, .int .i64 0]) ?_ 2 _ rfl; (with_reducible repeat (first | refine blk_drewN ?_ _ | refine blk_drew ?_ | refine blk_alloc ?_ _)); refine blk_put (cs := #[.int .i64 3, .string (⟨#[]⟩ : ByteArray), .int .i64 0, .int .i64 0]) ?_ 1 _ rfl; (with_reducible repeat (first | refine blk_drewN ?_ _ | refine blk_drew ?_ | refine blk_alloc ?_ _)); refine blk_put (cs := #[.int .i64 0, .string (⟨#[]⟩ : ByteArray), .int .i64 0, .int .i64 0]) ?_ 0 _ rfl; (with_reducible repeat (first | refine blk_drewN ?_ _ | refine blk_drew ?_ | refine blk_alloc ?_ _)); exact BK125.out) Tryz.underlying155 rfl (by kernel_rfl)) rfl ?_
     exact ⟨by first | rfl | (simp [errW_none, errW_some] <;> rfl) | (simp [*, errW_none, errW_some] <;> rfl), by repeat (first | (with_reducible first | exact HB.out | apply below_alloc | apply pw_below_drewN | apply below_drew1 | refine below_set ?_ GE125.out) | exact HB.out)⟩
    ·replace c18 := Bool.eq_false_iff.mpr c18
     subst c18
     have H1 : (some (0, (⟨#[]⟩ : ByteArray), 0, 0, 0, false)) = some (r1, r2, r3, r4, r5, r6) := by rw [if_neg (show ¬ (false = true) by decide)] at H; exact H
     clear H
     have H := H1
     clear H1
     simp only [Option.some.injEq, Prod.mk.injEq] at H
     obtain ⟨rfl, rfl, rfl, rfl, rfl, rfl⟩ := H
     go_enter Tryz.func136, Tryz.ntmps136
     go_wp2_with (first | ((with_reducible refine gate_dst (N := 2) rfl ?_); refine box_event ?hg (N := 2) ?hd (cs := #[.int .i64 0, .string (⟨#[]⟩ : ByteArray), .int .i64 0, .int .i64 0]) (t := 155) ?hr ?_; (case hd => rfl); (case hg => rfl); (case hr => first | (go_simp; done) | (go_simp; rfl)); intro gb125 hg w21 hbox hb; have n0_ := Aside0.mk (below_step (by repeat (first | (with_reducible first | exact HB.out | apply below_alloc | apply pw_below_drewN | apply below_drew1) | exact HB.out)) hb); have n1_ := Aside0.mk (hbox); have n2_ := Aside0.mk ((by rw [hg]; exact (below_size (by repeat (first | (with_reducible first | exact HB.out | apply below_alloc | apply pw_below_drewN | apply below_drew1) | exact HB.out))) : w.heap.size ≤ gb125)); have n3_ := Aside0.mk ((by rw [hg]; exact (below_size (by repeat (first | (with_reducible first | exact HB.out | apply below_alloc | apply pw_below_drewN | apply below_drew1) | exact HB.out))) : w.heap.size ≤ gb125)); clear HB; have HB := n0_; have BK125 := n1_; have GW125 := n2_; have GE125 := n3_; clear n0_ n1_ n2_ n3_; clear hb hbox hg; have p3 : 0 ≤ (0 : Int) := (by omega); have q3 : 0 < a0.size := (by have : (0 : Int) < (a0.size : Int) := of_decide_eq_true (by first | (with_reducible assumption) | assumption); omega); have hx3 : ∀ h : 0 < a0.size, ((a0[0]'h).toNat : Int) = bt a0 0 := bt_at a0 0; clear p3; have qi3 : (0 < (a0.size : Int)) = True := eq_true (of_decide_eq_true (by first | (with_reducible assumption) | assumption)); replace q3 := eq_true q3) | ((with_reducible refine gate_callee (f := 160) rfl ?_); refine goesL_ (some 8) rfl rfl Tryz.func160 (by kernel_rfl) rfl #[.int .u8 (bt a0 0)] rfl (by (try simp only [List.map_toArray, List.map_cons, List.map_nil]); first | done | rfl | (simp only [List.length_drop, List.length_take]; rfl)) ?_; (with_reducible refine (lex_isLetter.calls (bt a0 0) false _ A4.out).mono ?_); rintro e w' ⟨rfl, ⟨nd, rfl⟩⟩; refine ⟨_, rfl, ?_⟩; (try (rw [drewN_self w21]; generalize hq_ : World.drewN w21 _ = w21; have n0_ : Aside0 (w21.heap[gb125]? = some (.cells #[.int .i64 0, .string (⟨#[]⟩ : ByteArray), .int .i64 0, .int .i64 0] 155 (0, 0))) := ⟨by rw [← hq_]; exact (by (with_reducible repeat (first | refine blk_drewN ?_ _ | refine blk_drew ?_ | refine blk_alloc ?_ _)); exact BK125.out)⟩; have n1_ : Aside0 (Below w.heap.size w w21) := ⟨by rw [← hq_]; exact (by repeat (first | (with_reducible first | exact HB.out | apply below_alloc | apply pw_below_drewN | apply below_drew1 | refine below_set ?_ GE125.out) | exact HB.out))⟩; clear BK125 HB hq_; have BK125 := n0_; have HB := n1_; clear n0_ n1_)); have p10 : 0 ≤ (0 : Int) := (by omega); have q10 : 0 < a0.size := (by have : (0 : Int) < (a0.size : Int) := of_decide_eq_true (by first | (with_reducible assumption) | assumption); omega); have hx10 : ∀ h : 0 < a0.size, ((a0[0]'h).toNat : Int) = bt a0 0 := bt_at a0 0; clear p10; have qi10 : (0 < (a0.size : Int)) = True := eq_true (of_decide_eq_true (by first | (with_reducible assumption) | assumption)); replace q10 := eq_true q10) | ((with_reducible refine gate_callee (f := 162) rfl ?_); refine goesL_ (some 17) rfl rfl Tryz.func162 (by kernel_rfl) rfl #[.int .u8 (bt a0 0)] rfl (by (try simp only [List.map_toArray, List.map_cons, List.map_nil]); first | done | rfl | (simp only [List.length_drop, List.length_take]; rfl)) ?_; (with_reducible refine (lex_isDigit.calls (bt a0 0) false _ A11.out).mono ?_); rintro e w' ⟨rfl, ⟨nd, rfl⟩⟩; refine ⟨_, rfl, ?_⟩; (try (rw [drewN_self w21]; generalize hq_ : World.drewN w21 _ = w21; have n0_ : Aside0 (w21.heap[gb125]? = some (.cells #[.int .i64 0, .string (⟨#[]⟩ : ByteArray), .int .i64 0, .int .i64 0] 155 (0, 0))) := ⟨by rw [← hq_]; exact (by (with_reducible repeat (first | refine blk_drewN ?_ _ | refine blk_drew ?_ | refine blk_alloc ?_ _)); exact BK125.out)⟩; have n1_ : Aside0 (Below w.heap.size w w21) := ⟨by rw [← hq_]; exact (by repeat (first | (with_reducible first | exact HB.out | apply below_alloc | apply pw_below_drewN | apply below_drew1 | refine below_set ?_ GE125.out) | exact HB.out))⟩; clear BK125 HB hq_; have BK125 := n0_; have HB := n1_; clear n0_ n1_))) | ((with_reducible refine gate_callee (f := 164) rfl ?_); refine goesL_ (some 25) rfl rfl Tryz.func164 (by kernel_rfl) rfl #[.string a0, .string (⟨#[59]⟩ : ByteArray)] rfl (by (try simp only [List.map_toArray, List.map_cons, List.map_nil]); first | done | rfl | (simp only [List.length_drop, List.length_take]; rfl)) ?_; (with_reducible refine (strings_HasPrefix.calls a0 (⟨#[59]⟩ : ByteArray) false _ A17.out).mono ?_); rintro e w' ⟨rfl, ⟨nd, rfl⟩⟩; refine ⟨_, rfl, ?_⟩; (try (rw [drewN_self w21]; generalize hq_ : World.drewN w21 _ = w21; have n0_ : Aside0 (w21.heap[gb125]? = some (.cells #[.int .i64 0, .string (⟨#[]⟩ : ByteArray), .int .i64 0, .int .i64 0] 155 (0, 0))) := ⟨by rw [← hq_]; exact (by (with_reducible repeat (first | refine blk_drewN ?_ _ | refine blk_drew ?_ | refine blk_alloc ?_ _)); exact BK125.out)⟩; have n1_ : Aside0 (Below w.heap.size w w21) := ⟨by rw [← hq_]; exact (by repeat (first | (with_reducible first | exact HB.out | apply below_alloc | apply pw_below_drewN | apply below_drew1 | refine below_set ?_ GE125.out) | exact HB.out))⟩; clear BK125 HB hq_; have BK125 := n0_; have HB := n1_; clear n0_ n1_)); have hcz22_0 : w21.cell? ⟨gb125, 0, none⟩ = some (.int .i64 0) := (blk_cell BK125.out 0).trans rfl; have hcz22_1 : w21.cell? ⟨gb125, 1, none⟩ = some (.string (⟨#[]⟩ : ByteArray)) := (blk_cell BK125.out 1).trans rfl; have hcz22_2 : w21.cell? ⟨gb125, 2, none⟩ = some (.int .i64 0) := (blk_cell BK125.out 2).trans rfl; have hcz22_3 : w21.cell? ⟨gb125, 3, none⟩ = some (.int .i64 0) := (blk_cell BK125.out 3).trans rfl; have hfz22_0 := blk_frozen BK125.out 0; have hfz22_1 := blk_frozen BK125.out 1; have hfz22_2 := blk_frozen BK125.out 2; have hfz22_3 := blk_frozen BK125.out 3))
     refine bodyPost_ret (results_ctt rfl _ _ gb125 155 #[.int .i64 0, .string (⟨#[]⟩ : ByteArray), .int .i64 0, .int .i64 0] (0, 0) _ rfl (by (with_reducible repeat (first | refine blk_drewN ?_ _ | refine blk_drew ?_ | refine blk_alloc ?_ _)); refine blk_put (cs := #[.int .i64 0, .string (⟨#[]⟩ : ByteArray), .int .i64 0, .int .i64 0]) ?_ 3 _ rfl; (with_reducible repeat (first | refine blk_drewN ?_ _ | refine blk_drew ?_ | refine blk_alloc ?_ _)); refine blk_put (cs := #[.int .i64 0, .string (⟨#[]⟩ : ByteArray), .int .i64 0, .int .i64 0]) ?_ 2 _ rfl; (with_reducible repeat (first | refine blk_drewN ?_ _ | refine blk_drew ?_ | refine blk_alloc ?_ _)); refine blk_put (cs := #[.int .i64 0, .string (⟨#[]⟩ : ByteArray), .int .i64 0, .int .i64 0]) ?_ 1 _ rfl; (with_reducible repeat (first | refine blk_drewN ?_ _ | refine blk_drew ?_ | refine blk_alloc ?_ _)); refine blk_put (cs := #[.int .i64 0, .string (⟨#[]⟩ : ByteArray), .int .i64 0, .int .i64 0]) ?_ 0 _ rfl; (with_reducible repeat (first | refine blk_drewN ?_ _ | refine blk_drew ?_ | refine blk_alloc ?_ _)); exact BK125.out) Tryz.underlying155 rfl (by kernel_rfl)) rfl ?_
     exact ⟨by first | rfl | (simp [errW_none, errW_some] <;> rfl) | (simp [*, errW_none, errW_some] <;> rfl), by repeat (first | (with_reducible first | exact HB.out | apply below_alloc | apply pw_below_drewN | apply below_drew1 | refine below_set ?_ GE125.out) | exact HB.out)⟩
 ·rw [if_neg c2] at H
  exact absurd H (by simp)
end Go.Proofs.YtaofmmnfenlofaaGreatDoor.QTc
namespace Go.Proofs.YtaofmmnfenlofaaGreatDoor.QTc
open Go.RowKit Go.Proofs.YtaofmmnfenlofaaGreatDoorW.PrintWords Go.Proofs.YtaofmmnfenlofaaGreatDoorW.PrintLast Go.Proofs.YtaofmmnfenlofaaGreatDoorW.PrintMore
set_option linter.unusedVariables false
set_option linter.unusedSimpArgs false
def tokGo (k : Nat) (s : ByteArray) : Nat → Nat → List S155 → Option (List S155 × Int × Int)
  | 0, _, _ => none
  | f + 1, i, acc =>
    if i = s.size then some (acc ++ [⟨4, ⟨#[]⟩, 0, (i : Int)⟩], (i : Int), 0)
    else if 0 < gapN (s.extract i s.size).data.toList then tokGo k s f (i + gapN (s.extract i s.size).data.toList) acc
    else (lex_token.f k (s.extract i s.size)).bind fun t =>
      if t.2.2.2.2.2 = true then (if 0 < t.2.2.2.2.1 ∧ (i : Int) + t.2.2.2.2.1 ≤ (s.size : Int) then tokGo k s f (i + t.2.2.2.2.1.toNat) (acc ++ [⟨t.1, t.2.1, t.2.2.1, (i : Int)⟩]) else none)
      else some ([], (i : Int), 2)
def lex_Tokens.f (k : Nat) (a0 : ByteArray) : Option (List S155 × Int × Int) := if a0.size > 4000 then some ([], 0, 3) else tokGo k a0 (a0.size + 1) 0 []
theorem gapN_le : ∀ l : List UInt8, gapN l ≤ l.length
  | [] => Nat.le_refl _
  | c :: r => by
    have := plen_le notFeed (c :: r)
    rw [gapN]
    by_cases h1 : c.toNat = 32 ∨ c.toNat = 10
    · rw [if_pos h1, List.length_cons]; omega
    · rw [if_neg h1]
      by_cases h2 : c.toNat = 35
      · rw [if_pos h2]; exact this
      · rw [if_neg h2]; omega
theorem wp_scope_again {P : Program} {a : Act} {w : World} {Q : Exit → Act → World → Prop} {c rest : Code} (l : Nat) (J : Act → World → Prop) (μ : Act → World → Nat) (hf : findLabel c l = some (Code.skip.seq rest))
    (pass : ∀ a w, J a w → rest.wp P (Exit.jump l (fun a' w' => J a' w' ∧ μ a' w' < μ a w) Q) a w) (first : Aside0 (∀ a w, J a w → rest.wp P (Exit.jump l J Q) a w) → c.wp P (Exit.jump l J Q) a w) : (Code.scope c).wp P Q a w :=
  wp_scope_jumps l J μ hf (first ⟨fun a w hJ => wp_mono (pass a w hJ) (fun e a w q => by
    cases e with
    | goto l' => exact ⟨q.1, q.2.1⟩
    | _ => exact q)⟩) (fun a w hJ => wp_seq (wp_skip (pass a w hJ)))
theorem ext_size (s : ByteArray) (i : Nat) : (s.extract i s.size).size = s.size - i := by simp
theorem info155 : (Tryz.prog.info? 155).map (fun i => (i.zero, i.size, i.bytes)) = some (some (.agg #[.int .i64 0, .string ⟨#[]⟩, .int .i64 0, .int .i64 0]), 4, 40) := by kernel_rfl
structure TokInv (k : Nat) (s : ByteArray) (r : List S155 × Int × Int) (w : World) (i : Nat) (v : Value) (acc : List S155) (f : Nat) (c0 : Int) (c1 : ByteArray) (c2 c3 : Int) (w' : World) : Prop where
  hi : i ≤ s.size
  hl : acc.length ≤ i
  hf : tokGo k s f i acc = some r
  hR : Kd.R k155 155 w' w.heap.size (fun b => b ≠ w.heap.size) v acc
  hT : w'.heap[w.heap.size]? = some (.cells #[.int .i64 c0, .string c1, .int .i64 c2, .int .i64 c3] 155 (0, 0))
  hB : Below w.heap.size w w'
def TokPost (w : World) (r : List S155 × Int × Int) (e : Ending) (w' : World) : Prop := ∃ v0_ : Value, e = .returned (.tuple #[v0_, .int .i64 r.2.1, .int .i64 r.2.2]) ∧ Kd.R k155 155 w' w.heap.size (fun _ => True) v0_ r.1 ∧ Below w.heap.size w w'
set_option maxHeartbeats 16000000 in
set_option maxRecDepth 100000 in
theorem tokens_calls (k : Nat) (s : ByteArray) (r : List S155 × Int × Int) (w : World) (hT : TabW w) (hs : s.size ≤ 4000) (h : tokGo k s (s.size + 1) 0 [] = some r) :
    Calls Tryz.prog 103 #[.string s] w (TokPost w r) := by
  have HT := Aside0.mk hT
  have H0 := Aside0.mk h
  have HS := Aside0.mk hs
  have e0 : decide ((s.size : Int) > 4000) = false := decide_eq_false (by omega)
  clear hT h
  go_enter Tryz.func103, Tryz.ntmps103
  go_wp2
  refine wp_scope_again 0 (fun a' w' => ∃ (i : Nat) (v : Value) (acc : List S155) (f : Nat) (c0 : Int) (c1 : ByteArray) (c2 c3 : Int) (u6 u7 u8 u9 u10 u11 u12 u13 u14 u15 u16 u17 u18 u19 u20 u21 u22 u23 u24 u25 u26 u27 u28 u29 u30 u31 u32 u33 u34 u35 u36 u37 u38 u39 u40 u41 u42 u43 u44 u45 u46 u47 u48 u49 : Value), a' = { tmps := #[.string s, undef, v, .int .i64 (i : Int), .int .i64 0, .pointer (some ⟨w.heap.size, 0, none⟩), u6, u7, u8, u9, u10, u11, u12, u13, u14, u15, u16, u17, u18, u19, u20, u21, u22, u23, u24, u25, u26, u27, u28, u29, u30, u31, u32, u33, u34, u35, u36, u37, u38, u39, u40, u41, u42, u43, u44, u45, u46, u47, u48, u49], defers := [] } ∧ TokInv k s r w i v acc f c0 c1 c2 c3 w') (fun a' _ => s.size - (intOf (a'.tmps.getD 3 undef)).toNat) rfl ?pass ?first
  case pass =>
    clear H0 e0
    rintro a' w' ⟨i, v, acc, f, c0, c1, c2, c3, u6, u7, u8, u9, u10, u11, u12, u13, u14, u15, u16, u17, u18, u19, u20, u21, u22, u23, u24, u25, u26, u27, u28, u29, u30, u31, u32, u33, u34, u35, u36, u37, u38, u39, u40, u41, u42, u43, u44, u45, u46, u47, u48, u49, rfl, INV⟩
    obtain ⟨hi, hl, hf, hR, hTb, hB⟩ := INV
    have HL := Aside0.mk (show acc.length ≤ 4000 by omega)
    have HB := Aside0.mk hB
    have HO := Aside0.mk hR
    have HF := Aside0.mk hf
    have HTB := Aside0.mk hTb
    clear hB hR hf hTb
    cases f with
    | zero => exact absurd HF.out (by simp [tokGo])
    | succ f =>
    have hi0 : 0 ≤ (i : Int) := by omega
    have hi1 : (i : Int) ≤ (s.size : Int) := by omega
    by_cases hend : i = s.size
    · have e1 : ((i : Int) == (s.size : Int)) = true := by simp [hend]
      have hr := HF.out
      rw [tokGo, if_pos hend] at hr
      obtain rfl := Option.some.inj hr
      clear hr HF hend
      go_wp2_with (((with_reducible refine gate_builtin (b := .append) (xs := #[.tmp 15, .tmp 18]) rfl ?_); at_builtin; refine Kd.R_append k155 (w0 := w) w.heap.size rfl (.tmp 15) (.tmp 18) 161 155 (.agg #[.int .i64 0, .string ⟨#[]⟩, .int .i64 0, .int .i64 0]) 40 rfl Tryz.underlying161 info155 rfl (by decide) (by omega) v acc ⟨4, ⟨#[]⟩, 0, (i : Int)⟩ [.int .i64 4, .string ⟨#[]⟩, .int .i64 0, .int .i64 (i : Int)] (fun b => b ≠ w.heap.size) (fun _ => False) rfl rfl ?aP (fun _ hk => hk.elim) ?aF ?aO ?aB ?aS ?aL ?_; (case aP => exact k155_mkM _ _ _ _); (case aF => intro b hb; have := blk_lt HTB.out; (try simp at hb); omega); (case aO => exact (by repeat (first | (with_reducible first | apply Kd.R_alloc | apply Kd.R_drewN | apply Kd.R_drew | refine Kd.R_far (p := ⟨w.heap.size, _, none⟩) ?_ (fun _ hk => hk) _) | exact HO.out))); (case aB => exact (by repeat (first | (with_reducible first | exact HB.out | apply below_alloc | apply pw_below_drewN | apply below_drew1) | exact HB.out))); (case aS => have := HB.out.size; (try simp); omega); (case aL => have := HL.out; omega); intro v1 w9 hR9 hB9 hg9 hat9; have n1_ := Aside0.mk hR9; have n2_ := Aside0.mk hB9; have n3_ := Aside0.mk hg9; clear hR9 hB9 hg9 hat9))
      (try simp only [Exit.jump])
      go_ret3
      exact ⟨v1, rfl, Kd.R_mono n1_.out (fun _ _ => trivial), n2_.out⟩
    · have e1 : ((i : Int) == (s.size : Int)) = false := by simp; omega
      have hsz : (s.extract i s.size).size = s.size - i := ext_size s i
      have HG := Aside0.mk (fun w => lex_gap.calls (s.extract i s.size) (by omega) (by omega) w)
      have hgl : gapN (s.extract i s.size).data.toList ≤ s.size - i := by
        have := gapN_le (s.extract i s.size).data.toList
        have h5 : (s.extract i s.size).data.toList.length = (s.extract i s.size).size := by simp
        omega
      have hr := HF.out
      rw [tokGo, if_neg hend] at hr
      clear HF
      generalize gapN (s.extract i s.size).data.toList = g at HG hgl hr
      by_cases hg : 0 < g
      · have e2 : decide ((g : Int) > 0) = true := decide_eq_true (by omega)
        rw [if_pos hg] at hr
        have HF := Aside0.mk hr
        clear hr hsz
        have g2 : (i : Int) + (g : Int) ≤ 4000 := by omega
        go_wp2_with (go_at_call 135; (with_reducible refine (HG.out _).mono ?_); rintro e w5 ⟨rfl, ⟨nd, rfl⟩⟩)
        (try go_step3)
        exact ⟨rfl, ⟨i + g, v, acc, f, c0, c1, c2, c3, _, _, _, _, _, _, _, _, _, _, _, _, _, _, _, _, _, _, _, _, _, _, _, _, _, _, _, _, _, _, _, _, _, _, _, _, _, _, _, _, _, _, _, _, rfl, ⟨by omega, by omega, HF.out, Kd.R_drewN HO.out _, HTB.out, pw_below_drewN HB.out _⟩⟩, by simp [intOf]; omega⟩
      · have e2 : decide ((g : Int) > 0) = false := decide_eq_false (by omega)
        rw [if_neg hg] at hr
        obtain ⟨⟨t1, t2, t3, t4, n, ok⟩, htok, hr⟩ := Option.bind_eq_some_iff.mp hr
        have HK := Aside0.mk htok
        clear htok
        cases ok with
        | false =>
          have hr2 : some (([] : List S155), (i : Int), (2 : Int)) = some r := hr
          obtain rfl := Option.some.inj hr2
          clear hr hr2 hsz
          go_wp2_with (first | (go_at_call 135; (with_reducible refine (HG.out _).mono ?_); rintro e w5 ⟨rfl, ⟨nd, rfl⟩⟩) | (go_at_call 136; (with_reducible refine (lex_token.calls k _ t1 t2 t3 t4 n _ _ (hT := ?sideT) HK.out).mono ?_); (case sideT => exact TabW.below HT.out (pw_below_drewN HB.out _)); rintro e w5 ⟨rfl, hb⟩; have n4_ := Aside0.mk ((hb.block _ (blk_lt HTB.out)).trans HTB.out); have n5_ := Aside0.mk (Kd.R_below (Kd.R_drewN HO.out _) hb); have n6_ := Aside0.mk (below_step (pw_below_drewN HB.out _) hb); clear hb; clear HO HB HTB; have HTB := n4_; have HO := n5_; have HB := n6_; clear n4_ n5_ n6_; have C0 := blk_cell HTB.out 0; have C1 := blk_cell HTB.out 1; have C2 := blk_cell HTB.out 2; have C3 := blk_cell HTB.out 3; have F0 := blk_frozen HTB.out 0; have F1 := blk_frozen HTB.out 1; have F2 := blk_frozen HTB.out 2; have F3 := blk_frozen HTB.out 3) | ((with_reducible refine gate_store (t := 155) (p := 5) rfl ?_); refine store_event (t := 155) (p := 5) (v := ?vo_w6) (w1 := ((((w5.setCell ⟨w.heap.size, 0, none⟩ (.int .i64 t1)).setCell ⟨w.heap.size, 1, none⟩ (.string t2)).setCell ⟨w.heap.size, 2, none⟩ (.int .i64 t3)).setCell ⟨w.heap.size, 3, none⟩ (.int .i64 t4))) ?hg ?ho ?hN ?hr ?_; (case ho => rfl); (case hg => rfl); (case hN => rfl); (case hr => first | (go_simp; done) | (go_simp; rfl)); intro w6 hws; have n4_ : Aside0 (w6.heap[w.heap.size]? = some (.cells #[.int .i64 t1, .string t2, .int .i64 t3, .int .i64 t4] 155 (0, 0))) := ⟨by rw [hws]; have := (blk_set (blk_set (blk_set (blk_set HTB.out 0 (.int .i64 t1)) 1 (.string t2)) 2 (.int .i64 t3)) 3 (.int .i64 t4)); simpa using this⟩; have n5_ : Aside0 (Kd.R k155 155 w6 w.heap.size (fun b => b ≠ w.heap.size) v acc) := ⟨by rw [hws]; exact (Kd.R_far (p := ⟨w.heap.size, 3, none⟩) (Kd.R_far (p := ⟨w.heap.size, 2, none⟩) (Kd.R_far (p := ⟨w.heap.size, 1, none⟩) (Kd.R_far (p := ⟨w.heap.size, 0, none⟩) HO.out (fun _ hk => hk) _) (fun _ hk => hk) _) (fun _ hk => hk) _) (fun _ hk => hk) _)⟩; have n6_ : Aside0 (Below w.heap.size w w6) := ⟨by rw [hws]; exact (Below.setCell (p := ⟨w.heap.size, 3, none⟩) (Below.setCell (p := ⟨w.heap.size, 2, none⟩) (Below.setCell (p := ⟨w.heap.size, 1, none⟩) (Below.setCell (p := ⟨w.heap.size, 0, none⟩) HB.out (Nat.le_refl w.heap.size) _) (Nat.le_refl w.heap.size) _) (Nat.le_refl w.heap.size) _) (Nat.le_refl w.heap.size) _)⟩; clear hws C0 C1 C2 C3 F0 F1 F2 F3; clear HO HB HTB; have HTB := n4_; have HO := n5_; have HB := n6_; clear n4_ n5_ n6_; have C0 := blk_cell HTB.out 0; have C1 := blk_cell HTB.out 1; have C2 := blk_cell HTB.out 2; have C3 := blk_cell HTB.out 3; have F0 := blk_frozen HTB.out 0; have F1 := blk_frozen HTB.out 1; have F2 := blk_frozen HTB.out 2; have F3 := blk_frozen HTB.out 3))
          (try simp only [Exit.jump])
          go_ret3
          exact ⟨_, rfl, Kd.R_nil _ _ _ _ _, by repeat (first | (with_reducible first | exact HB.out | apply below_alloc | apply pw_below_drewN | apply below_drew1) | exact HB.out)⟩
        | true =>
          have hr2 : (if 0 < n ∧ (i : Int) + n ≤ (s.size : Int) then tokGo k s f (i + n.toNat) (acc ++ [⟨t1, t2, t3, (i : Int)⟩]) else none) = some r := hr
          by_cases hn : 0 < n ∧ (i : Int) + n ≤ (s.size : Int)
          · rw [if_pos hn] at hr2
            obtain ⟨hn0, hn1⟩ := hn
            have HF := Aside0.mk hr2
            have hi3 : i < s.size := by omega
            have hn3 : (i : Int) + n ≤ 4000 := by omega
            clear hr hr2 hsz hgl
            go_wp2_with (first | (go_at_call 135; (with_reducible refine (HG.out _).mono ?_); rintro e w5 ⟨rfl, ⟨nd, rfl⟩⟩) | (go_at_call 136; (with_reducible refine (lex_token.calls k _ t1 t2 t3 t4 n _ _ (hT := ?sideT) HK.out).mono ?_); (case sideT => exact TabW.below HT.out (pw_below_drewN HB.out _)); rintro e w5 ⟨rfl, hb⟩; have n4_ := Aside0.mk ((hb.block _ (blk_lt HTB.out)).trans HTB.out); have n5_ := Aside0.mk (Kd.R_below (Kd.R_drewN HO.out _) hb); have n6_ := Aside0.mk (below_step (pw_below_drewN HB.out _) hb); clear hb; clear HO HB HTB; have HTB := n4_; have HO := n5_; have HB := n6_; clear n4_ n5_ n6_; have C0 := blk_cell HTB.out 0; have C1 := blk_cell HTB.out 1; have C2 := blk_cell HTB.out 2; have C3 := blk_cell HTB.out 3; have F0 := blk_frozen HTB.out 0; have F1 := blk_frozen HTB.out 1; have F2 := blk_frozen HTB.out 2; have F3 := blk_frozen HTB.out 3) | ((with_reducible refine gate_store (t := 155) (p := 5) rfl ?_); refine store_event (t := 155) (p := 5) (v := ?vo_w6) (w1 := ((((w5.setCell ⟨w.heap.size, 0, none⟩ (.int .i64 t1)).setCell ⟨w.heap.size, 1, none⟩ (.string t2)).setCell ⟨w.heap.size, 2, none⟩ (.int .i64 t3)).setCell ⟨w.heap.size, 3, none⟩ (.int .i64 t4))) ?hg ?ho ?hN ?hr ?_; (case ho => rfl); (case hg => rfl); (case hN => rfl); (case hr => first | (go_simp; done) | (go_simp; rfl)); intro w6 hws; have n4_ : Aside0 (w6.heap[w.heap.size]? = some (.cells #[.int .i64 t1, .string t2, .int .i64 t3, .int .i64 t4] 155 (0, 0))) := ⟨by rw [hws]; have := (blk_set (blk_set (blk_set (blk_set HTB.out 0 (.int .i64 t1)) 1 (.string t2)) 2 (.int .i64 t3)) 3 (.int .i64 t4)); simpa using this⟩; have n5_ : Aside0 (Kd.R k155 155 w6 w.heap.size (fun b => b ≠ w.heap.size) v acc) := ⟨by rw [hws]; exact (Kd.R_far (p := ⟨w.heap.size, 3, none⟩) (Kd.R_far (p := ⟨w.heap.size, 2, none⟩) (Kd.R_far (p := ⟨w.heap.size, 1, none⟩) (Kd.R_far (p := ⟨w.heap.size, 0, none⟩) HO.out (fun _ hk => hk) _) (fun _ hk => hk) _) (fun _ hk => hk) _) (fun _ hk => hk) _)⟩; have n6_ : Aside0 (Below w.heap.size w w6) := ⟨by rw [hws]; exact (Below.setCell (p := ⟨w.heap.size, 3, none⟩) (Below.setCell (p := ⟨w.heap.size, 2, none⟩) (Below.setCell (p := ⟨w.heap.size, 1, none⟩) (Below.setCell (p := ⟨w.heap.size, 0, none⟩) HB.out (Nat.le_refl w.heap.size) _) (Nat.le_refl w.heap.size) _) (Nat.le_refl w.heap.size) _) (Nat.le_refl w.heap.size) _)⟩; clear hws C0 C1 C2 C3 F0 F1 F2 F3; clear HO HB HTB; have HTB := n4_; have HO := n5_; have HB := n6_; clear n4_ n5_ n6_; have C0 := blk_cell HTB.out 0; have C1 := blk_cell HTB.out 1; have C2 := blk_cell HTB.out 2; have C3 := blk_cell HTB.out 3; have F0 := blk_frozen HTB.out 0; have F1 := blk_frozen HTB.out 1; have F2 := blk_frozen HTB.out 2; have F3 := blk_frozen HTB.out 3) | ((with_reducible refine gate_store (t := 3) (p := 42) rfl ?_); refine store_event (t := 3) (p := 42) (v := ?vo_w7) (w1 := (w6.setCell ⟨w.heap.size, 3, none⟩ (.int .i64 (i : Int)))) ?hg ?ho ?hN ?hr ?_; (case ho => rfl); (case hg => rfl); (case hN => rfl); (case hr => first | (go_simp; done) | (go_simp; rfl)); intro w7 hws; have n4_ : Aside0 (w7.heap[w.heap.size]? = some (.cells #[.int .i64 t1, .string t2, .int .i64 t3, .int .i64 (i : Int)] 155 (0, 0))) := ⟨by rw [hws]; have := (blk_set HTB.out 3 (.int .i64 (i : Int))); simpa using this⟩; have n5_ : Aside0 (Kd.R k155 155 w7 w.heap.size (fun b => b ≠ w.heap.size) v acc) := ⟨by rw [hws]; exact (Kd.R_far (p := ⟨w.heap.size, 3, none⟩) HO.out (fun _ hk => hk) _)⟩; have n6_ : Aside0 (Below w.heap.size w w7) := ⟨by rw [hws]; exact (Below.setCell (p := ⟨w.heap.size, 3, none⟩) HB.out (Nat.le_refl w.heap.size) _)⟩; clear hws C0 C1 C2 C3 F0 F1 F2 F3; clear HO HB HTB; have HTB := n4_; have HO := n5_; have HB := n6_; clear n4_ n5_ n6_; have C0 := blk_cell HTB.out 0; have C1 := blk_cell HTB.out 1; have C2 := blk_cell HTB.out 2; have C3 := blk_cell HTB.out 3; have F0 := blk_frozen HTB.out 0; have F1 := blk_frozen HTB.out 1; have F2 := blk_frozen HTB.out 2; have F3 := blk_frozen HTB.out 3) | ((with_reducible refine gate_builtin (b := .append) (xs := #[.tmp 43, .tmp 45]) rfl ?_); at_builtin; refine Kd.R_append k155 (w0 := w) w.heap.size rfl (.tmp 43) (.tmp 45) 161 155 (.agg #[.int .i64 0, .string ⟨#[]⟩, .int .i64 0, .int .i64 0]) 40 rfl Tryz.underlying161 info155 rfl (by decide) (by omega) v acc ⟨t1, t2, t3, (i : Int)⟩ [.int .i64 t1, .string t2, .int .i64 t3, .int .i64 (i : Int)] (fun b => b ≠ w.heap.size) (fun _ => False) rfl rfl ?aP (fun _ hk => hk.elim) ?aF ?aO ?aB ?aS ?aL ?_; (case aP => exact k155_mkM _ _ _ _); (case aF => intro b hb; have := blk_lt HTB.out; (try simp at hb); omega); (case aO => exact (by repeat (first | (with_reducible first | apply Kd.R_alloc | apply Kd.R_drewN | apply Kd.R_drew | refine Kd.R_far (p := ⟨w.heap.size, _, none⟩) ?_ (fun _ hk => hk) _) | exact HO.out))); (case aB => exact (by repeat (first | (with_reducible first | exact HB.out | apply below_alloc | apply pw_below_drewN | apply below_drew1) | exact HB.out))); (case aS => have := HB.out.size; (try simp); omega); (case aL => have := HL.out; omega); intro v1 w9 hR9 hB9 hg9 hat9; have n1_ := Aside0.mk hR9; have n2_ := Aside0.mk hB9; have n3_ := Aside0.mk hg9; clear hR9 hB9 hg9 hat9))
            (try go_step3)
            obtain ⟨m, rfl⟩ := Int.eq_ofNat_of_zero_le (Int.le_of_lt hn0)
            have HFX := HF.out
            rw [Int.toNat_natCast] at HFX
            exact ⟨rfl, ⟨i + m, v1, acc ++ [⟨t1, t2, t3, (i : Int)⟩], f, t1, t2, t3, (i : Int), _, _, _, _, _, _, _, _, _, _, _, _, _, _, _, _, _, _, _, _, _, _, _, _, _, _, _, _, _, _, _, _, _, _, _, _, _, _, _, _, _, _, _, _, rfl, ⟨by omega, by rw [List.length_append, List.length_singleton]; omega, HFX, n1_.out, blk_grown HTB.out n3_.out (by intro he; exact (HO.out.1 _ he.symm) rfl), n2_.out⟩⟩, by simp [intOf]; omega⟩
          · rw [if_neg hn] at hr2; cases hr2
  case first =>
    intro PASS
    go_wp2
    go_step3
    refine (by assumption : ∀ (a : Act) (w : World), Code.wp _ _ _ a w → _) _ _ ?_
    refine PASS.out _ _ ?_
    exact ⟨0, _, [], s.size + 1, 0, ⟨#[]⟩, 0, 0, _, _, _, _, _, _, _, _, _, _, _, _, _, _, _, _, _, _, _, _, _, _, _, _, _, _, _, _, _, _, _, _, _, _, _, _, _, _, _, _, _, _, _, _, rfl, ⟨by omega, Nat.le_refl _, H0.out, Kd.R_nil _ _ _ _ _, heap_alloc_new w _, Below.alloc (Below.refl _ _) (Nat.le_refl _) _⟩⟩
theorem lex_Tokens.calls (k : Nat) (a0 : ByteArray) (r1 : List S155) (r2 r3 : Int) (w : World) (hT : TabW w) (h : lex_Tokens.f k a0 = some (r1, r2, r3)) :
    Calls Tryz.prog 103 #[.string a0] w fun e w' => ∃ v0_ : Value, e = .returned (.tuple #[v0_, .int .i64 r2, .int .i64 r3]) ∧ Kd.R k155 155 w' w.heap.size (fun _ => True) v0_ r1 ∧ Below w.heap.size w w' := by
  unfold lex_Tokens.f at h
  by_cases hs : a0.size > 4000
  · rw [if_pos hs] at h
    simp only [Option.some.injEq, Prod.mk.injEq] at h
    obtain ⟨rfl, rfl, rfl⟩ := h
    have e0 : decide ((a0.size : Int) > 4000) = true := decide_eq_true (by omega)
    clear hT
    show Calls Tryz.prog 103 #[.string a0] w (TokPost w ([], 0, 3))
    go_enter Tryz.func103, Tryz.ntmps103
    go_wp2
    go_step3
    go_wp2
    (try rw [Exit.noGoto_ret])
    go_ret3
    exact ⟨_, rfl, Kd.R_nil _ _ _ _ _, by repeat (first | exact Below.refl _ _ | refine Below.alloc ?_ (by simp) _)⟩
  · rw [if_neg hs] at h
    exact tokens_calls k a0 (r1, r2, r3) w hT (by omega) h
end Go.Proofs.YtaofmmnfenlofaaGreatDoor.QTc
namespace Go.Proofs.YtaofmmnfenlofaaGreatDoor.QTc
open Go.RowKit Go.Proofs.YtaofmmnfenlofaaGreatDoorW.PrintWords Go.Proofs.YtaofmmnfenlofaaGreatDoorW.PrintLast Go.Proofs.YtaofmmnfenlofaaGreatDoorW.PrintMore
attribute [local go_sem] max2_int min2_int max_two min_two max_three min_three max_four min_four
set_option linter.unusedVariables false
set_option linter.unusedSimpArgs false
def task_isRegions.f (l0 : List Int) : Option (Bool) := if (l0.length : Int) ≥ 1 then (if (l0.length : Int) ≤ 8 then ((task_oddRegions.f l0).bind fun t148 => (some (!t148))) else (some false)) else (some false)
set_option maxHeartbeats 8000000 in
set_option maxRecDepth 100000 in
theorem task_isRegions.calls (A0 : Option Addr) (c0 : Nat) (l0 : List Int) (r : Bool) (w : World) (hr0 : Kd.C (Kd.int .i64) w A0 l0.length l0) (hc0 : l0.length ≤ c0) (h : task_isRegions.f l0 = some r) :
  Calls Tryz.prog 63 #[.slice A0 l0.length c0] w fun e w' => e = .returned (.bool r) ∧ Drawn0 w w' := by
 have HR0 := Aside0.mk hr0
 have HC0 := Aside0.mk hc0
 clear hr0 hc0
 have H : (if (l0.length : Int) ≥ 1 then (if (l0.length : Int) ≤ 8 then ((task_oddRegions.f l0).bind fun t148 => (some (!t148))) else (some false)) else (some false)) = some r := h
 clear h
 by_cases c2 : (l0.length : Int) ≥ 1
 ·rw [if_pos c2] at H
  have c2b0 : decide (1 ≤ (l0.length : Int)) = true := decide_eq_true c2
  have c2b1 : decide (1 ≤ l0.length) = true := decide_eq_true (by omega)
  clear c2
  by_cases c3 : (l0.length : Int) ≤ 8
  ·rw [if_pos c3] at H
   have c3b0 : decide ((l0.length : Int) ≤ 8) = true := decide_eq_true c3
   have c3b1 : decide (l0.length ≤ 8) = true := decide_eq_true (by omega)
   clear c3
   replace H := Option.bind_eq_some_iff.mp H
   obtain ⟨t148, A40, H⟩ := H
   replace H : (some (!t148)) = some r := H
   have A4 := Aside0.mk A40
   clear A40
   obtain rfl := Option.some.inj H
   go_enter Tryz.func63, Tryz.ntmps63
   go_wp2_with (first | (go_at_call 77; (with_reducible refine (task_oddRegions.calls _ _ l0 t148 _ ?side1 ?side2 A4.out).mono ?_); (case side1 => repeat (first | exact HR0.out | (with_reducible refine Kd.C_alloc ?_ _) | (with_reducible refine Kd.C_drewN ?_ _) | (with_reducible refine Kd.C_drew ?_))); (case side2 => exact HC0.out); rintro e w' ⟨rfl, ⟨nd, rfl⟩⟩))
   go_ret
   exact ⟨by first | rfl | (simp; done) | (simp [*]; done), by repeat (first | exact Drawn0.refl _ | apply Drawn0.step)⟩
  ·rw [if_neg c3] at H
   have c3b0 : decide ((l0.length : Int) ≤ 8) = false := decide_eq_false c3
   have c3b1 : decide (l0.length ≤ 8) = false := decide_eq_false (by omega)
   clear c3
   obtain rfl := Option.some.inj H
   go_enter Tryz.func63, Tryz.ntmps63
   go_wp2
   go_ret
   exact ⟨by first | rfl | (simp; done) | (simp [*]; done), by repeat (first | exact Drawn0.refl _ | apply Drawn0.step)⟩
 ·rw [if_neg c2] at H
  have c2b0 : decide (1 ≤ (l0.length : Int)) = false := decide_eq_false c2
  have c2b1 : decide (1 ≤ l0.length) = false := decide_eq_false (by omega)
  clear c2
  obtain rfl := Option.some.inj H
  go_enter Tryz.func63, Tryz.ntmps63
  go_wp2
  go_ret
  exact ⟨by first | rfl | (simp; done) | (simp [*]; done), by repeat (first | exact Drawn0.refl _ | apply Drawn0.step)⟩
end Go.Proofs.YtaofmmnfenlofaaGreatDoor.QTc

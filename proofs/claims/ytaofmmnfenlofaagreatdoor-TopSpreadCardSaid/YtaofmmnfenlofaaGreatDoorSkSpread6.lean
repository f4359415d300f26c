/- What is proved: contracts and plain facts on the way to the row RowTopSpread, and, in the last text, the row itself; conditions as each theorem names them. -/
import Derived.ChangeArms
import Derived.Deep.Slices
import Derived.DataReads
import Derived.WideShapes
import Derived.KernelRfl
import Derived.Test.YtaofmmnfenlofaaGreatDoorRows
import Derived.LaidMore
import Derived.MakeChecks
import Derived.Lib.LaidTab
import Derived.ProofKit
import Derived.Shelf.Vars
import Derived.Handed
import Derived.Lay
import Derived.WalkKit
import Derived.OpenShut
import Derived.ShutString
import Derived.ChangeOld
import Derived.Below
import Derived.SizedLaws
import Derived.Test.YtaofmmnfenlofaaGreatDoorTie
import Derived.Test.YtaofmmnfenlofaaGreatDoorCards
import Derived.SevenTiedAt
import Derived.Stop.Joined
import Derived.Test.YtaofmmnfenlofaaGreatDoorSkSpread1
import Derived.Test.YtaofmmnfenlofaaGreatDoorSkSpread2
import Derived.Test.YtaofmmnfenlofaaGreatDoorSkSpread3
import Derived.Test.YtaofmmnfenlofaaGreatDoorSkSpread4
import Derived.Test.YtaofmmnfenlofaaGreatDoorSkSpread5
namespace Go.Proofs.YtaofmmnfenlofaaGreatDoor.QTc
open Go.RowKit Go.Proofs.YtaofmmnfenlofaaGreatDoorW.PrintWords Go.Proofs.YtaofmmnfenlofaaGreatDoorW.PrintLast Go.Proofs.YtaofmmnfenlofaaGreatDoorW.PrintMore Go.Proofs.YtaofmmnfenlofaaGreatDoor.FixMath
set_option linter.unusedVariables false
set_option linter.unusedSimpArgs false
attribute [local go_sem] below_alloc below_drew1 pw_below_drewN max2_int min2_int max_two min_two
section
variable (w : World) (rl : Int) (A : Option Addr) (c : Nat) (T : List S46) (i : Nat)
set_option maxHeartbeats 4000000 in
set_option maxRecDepth 100000 in
theorem rLoads_calls (hC : Kd.C k46 w A T.length T) (hi : i < T.length) (hok : JgOk rl T) : Calls Tryz.prog 70 #[.agg #[.int .i64 rl, .slice A T.length c], .int .i64 (i : Int)] w fun e w' => ∃ v, e = .returned v ∧ Kd.R k165 165 w' w.heap.size (fun _ => True) v (ldL (parOf rl T) i) ∧ BW w w' := by
  have hu24 := Tryz.underlying24
  have hu46 := Tryz.underlying46
  obtain ⟨W0, e0, hb0, b, eb, cb⟩ := box24 w rl A T.length c
  have hB : BW W0 W0 := BW.rfl' W0
  replace hC := Kd.C_below hC hb0
  obtain ⟨ad, _, _, rfl, _⟩ := at46 hC i hi
  have i0 : 0 ≤ (i : Int) := by omega
  have i1 : (i : Int) < (T.length : Int) := by omega
  have i2 : decide ((i : Int) < (T.length : Int)) = true := decide_eq_true i1
  have i3 : i < T.length := hi
  have HWK := Aside0.mk (fun W (h : BW W0 W) k hk => rWork8_calls W rl (some ad) c T k (Kd.C_below hC h) hk hok)
  have HMD := Aside0.mk (fun W (h : BW W0 W) k hk => rMade_calls W rl (some ad) c T k (Kd.C_below hC h) hok.n8 hk hok.ag)
  have HK := Aside0.mk hC
  have HJ := Aside0.mk hok
  have HB0 := Aside0.mk hb0
  clear hC hok
  go_enter Tryz.func70, Tryz.ntmps70
  go_upto_region 3 with fail
  go_loopg [5, 6] (i + 1) (fun kq v5 v6 w' => ∃ (k : Nat) (A5 : Option Addr) (c5 : Nat), v6 = .int .i64 (k : Int) ∧ v5 = .slice A5 k c5 ∧ Aside0 (kq + k = i + 1 ∧ k ≤ i) ∧ Aside0 (LdI W0 (parOf rl T) k A5 c5 w'))
  case atStart => exact ⟨0, none, 0, rfl, rfl, ⟨by omega, by omega⟩, ⟨⟨Kd.R_nil _ _ _ _ _, hB⟩⟩⟩
  case round =>
    obtain ⟨k, A5, c5, rfl, rfl, HQ, HI⟩ := hrel
    have hBk := HI.out.hB
    by_cases hk : k < i
    · have hkn : k < T.length := by omega
      have k0 : 0 ≤ (k : Int) := by omega
      have k1 : (k : Int) < (i : Int) := by omega
      have k2 : (k : Int) ≤ 8 := by have := HJ.out.n8; omega
      have k3 : (k : Int) < (T.length : Int) := by omega
      obtain ⟨_, A6, c6, hh, hl6, hC6, ht⟩ := at46 HK.out k hkn
      obtain rfl := Option.some.inj hh
      have hBB : BW wr wr := BW.rfl' wr
      have hk' : decide ((k : Int) < (i : Int)) = true := decide_eq_true k1
      have hw8 : (((parOf rl T).W k : Nat) : Int) ≤ 80000 := by rw [(HJ.out.W hkn).1]; exact (HJ.out.W hkn).2
      have hm8 := made_le (T := T) HJ.out.ag.rl0 k
      have HW := Aside0.mk (fun W h => HWK.out W h k hkn)
      have HM := Aside0.mk (fun W h => HMD.out W h k hkn)
      have htm : (rd_T46 T (k : Int)).f1 = ((parOf rl T).T k : Int) := by
        have := HJ.out.tm _ (rd46_mem hkn)
        show _ = (((rd_T46 T (k : Int)).f1.toNat : Nat) : Int)
        omega
      have hsu := Aside0.mk (show ldL (parOf rl T) (k + 1) = ldL (parOf rl T) k ++ [⟨(rd_T46 T (k : Int)).f1, ((parOf rl T).W k : Int) + (Time.made (parOf rl T) k : Int)⟩] by rw [htm, ← Int.natCast_add]; exact ldL_succ _ k)
      have hle := Aside0.mk (show (ldL (parOf rl T) k).length = k ∧ k ≤ 1000 from ⟨ldL_len _ _, by omega⟩)
      generalize hWk : (parOf rl T).W k = Wk at *
      generalize hMk : Time.made (parOf rl T) k = Mk at *
      have hs1 : IntKind.i64.wrap ((Wk : Int) + (Mk : Int)) = (Wk : Int) + (Mk : Int) := IntWalk.i64_in _ (by omega)
      clear hWk hMk hl6 hC6 hkn hk htm hw8 hm8
      go_upto_region 5 with fail
      go_region_held3 (fun W => BW W0 W) (go_simp)
        ((first | (go_at_call 72; (with_reducible refine (HW.out _ (hBk.tr (by go_simp))).mono ?_); rintro e x2 ⟨rfl, hb2⟩; have hB2 := BW.tr (w := wr) (by go_simp) hb2; have hB2' := hBk.tr hB2; clear hb2) | (go_at_call 110; (with_reducible refine (HM.out _ (hBk.tr (by go_simp))).mono ?_); rintro e x3 ⟨rfl, hb3⟩; have hB3 := BW.tr (w := wr) (by go_simp) hb3; have hB3' := hBk.tr hB3; clear hb3) | (refine Kd.R_append_step k165 (w0 := W0) W0.heap.size (by rfl) _ _ 111 165 (.agg #[.int .i64 0, .int .i64 0]) 16 (by rfl) Tryz.underlying111 info165 rfl (by decide) (by omega) (.slice A5 k c5) (ldL (parOf rl T) k) ⟨(rd_T46 T (k : Int)).f1, (Wk : Int) + (Mk : Int)⟩ [.int .i64 (rd_T46 T (k : Int)).f1, .int .i64 ((Wk : Int) + (Mk : Int))] (fun _ => True) (fun _ => False) (by first | rfl | (rw [hle.out.1]; rfl)) (by rfl) (k165_mkM _ _ _ _) (fun _ hk => hk.elim) (fun _ _ => trivial) (Kd.R_below HI.out.row (by go_simp)) (hBk.tr (by go_simp)) (show W0.heap.size ≤ _ from Below.size (B := W0.heap.size) (hBk.tr (by go_simp))) (by have := hle.out; omega) ?_; intro v7 w7 hR7 hB7 hg7 hat7; rw [← hsu.out] at hR7; obtain ⟨A7, c7, e7⟩ := Kd.R_slice hR7; rw [ldL_len] at e7; subst e7; have HI7 := Aside0.mk (LdI.mk hR7 hB7); have hB7' : BW W0 w7 := hB7; clear hR7 hg7 hat7) | fail))
      all_goals
        go_wp2
        go_roundg (gk - 1)
        case measure => have := HQ.out; omega
        case rel => exact ⟨k + 1, A7, c7, rfl, rfl, ⟨by have := HQ.out; omega, by omega⟩, HI7⟩
    · have hk' : decide ((k : Int) < (i : Int)) = false := decide_eq_false (by omega)
      obtain rfl : k = i := by have := HQ.out; omega
      go_wp2
      go_ret
      exact ⟨_, rfl, Kd.R_lower HI.out.row HB0.out.size, HB0.out.tr hBk⟩
set_option maxHeartbeats 4000000 in
set_option maxRecDepth 100000 in
theorem rOf11_calls (b : Int) (hC : Kd.C k46 w A T.length T) (hi : i < T.length) (hb : 0 ≤ b ∧ b ≤ 1000000) (hok : JgOk rl T) (hmd : MdOk T) : Calls Tryz.prog 69 #[.agg #[.int .i64 rl, .slice A T.length c], .int .i64 (i : Int), .int .i64 b] w (Gives w (.tuple #[.int .i64 (leastR b (allJ (parOf rl T) i)).1, .bool (leastR b (allJ (parOf rl T) i)).2])) := by
  have hu24 := Tryz.underlying24
  have hu46 := Tryz.underlying46
  obtain ⟨W0, e0, hb0, bx, eb, cb⟩ := box24 w rl A T.length c
  have hB : BW W0 W0 := BW.rfl' W0
  replace hC := Kd.C_below hC hb0
  obtain ⟨ad, A6, c6, rfl, hl6, hC6, ht⟩ := at46 hC i hi
  have i0 : 0 ≤ (i : Int) := by omega
  have i1 : (i : Int) < (T.length : Int) := by omega
  have i2 : decide ((i : Int) < 0) = false := decide_eq_false (by omega)
  have i3 : decide (T.length ≤ i) = false := decide_eq_false (by omega)
  have HLO := Aside0.mk (fun W (h : BW W0 W) => rLoads_calls W rl (some ad) c T i (Kd.C_below hC h) hi hok)
  have HW := Aside0.mk (fun W (h : BW W0 W) => rWork8_calls W rl (some ad) c T i (Kd.C_below hC h) hi hok)
  have hg := good_all (hok.pok hmd) (i := i) hi
  rw [allJ_eq hok hi] at hg ⊢
  have h64 := Aside0.mk (show (ldL (parOf rl T) i).length ≤ 1000 by rw [ldL_len]; have := hok.n8; omega)
  generalize ldL (parOf rl T) i = L at *
  generalize (parOf rl T).W i = Wi at *
  have HLE := Aside0.mk (fun W A1 c1 hC1 => rLeast_calls b A1 c1 (L ++ [⟨(rd_T46 T (i : Int)).f1, (Wi : Int)⟩]) W hC1 hb hg)
  generalize leastR b (prs (L ++ [⟨(rd_T46 T (i : Int)).f1, (Wi : Int)⟩])) = r at *
  simp only [List.length_append, List.length_singleton] at HLE
  have HB0 := Aside0.mk hb0
  clear hC6 hC hok hl6 hg hmd
  go_enter Tryz.func69, Tryz.ntmps69
  go_upto_region 3 with fail
  go_region_held3 (fun W => BW W0 W) (go_simp)
    ((first | (go_at_call 70; (with_reducible refine (HLO.out _ (by go_simp)).mono ?_); rintro e w5 ⟨v5, rfl, hR5, hb5⟩; obtain ⟨A5, c5, rfl⟩ := Kd.R_slice hR5; have hB5 := BW.tr (w := W0) (by go_simp) hb5; have HR := Aside0.mk (Kd.R_lower hR5 (show W0.heap.size ≤ _ from Below.size (B := W0.heap.size) (by go_simp))); clear hR5 hb5) | (go_at_call 72; (with_reducible refine (HW.out _ (by go_simp)).mono ?_); rintro e w6 ⟨rfl, hb6⟩; have hB6 := BW.tr (w := W0) (by go_simp) hb6; (try (have HR6 := Aside0.mk (Kd.R_below HR.out hb6); clear HR; have HR := HR6; clear HR6)); clear hb6) | (go_at_call 71; (with_reducible refine (HLE.out _ A7 c7 HC7.out).mono ?_); rintro e w8 ⟨rfl, hb8⟩; have hB8 := BW.tr (w := W0) (by go_simp) hb8; clear hb8) | (refine Kd.R_append_step k165 (w0 := W0) W0.heap.size (by rfl) _ _ 111 165 (.agg #[.int .i64 0, .int .i64 0]) 16 (by rfl) Tryz.underlying111 info165 rfl (by decide) (by omega) (.slice A5 L.length c5) L ⟨(rd_T46 T (i : Int)).f1, (Wi : Int)⟩ [.int .i64 (rd_T46 T (i : Int)).f1, .int .i64 (Wi : Int)] (fun _ => True) (fun _ => False) (by rfl) (by rfl) (k165_mkM _ _ _ _) (fun _ hk => hk.elim) (fun _ _ => trivial) HR.out (by go_simp) (show W0.heap.size ≤ _ from Below.size (B := W0.heap.size) (by go_simp)) (by have := h64.out; omega) ?_; intro v7 w7 hR7 hB7 hg7 hat7; obtain ⟨A7, c7, rfl⟩ := Kd.R_slice hR7; have HC7 := Aside0.mk (Kd.R_reads' hR7).2.2; simp only [List.length_append, List.length_singleton] at HC7; clear hR7 hg7 hat7) | fail))
  all_goals
    go_wp2
    go_ret2
    exact ⟨by first | rfl | (simp; done), HB0.out.tr (by go_simp)⟩
set_option maxHeartbeats 4000000 in
set_option maxRecDepth 100000 in
theorem rWith_calls (b : Int) (hC : Kd.C k46 w A T.length T) (hi : i < T.length) (hb : 0 ≤ b ∧ b ≤ 1000000) (hok : JgOk rl T) (hmd : MdOk T) : Calls Tryz.prog 37 #[.agg #[.int .i64 rl, .slice A T.length c], .int .i64 (i : Int), .int .i64 b] w (Gives w (.tuple #[.int .i64 (withJ (parOf rl T) (dlOf T) i b).1, .int .i64 (withJ (parOf rl T) (dlOf T) i b).2])) := by
  have hu24 := Tryz.underlying24
  have hu46 := Tryz.underlying46
  obtain ⟨W0, e0, hb0, bx, eb, cb⟩ := box24 w rl A T.length c
  have hB : BW W0 W0 := BW.rfl' W0
  replace hC := Kd.C_below hC hb0
  obtain ⟨ad, A6, c6, rfl, hl6, hC6, ht⟩ := at46 hC i hi
  have i0 : 0 ≤ (i : Int) := by omega
  have i1 : (i : Int) < (T.length : Int) := by omega
  have HOF := Aside0.mk (fun W (h : BW W0 W) => rOf11_calls W rl (some ad) c T i b (Kd.C_below hC h) hi hb hok hmd)
  have HB0 := Aside0.mk hb0
  by_cases hl : (leastR b (allJ (parOf rl T) i)).2 = true
  · have hpk := hok.pok hmd
    have hg := good_all hpk (i := i) hi
    have hL : Least (tot b (allJ (parOf rl T) i)) (longJ (parOf rl T) i b) true := by
      have := leastR_least (a := b) hg
      rw [hl] at this; exact this
    have HLO := Aside0.mk (fun W (h : BW W0 W) => rLoads_calls W rl (some ad) c T i (Kd.C_below hC h) hi hok)
    have HW := Aside0.mk (fun W (h : BW W0 W) => rWork8_calls W rl (some ad) c T i (Kd.C_below hC h) hi hok)
    have htm : (((parOf rl T).T i : Nat) : Int) = (rd_T46 T (i : Int)).f1 := by
      have := hok.tm _ (rd46_mem hi)
      show (((rd_T46 T (i : Int)).f1.toNat : Nat) : Int) = _
      omega
    have ht1 := hok.tm _ (rd46_mem hi)
    have hW1 := hpk.W1 i hi
    have HQ := Aside0.mk (fun (q : Int) (q0 : 0 ≤ q) (hq : q * (((parOf rl T).T i : Nat) : Int) < longJ (parOf rl T) i b) => fQ_tells hb.1 (show 1 ≤ (((parOf rl T).W i : Nat) : Int) by omega) hg hL q0 hq)
    have hln := hL.fix
    unfold withJ
    rw [if_pos hl, rJ, show (leastR b (allJ (parOf rl T) i)).1 = longJ (parOf rl T) i b from rfl] at *
    rw [show dlOf T i = (rd_T46 T (i : Int)).f2 from rfl]
    rw [hl] at HOF
    have hpl := prs_ldL (parOf rl T) i
    have hgl := (good_init hg).1
    rw [← hpl] at HQ hgl ⊢
    generalize ldL (parOf rl T) i = L at *
    generalize longJ (parOf rl T) i b = long at *
    generalize (parOf rl T).W i = Wi at *
    rw [htm] at *
    have HLE := Aside0.mk (fun W A1 c1 hC1 a ha => rLeast_calls a A1 c1 L W hC1 ha hgl)
    clear htm hL hg hpk hl hok hmd hC hC6 hl6 hpl
    obtain ⟨R, hR⟩ : ∃ R, rGo (fQ b (prs L) (Wi : Int)) (rd_T46 T (i : Int)).f1 long 1000001 0 0 = R := ⟨_, rfl⟩
    rw [hR]
    obtain ⟨how, hh⟩ : ∃ how, (if R ≤ (rd_T46 T (i : Int)).f2 then (1 : Int) else 2) = how := ⟨_, rfl⟩
    rw [hh]
    replace hh := Aside0.mk hh
    replace hR := Aside0.mk hR
    obtain ⟨ln1, ln2, _, _⟩ := hln
    obtain ⟨t1, t2⟩ := ht1
    go_enter Tryz.func37, Tryz.ntmps37
    go_upto_region 4 with (go_at_call 69; (with_reducible refine (HOF.out _ hB).mono ?_); rintro e w1 ⟨rfl, hb1⟩; have hB1 : BW W0 w1 := hb1; obtain ⟨W1, e1, hb11, g, eg, h9⟩ := box46 w1 (rd_T46 T (i : Int)) A6 c6; have hB11 := hB1.tr hb11; have hBB1 : BW W1 W1 := BW.rfl' W1)
    go_upto_region 8 with (go_at_call 70; (with_reducible refine (HLO.out _ (by go_simp)).mono ?_); rintro e w3 ⟨v3, rfl, hR3, hb3⟩; obtain ⟨A5, c5, rfl⟩ := Kd.R_slice hR3; have HC3 := Aside0.mk (Kd.R_reads' hR3).2.2; have hB3 := hB11.tr hb3; have hBB3 := hBB1.tr hb3; clear hR3 hb3)
    have hB33 := BW.rfl' w3
    go_loopg [12, 13] 1000001 (fun kq v12 v13 w' => ∃ q r : Int, v12 = .int .i64 r ∧ v13 = .int .i64 q ∧ Aside0 (long - q < kq) ∧ (0 ≤ q ∧ q ≤ 1000000) ∧ (-10000000000 ≤ r ∧ r ≤ 1000000) ∧ Aside0 (rGo (fQ b (prs L) (Wi : Int)) (rd_T46 T (i : Int)).f1 long kq q r = R) ∧ BW W0 w' ∧ BW W1 w' ∧ BW w3 w')
    case atStart => exact ⟨0, 0, rfl, rfl, ⟨by omega⟩, ⟨by omega, by omega⟩, ⟨by omega, by omega⟩, hR, hB3, hBB3, hB33⟩
    case round =>
      clear hR
      obtain ⟨q, r, rfl, rfl, HK, ⟨q0, q1⟩, ⟨r0, r1⟩, HG, hBk, hBc, hBd⟩ := hrel
      have hm := mulB q0 q1 (show 0 ≤ (rd_T46 T (i : Int)).f1 by omega) t2
      obtain ⟨p, hp⟩ : ∃ p, q * (rd_T46 T (i : Int)).f1 = p := ⟨_, rfl⟩
      have hqt := Int.mul_le_mul_of_nonneg_left t1 q0
      rw [Int.mul_one] at hqt
      have hG := HG.out
      rw [hp] at hm hqt
      obtain ⟨p0, p1⟩ := hm
      by_cases hlt : p < long
      · obtain ⟨n, rfl⟩ : ∃ m, gk = m + 1 := ⟨gk - 1, by have := HK.out; omega⟩
        have e1 : decide (p < long) = true := decide_eq_true hlt
        unfold rGo at hG
        rw [hp, if_pos hlt] at hG
        obtain ⟨f1, f2, _, _, f5, f6, f7⟩ := HQ.out q q0 (by rw [hp]; exact hlt)
        have ff := f1.fix.1
        have hD := HLE.out wr A5 c5 (Kd.C_below HC3.out hBd) (baseQ b Wi q) ⟨by omega, by omega⟩
        rw [f7, show (leastR (baseQ b (Wi : Int) q) (prs L)).1 = fQ b (prs L) Wi q from rfl] at hD
        have HD := Aside0.mk (fun W (h : BW wr W) => HLE.out W A5 c5 (Kd.C_below HC3.out (hBd.tr h)) (baseQ b Wi q) ⟨by omega, by omega⟩)
        rw [f7, show (leastR (baseQ b (Wi : Int) q) (prs L)).1 = fQ b (prs L) Wi q from rfl] at HD
        unfold baseQ at f5 f6 HD
        obtain ⟨s, hs⟩ : ∃ s, (q + 1) * (Wi : Int) = s := ⟨_, rfl⟩
        rw [hs] at f5 f6 HD
        generalize fQ b (prs L) (Wi : Int) q = x at *
        have hq9 : q + 1 ≤ 1000000 := by omega
        have HK2 := Aside0.mk (show long - (q + 1) < n by have := HK.out; omega)
        have b0 := hb.1
        have b1 := hb.2
        have s1 : -1000000 ≤ s := by omega
        have s2 : s ≤ 1000000 := by omega
        have x2 : x ≤ 1000000 := by omega
        have hwr : BW wr wr := BW.rfl' wr
        unfold mx2 at hG
        clear f1 hb HQ HG HK hD f7
        by_cases hmx : r < x - p
        all_goals
          first | rw [if_pos hmx] at hG | rw [if_neg hmx] at hG
          replace hG := Aside0.mk hG
          go_wp2_with (first | (go_at_call 72; (with_reducible refine (HW.out _ hBk).mono ?_); rintro e w7 ⟨rfl, hb7⟩; have hB7 := hBk.tr hb7; have hBc7 := hBc.tr hb7; have hBd7 := hBd.tr hb7) | (go_at_call 71; (with_reducible refine (HD.out _ hb7).mono ?_); rintro e w8 ⟨rfl, hb8⟩; have hB8 := hB7.tr hb8; have hBc8 := hBc7.tr hb8; have hBd8 := hBd7.tr hb8))
          go_roundg n
          case measure => exact Nat.lt_succ_self _
          case rel => exact ⟨q + 1, _, rfl, rfl, HK2, ⟨by omega, hq9⟩, ⟨by omega, by omega⟩, hG, hB8, hBc8, hBd8⟩
      · have e1 : decide (p < long) = false := decide_eq_false hlt
        obtain rfl : r = R := by
          cases gk with
          | zero => exact hG
          | succ n => unfold rGo at hG; rw [hp, if_neg hlt] at hG; exact hG
        clear hG
        by_cases h2 : r ≤ (rd_T46 T (i : Int)).f2
        · have e2 : decide (r ≤ (rd_T46 T (i : Int)).f2) = true := decide_eq_true h2
          obtain rfl : (1 : Int) = how := by rw [← hh.out, if_pos h2]
          go_wp2
          go_ret2
          exact ⟨by first | rfl | (simp; done), HB0.out.tr hBk⟩
        · have e2 : decide (r ≤ (rd_T46 T (i : Int)).f2) = false := decide_eq_false h2
          obtain rfl : (2 : Int) = how := by rw [← hh.out, if_neg h2]
          go_wp2
          go_ret2
          exact ⟨by first | rfl | (simp; done), HB0.out.tr hBk⟩
  · have hl' : (leastR b (allJ (parOf rl T) i)).2 = false := by simpa using hl
    unfold withJ
    rw [if_neg hl]
    rw [hl'] at HOF
    clear ht hC hC6
    go_enter Tryz.func37, Tryz.ntmps37
    go_wp2_with (go_at_call 69; (with_reducible refine (HOF.out _ hB).mono ?_); rintro e w1 ⟨rfl, hb1⟩)
    go_ret2
    exact ⟨by first | rfl | (simp; done), HB0.out.tr hb1⟩
theorem rOf12_calls (hC : Kd.C k46 w A T.length T) (hi : i < T.length) (hok : JgOk rl T) (hmd : MdOk T) : Calls Tryz.prog 23 #[.agg #[.int .i64 rl, .slice A T.length c], .int .i64 (i : Int)] w (Gives w (.tuple #[.int .i64 ((jugL rl T).getD i (0, 0)).1, .int .i64 ((jugL rl T).getD i (0, 0)).2])) := by
  have hu24 := Tryz.underlying24
  obtain ⟨W0, e0, hb0, bx, eb, cb⟩ := box24 w rl A T.length c
  have hB : BW W0 W0 := BW.rfl' W0
  replace hC := Kd.C_below hC hb0
  rw [jugL_at rl T hi]
  have HM := Aside0.mk (fun W (h : BW W0 W) => rMost_calls W rl A c T i hi (Kd.C_below hC h) hok hmd)
  have HW := Aside0.mk (fun W (h : BW W0 W) => rWith_calls W rl A c T i (mostJ (parOf rl T) i : Nat) (Kd.C_below hC h) hi (mostJ_in hok hmd i) hok hmd)
  have HB0 := Aside0.mk hb0
  generalize withJ (parOf rl T) (dlOf T) i (mostJ (parOf rl T) i : Nat) = x at *
  generalize mostJ (parOf rl T) i = m at *
  go_enter Tryz.func23, Tryz.ntmps23
  go_upto_region 1 with fail
  go_region_held3 (fun W => BW W0 W) (go_simp) ((first | (go_at_call 38; (with_reducible refine (HM.out _ (by go_simp)).mono ?_); rintro e w2 ⟨rfl, hb2⟩; have hB2 := BW.tr (w := W0) (by go_simp) hb2; clear hb2) | (go_at_call 37; (with_reducible refine (HW.out _ (by go_simp)).mono ?_); rintro e w3 ⟨rfl, hb3⟩; have hB3 := BW.tr (w := W0) (by go_simp) hb3; clear hb3)))
  all_goals
    go_wp2
    go_ret2
    exact ⟨by first | rfl | (simp; done), HB0.out.tr (by go_simp)⟩
end
end Go.Proofs.YtaofmmnfenlofaaGreatDoor.QTc
namespace Go.Proofs.YtaofmmnfenlofaaGreatDoor.QTc
open Go.RowKit Go.Proofs.YtaofmmnfenlofaaGreatDoorW.PrintWords Go.Proofs.YtaofmmnfenlofaaGreatDoorW.PrintLast Go.Proofs.YtaofmmnfenlofaaGreatDoorW.PrintMore
set_option linter.unusedVariables false
set_option linter.unusedSimpArgs false
attribute [local go_sem] below_alloc below_drew1 pw_below_drewN
set_option maxHeartbeats 8000000 in
set_option maxRecDepth 100000 in
theorem rJudge_calls (w : World) (rl : Int) (A : Option Addr) (c n : Nat) (l : List (Int × Int)) (hl : l.length = n) (hn : n ≤ 8)
    (hof : ∀ W (i : Nat), Below w.heap.size w W → i < n → Calls Tryz.prog 23 #[.agg #[.int .i64 rl, .slice A n c], .int .i64 (i : Int)] W (Gives W (.tuple #[.int .i64 (l.getD i (0, 0)).1, .int .i64 (l.getD i (0, 0)).2]))) :
    Calls Tryz.prog 11 #[.agg #[.int .i64 rl, .slice A n c]] w fun e w' => ∃ v, e = .returned (.agg #[.int .i64 (judgeL l 0 []).1, .int .i64 (judgeL l 0 []).2.1, v]) ∧ Kd.R (Kd.int .i64) 2 w' w.heap.size (fun _ => True) v (judgeL l 0 []).2.2 ∧ Below w.heap.size w w' := by
  have hu24 := Tryz.underlying24
  have hu30 := Tryz.underlying30
  obtain ⟨r, hr0⟩ : ∃ r, judgeL l 0 [] = r := ⟨_, rfl⟩
  rw [hr0]
  have HG0 := Aside0.mk hr0
  have HOF := Aside0.mk hof
  have HN := Aside0.mk (And.intro hl hn)
  clear hr0 hof hl hn
  have hb0 : Below w.heap.size w (w.alloc (.cells #[.int .i64 rl, .slice A n c] 24)) := Below.alloc (Below.refl _ _) (Nat.le_refl _) _
  have hX0 := Aside0.mk (heap_alloc_new w (.cells #[.int .i64 rl, .slice A n c] 24))
  replace hb0 := Aside0.mk hb0
  go_enter Tryz.func11, Tryz.ntmps11
  go_upto_region 1 with fail
  have hb1 := Aside0.mk (show Below w.heap.size w ((w.alloc (.cells #[.int .i64 rl, .slice A n c] 24)).alloc (.cells #[.int .i64 0, .int .i64 0, .slice none 0 0] 30)) from Below.alloc hb0.out (by simp) _)
  have hX1 := Aside0.mk (blk_alloc hX0.out (.cells #[.int .i64 0, .int .i64 0, .slice none 0 0] 30))
  have hR1 : ((w.alloc (.cells #[.int .i64 rl, .slice A n c] 24)).alloc (.cells #[.int .i64 0, .int .i64 0, .slice none 0 0] 30)).heap[w.heap.size + 1]? = some (.cells #[.int .i64 0, .int .i64 0, .slice none 0 0] 30 (0, 0)) := by
    have := heap_alloc_new (w.alloc (.cells #[.int .i64 rl, .slice A n c] 24)) (.cells #[.int .i64 0, .int .i64 0, .slice none 0 0] 30)
    simpa using this
  generalize ((w.alloc (.cells #[.int .i64 rl, .slice A n c] 24)).alloc (.cells #[.int .i64 0, .int .i64 0, .slice none 0 0] 30)) = W1 at hb1 hX1 hR1 ⊢
  have hge : w.heap.size ≤ w.heap.size + 1 := Nat.le_succ _
  generalize w.heap.size + 1 = B at hR1 hge ⊢
  replace hR1 := Aside0.mk hR1
  go_upto_region 2 with fail
  have hJ : JI w rl A c n B W1.heap.size [] (.slice none 0 0) (W1.alloc (.cells #[.int .i64 1, .int .i64 0, .slice none 0 0] 30)) := by
    have hal : Below W1.heap.size W1 (W1.alloc (.cells #[.int .i64 1, .int .i64 0, .slice none 0 0] 30)) := Below.alloc (Below.refl _ _) (Nat.le_refl _) _
    have hl1 := blk_lt hR1.out
    have hs2 := hb1.out.size
    exact ⟨(hal.block _ (blk_lt hX1.out)).trans hX1.out, (hal.block _ hl1).trans hR1.out, heap_alloc_new _ _, Kd.R_nil _ _ _ _ _, hb1.out.trans (hal.mono hs2), hge, hs2, by omega⟩
  generalize (W1.alloc (.cells #[.int .i64 1, .int .i64 0, .slice none 0 0] 30)) = W3 at hJ ⊢
  generalize W1.heap.size = V at hJ ⊢
  replace hJ := Aside0.mk hJ
  go_upto_region 3 with fail
  go_loopg [4] (n + 1) (fun kq v4 w' => ∃ (i : Nat) (acc : List Int) (v : Value), v4 = .int .i64 (i : Int) ∧ Aside0 (i ≤ n ∧ kq + i = n + 1 ∧ acc.length = i) ∧ Aside0 (judgeL (l.drop i) i acc = r) ∧ Aside0 (JI w rl A c n B V acc v w'))
  case atStart => exact ⟨0, [], _, rfl, ⟨Nat.zero_le _, by omega, rfl⟩, HG0, hJ⟩
  case round =>
    clear hJ
    obtain ⟨i, acc, v, rfl, HI, HG, HJ⟩ := hrel
    obtain ⟨m, rfl⟩ : ∃ m, gk = m + 1 := ⟨gk - 1, by have := HI.out; omega⟩
    have x0 := (blk_cell HJ.out.set 0).trans rfl
    have x1 := (blk_cell HJ.out.set 1).trans rfl
    by_cases hlt : i < n
    · have e1 : decide ((i : Int) < (n : Int)) = true := decide_eq_true (by omega)
      have hlen : i < l.length := by have := HN.out.1; omega
      have hd : l.drop i = l.getD i (0, 0) :: l.drop (i + 1) := by
        rw [List.drop_eq_getElem_cons hlen, List.getD_eq_getElem?_getD, List.getElem?_eq_getElem hlen]; rfl
      have hG := HG.out
      rw [hd] at hG
      have HO := Aside0.mk (HOF.out _ i HJ.out.hB hlt)
      generalize l.getD i (0, 0) = p at hG HO
      obtain ⟨p1, p2⟩ := p
      unfold judgeL at hG
      dsimp only at hG HO
      by_cases hp : p2 = 1
      · rw [if_pos hp] at hG
        have e2 : (p2 != 1) = false := bne_eq_false_iff_eq.mpr hp
        replace hG := Aside0.mk hG
        obtain ⟨A5, c5, rfl⟩ := Kd.R_slice HJ.out.row
        clear hp hd
        go_wp2_with (first | (go_at_call 23; (with_reducible refine HO.out.mono ?_); rintro e w5 ⟨rfl, hb5⟩; have H5 := Aside0.mk (HJ.out.below hb5); have y2 : w5.cell? ⟨V, 2, none⟩ = some (.slice A5 acc.length c5) := blk_cell H5.out.ver 2; clear hb5) | ((with_reducible refine gate_builtin (b := .append) (xs := #[.tmp 27, .tmp 29]) rfl ?_); at_builtin; (refine Kd.R_append (Kd.int .i64) (w0 := w) w.heap.size rfl (.tmp 27) (.tmp 29) 28 2 (.int .i64 0) 8 rfl Tryz.underlying28 info2k rfl (by decide) (by omega) (.slice A5 acc.length c5) acc p1 [.int .i64 p1] (fun _ => True) (fun _ => False) rfl rfl ?aP (fun _ hk => hk.elim) (fun _ _ => trivial) ?aO ?aB ?aS ?aL ?_; (case aP => exact rfl); (case aO => exact H5.out.row); (case aB => exact H5.out.hB); (case aS => exact H5.out.hB.size); (case aL => have := HI.out; have := HN.out; omega); intro v9 w9 hR9 hB9 hg9 hat9; obtain ⟨A9, c9, rfl⟩ := Kd.R_slice hR9; have H9 := Aside0.mk (JI.next H5.out hR9 hB9 hg9); have y9 : w9.cell? ⟨V, 2, none⟩ = some (.slice A5 acc.length c5) := blk_cell H9.out.1 2; have q9 := blk_frozen H9.out.1 2; clear hR9 hB9 hg9 hat9)))
        go_roundg m
        case measure => exact Nat.lt_succ_self _
        case rel => exact ⟨i + 1, acc ++ [p1], .slice A9 (acc.length + 1) c9, by rw [show ((i : Int) + 1) = ((i + 1 : Nat) : Int) by omega, wrap64_id (by omega) (by have := HN.out; omega)], ⟨by omega, by have := HI.out; omega, by rw [List.length_append, HI.out.2.2]; rfl⟩, hG, ⟨by have h := H9.out.2; rw [show (acc ++ [p1]).length = acc.length + 1 by rw [List.length_append]; rfl] at h; exact h⟩⟩
      · rw [if_neg hp] at hG
        have e2 : (p2 != 1) = true := bne_iff_ne.mpr hp
        subst hG
        go_wp2_with (first | (go_at_call 23; (with_reducible refine HO.out.mono ?_); rintro e w5 ⟨rfl, hb5⟩; have H5 := Aside0.mk (HJ.out.below hb5); have r0 := blk_frozen H5.out.res 0; have r1 := blk_frozen H5.out.res 1; have r2 := blk_frozen H5.out.res 2; have v0 := (blk_cell H5.out.res 0).trans rfl; have v1 := (blk_cell H5.out.res 1).trans rfl; have v2 := (blk_cell H5.out.res 2).trans rfl; clear hb5))
        have G := row3_set H5.out.res (.int .i64 p2) (.int .i64 (i : Int)) (.slice none 0 0)
        refine bodyPost_ret (results_cell_row rfl _ _ B 30 _ (0, 0) _ rfl G Tryz.underlying30 rfl (by kernel_rfl)) rfl ?_
        exact ⟨_, rfl, Kd.R_nil _ _ _ _ _, Below.setCell (Below.setCell (Below.setCell H5.out.hB H5.out.ge.1 _) H5.out.ge.1 _) H5.out.ge.1 _⟩
    · have e1 : decide ((i : Int) < (n : Int)) = false := decide_eq_false (by omega)
      have hG := HG.out
      rw [List.drop_of_length_le (by have := HN.out.1; omega)] at hG
      unfold judgeL at hG
      subst hG
      obtain ⟨A5, c5, rfl⟩ := Kd.R_slice HJ.out.row
      have r0 := blk_frozen HJ.out.res 0
      have r1 := blk_frozen HJ.out.res 1
      have r2 := blk_frozen HJ.out.res 2
      have v0 := (blk_cell HJ.out.res 0).trans rfl
      have v1 := (blk_cell HJ.out.res 1).trans rfl
      have v2 := (blk_cell HJ.out.res 2).trans rfl
      have s0 := (blk_cell HJ.out.ver 0).trans rfl
      have s1 := (blk_cell HJ.out.ver 1).trans rfl
      have s2 := (blk_cell HJ.out.ver 2).trans rfl
      go_wp2
      have G := row3_set HJ.out.res (.int .i64 1) (.int .i64 0) (.slice A5 acc.length c5)
      refine bodyPost_ret (results_cell_row rfl _ _ B 30 _ (0, 0) _ rfl G Tryz.underlying30 rfl (by kernel_rfl)) rfl ?_
      have b0 := blk_set HJ.out.res 0 (.int .i64 1)
      have b1 := blk_set b0 1 (.int .i64 0)
      exact ⟨_, rfl, Kd.R_set (Kd.R_set (Kd.R_set HJ.out.row HJ.out.res (fun q hq => by rw [List.mem_singleton.mp hq]; decide) _ _) b0 (fun q hq => by rw [List.mem_singleton.mp hq]; decide) _ _) b1 (fun q hq => by rw [List.mem_singleton.mp hq]; decide) _ _, Below.setCell (Below.setCell (Below.setCell HJ.out.hB HJ.out.ge.1 _) HJ.out.ge.1 _) HJ.out.ge.1 _⟩
end Go.Proofs.YtaofmmnfenlofaaGreatDoor.QTc
namespace Go.Proofs.YtaofmmnfenlofaaGreatDoor.QTc
open Go.RowKit Go.Proofs.YtaofmmnfenlofaaGreatDoor.TopSet Go.Proofs.YtaofmmnfenlofaaGreatDoorW.PrintWords Go.Proofs.YtaofmmnfenlofaaGreatDoorW.PrintLast Go.Proofs.YtaofmmnfenlofaaGreatDoorW.PrintMore
set_option linter.unusedVariables false
set_option linter.unusedSimpArgs false
attribute [local go_sem] below_alloc below_drew1 pw_below_drewN
theorem small_calls (w : World) (c : Int) (r : Bool) (h : decide (97 ≤ c ∧ c ≤ 122) = r) : Calls Tryz.prog 98 #[.int .u8 c] w (Gives w (.bool r)) :=
  (taskmasterref4_small.calls c r w (by rw [small_eq, h])).mono fun e w' k => ⟨k.1, Drawn0.below k.2⟩
theorem digit_calls (w : World) (c : Int) (r : Bool) (h : decide (48 ≤ c ∧ c ≤ 57) = r) : Calls Tryz.prog 131 #[.int .u8 c] w (Gives w (.bool r)) :=
  (taskmasterref4_digit.calls c r w (by rw [digit_eq, h])).mono fun e w' k => ⟨k.1, Drawn0.below k.2⟩
theorem bt_n (s : ByteArray) (j : Nat) (h : j < s.size) : bt s (j : Int) = ((s[j]'h).toNat : Int) := by
  have := bt_at s (j : Int) (by simpa using h)
  rw [← this]; rfl
theorem row4_one {W : World} {g t : Nat} {a0 a1 a2 a3 : Value} (h : W.heap[g]? = some (.cells #[a0, a1, a2, a3] t (0, 0))) (v0 v1 v2 v3 : Value) : ((((W.setCell ⟨g, 0, none⟩ v0).setCell ⟨g, 1, none⟩ v1).setCell ⟨g, 2, none⟩ v2).setCell ⟨g, 3, none⟩ v3).heap[g]? = some (.cells #[v0, v1, v2, v3] t (0, 0)) := by
  have := blk_set (blk_set (blk_set (blk_set h 0 v0) 1 v1) 2 v2) 3 v3
  simpa using this
structure OneI (w : World) (g : Nat) (W : World) : Prop where
  hB : BW w W
  res : W.heap[g]? = some (.cells #[.int .i64 0, .string ⟨#[]⟩, .int .i64 0, .int .i64 0] 155 (0, 0))
  ge : w.heap.size ≤ g
theorem OneI.below {w W W' : World} {g : Nat} (h : OneI w g W) (hb : BW W W') : OneI w g W' := ⟨h.hB.tr hb, blk_below h.res hb, h.ge⟩
set_option maxHeartbeats 8000000 in
set_option maxRecDepth 100000 in
theorem one_calls (w : World) (s : ByteArray) (h0 : 0 < s.size) (hs : s.size ≤ 9223372036854775807) (hf : 97 ≤ bt s 0 ∧ bt s 0 ≤ 122) : Calls Tryz.prog 99 #[.string s] w fun e w' => ∃ (k : Int) (s' : ByteArray) (n : Int), e = .returned (.tuple #[.agg #[.int .i64 k, .string s', .int .i64 0, .int .i64 0], .int .i64 n]) ∧ ((n = s.size ∧ k = 1) ↔ NameN s) ∧ BW w w' := by
  have hu155 := Tryz.underlying155
  have hb0 := bt_n s 0 h0
  rw [show ((0 : Nat) : Int) = 0 from rfl] at hb0
  rw [hb0] at hf
  have HD := Aside0.mk (fun W => digit_calls W ((s[0]'h0).toNat : Int) false (decide_eq_false (by omega)))
  have HS := Aside0.mk (fun W => small_calls W ((s[0]'h0).toNat : Int) true (decide_eq_true hf))
  have n59 : (((s[0]'h0).toNat : Int) == 59) = false := beq_eq_false_iff_ne.mpr (by omega)
  have s0 : (0 : Int) < (s.size : Int) := by omega
  have hs' : (s.size : Int) ≤ 9223372036854775807 := by omega
  have HI0 : OneI w w.heap.size (w.alloc (.cells #[.int .i64 0, .string ⟨#[]⟩, .int .i64 0, .int .i64 0] 155)) := ⟨below_alloc (Below.refl _ _) _, heap_alloc_new _ _, Nat.le_refl _⟩
  clear hf
  go_enter Tryz.func99, Tryz.ntmps99
  go_upto_region 15 with (first | (go_at_call 131; (with_reducible refine (HD.out _).mono ?_); rintro e w1 ⟨rfl, hb1⟩; have HI1 := HI0.below hb1; clear hb1) | (go_at_call 98; (with_reducible refine (HS.out _).mono ?_); rintro e w2 ⟨rfl, hb2⟩; have HI2 := Aside0.mk (HI1.below hb2)))
  clear HD HS n59 HI0 HI1 hb0 hb2
  generalize w.heap.size = g at HI2 ⊢
  go_loopg [4] (s.size + 1) (fun kq v4 w' => ∃ n : Nat, v4 = .int .i64 (n : Int) ∧ Aside0 (kq + n = s.size + 1 ∧ n ≤ s.size) ∧ Aside0 (∀ j : Nat, j < n → okB (bt s (j : Int))) ∧ Aside0 (OneI w g w'))
  case atStart => exact ⟨0, rfl, ⟨by omega, by omega⟩, ⟨fun j hj => absurd hj (Nat.not_lt_zero _)⟩, HI2⟩
  case round =>
    clear HI2
    obtain ⟨n, rfl, HK, HA, HO⟩ := hrel
    have i0 : 0 ≤ (n : Int) := by omega
    by_cases hgo : n < s.size ∧ okB (bt s (n : Int))
    · obtain ⟨hn, hok⟩ := hgo
      have HA2 := Aside0.mk (show ∀ j : Nat, j < n + 1 → okB (bt s (j : Int)) from fun j hj => by
        by_cases e : j = n
        · rw [e]; exact hok
        · exact HA.out j (by omega))
      rw [bt_n s n hn] at hok
      have HG := Aside0.mk (show gk - 1 + (n + 1) = s.size + 1 ∧ n + 1 ≤ s.size by have := HK.out; omega)
      have HM := Aside0.mk (show gk - 1 < gk by have := HK.out; omega)
      have i1 : (n : Int) < (s.size : Int) := by omega
      have i2 : (n : Int) + 1 ≤ 9223372036854775807 := by omega
      have hd1 : decide ((n : Int) < (s.size : Int)) = true := decide_eq_true i1
      have hd2 : decide (n < s.size) = true := decide_eq_true hn
      clear HA
      by_cases c1 : 97 ≤ ((s[n]'hn).toNat : Int) ∧ ((s[n]'hn).toNat : Int) ≤ 122
      · have HS := Aside0.mk (fun W => small_calls W ((s[n]'hn).toNat : Int) true (decide_eq_true c1))
        go_wp2_with (go_at_call 98; (with_reducible refine (HS.out _).mono ?_); rintro e w2 ⟨rfl, hb2⟩; have HO2 := Aside0.mk (HO.out.below hb2))
        go_roundg (gk - 1)
        case measure => exact HM.out
        case rel => exact ⟨n + 1, rfl, HG, HA2, HO2⟩
      have HS := Aside0.mk (fun W => small_calls W ((s[n]'hn).toNat : Int) false (decide_eq_false c1))
      by_cases c2 : 48 ≤ ((s[n]'hn).toNat : Int) ∧ ((s[n]'hn).toNat : Int) ≤ 57
      · have HD := Aside0.mk (fun W => digit_calls W ((s[n]'hn).toNat : Int) true (decide_eq_true c2))
        go_wp2_with (first | (go_at_call 98; (with_reducible refine (HS.out _).mono ?_); rintro e w2 ⟨rfl, hb2⟩; have HO2 := Aside0.mk (HO.out.below hb2)) | (go_at_call 131; (with_reducible refine (HD.out _).mono ?_); rintro e w3 ⟨rfl, hb3⟩; have HO3 := Aside0.mk (HO2.out.below hb3)))
        go_roundg (gk - 1)
        case measure => exact HM.out
        case rel => exact ⟨n + 1, rfl, HG, HA2, HO3⟩
      have HD := Aside0.mk (fun W => digit_calls W ((s[n]'hn).toNat : Int) false (decide_eq_false c2))
      have c3 : (((s[n]'hn).toNat : Int) == 95) = true := by
        unfold okB at hok
        exact beq_iff_eq.mpr (by omega)
      clear hok c1 c2
      go_wp2_with (first | (go_at_call 98; (with_reducible refine (HS.out _).mono ?_); rintro e w2 ⟨rfl, hb2⟩; have HO2 := Aside0.mk (HO.out.below hb2)) | (go_at_call 131; (with_reducible refine (HD.out _).mono ?_); rintro e w3 ⟨rfl, hb3⟩; have HO3 := Aside0.mk (HO2.out.below hb3)))
      go_roundg (gk - 1)
      case measure => exact HM.out
      case rel => exact ⟨n + 1, rfl, HG, HA2, HO3⟩
    · obtain ⟨b, hb, hbi⟩ := word_f (s.extract 0 n)
      have i3 : (n : Int) ≤ (s.size : Int) := by have := HK.out; omega
      have HT := Aside0.mk (show (n = s.size ∧ n ≤ 12 ∧ b = false) ↔ NameN s by
        constructor
        · rintro ⟨e, h12, hbf⟩
          have := hbi.1 hbf
          rw [ext_all s n e] at this
          exact ⟨by omega, fun j hj => HA.out j (by omega), this⟩
        · rintro ⟨h12, hall, hnw⟩
          have hn : n = s.size := by
            have := HK.out
            by_cases e : n = s.size
            · exact e
            · exact absurd ⟨by omega, hall n (by omega)⟩ hgo
          exact ⟨hn, by omega, hbi.2 (by rw [ext_all s n hn]; exact hnw)⟩)
      have HW := Aside0.mk (fun W => taskmasterref4_word.calls 20 (s.extract 0 n) b W hb)
      clear hbi hb
      by_cases hn : n < s.size
      case' pos =>
        have hok : ¬ okB (bt s (n : Int)) := fun h => hgo ⟨hn, h⟩
        rw [bt_n s n hn] at hok
        have i1 : (n : Int) < (s.size : Int) := by omega
        have hd1 : decide ((n : Int) < (s.size : Int)) = true := decide_eq_true i1
        have hd2 : decide (n < s.size) = true := decide_eq_true hn
        unfold okB at hok
        have HS := Aside0.mk (fun W => small_calls W ((s[n]'hn).toNat : Int) false (decide_eq_false (by omega)))
        have HD := Aside0.mk (fun W => digit_calls W ((s[n]'hn).toNat : Int) false (decide_eq_false (by omega)))
        have c3 : (((s[n]'hn).toNat : Int) == 95) = false := beq_eq_false_iff_ne.mpr (by omega)
        clear hok
        go_upto_region 17 with (first | (go_at_call 98; (with_reducible refine (HS.out _).mono ?_); rintro e w2 ⟨rfl, hb2⟩; have HO2 := Aside0.mk (HO.out.below hb2)) | (go_at_call 131; (with_reducible refine (HD.out _).mono ?_); rintro e w3 ⟨rfl, hb3⟩; have HO3 := Aside0.mk (HO2.out.below hb3)))
        have HX := HO3
      case' neg =>
        have hd1 : decide ((n : Int) < (s.size : Int)) = false := decide_eq_false (by omega)
        have hd2 : decide (n < s.size) = false := decide_eq_false hn
        go_upto_region 17 with fail
        have HX := HO
      all_goals
        clear hgo HA HK
        cases b with
        | true =>
          go_wp2_with (go_at_call 132; (with_reducible refine (HW.out _).mono ?_); rintro e w5 ⟨rfl, hb5⟩; have H5 := Aside0.mk (HX.out.below hb5); have r0 := blk_frozen H5.out.res 0; have r1 := blk_frozen H5.out.res 1; have r2 := blk_frozen H5.out.res 2; have r3 := blk_frozen H5.out.res 3; have v0 := (blk_cell H5.out.res 0).trans rfl; have v1 := (blk_cell H5.out.res 1).trans rfl; have v2 := (blk_cell H5.out.res 2).trans rfl; have v3 := (blk_cell H5.out.res 3).trans rfl; clear hb5)
          have G := row4_one H5.out.res (.int .i64 3) (.string (s.extract 0 n)) (.int .i64 0) (.int .i64 0)
          refine bodyPost_ret (results_ct rfl _ _ g 155 _ (0, 0) _ rfl G Tryz.underlying155 rfl (by kernel_rfl)) rfl ?_
          exact ⟨3, (s.extract 0 n), (n : Int), rfl, ⟨fun h => absurd h.2 (by decide), fun h => absurd (HT.out.2 h).2.2 (by decide)⟩, Below.setCell (Below.setCell (Below.setCell (Below.setCell H5.out.hB H5.out.ge _) H5.out.ge _) H5.out.ge _) H5.out.ge _⟩
        | false =>
          by_cases h12 : 12 < n
          · have e1 : decide (12 < (n : Int)) = true := decide_eq_true (by omega)
            have e2 : decide (12 < n) = true := decide_eq_true h12
            go_wp2_with (go_at_call 132; (with_reducible refine (HW.out _).mono ?_); rintro e w5 ⟨rfl, hb5⟩; have H5 := Aside0.mk (HX.out.below hb5); have r0 := blk_frozen H5.out.res 0; have r1 := blk_frozen H5.out.res 1; have r2 := blk_frozen H5.out.res 2; have r3 := blk_frozen H5.out.res 3; have v0 := (blk_cell H5.out.res 0).trans rfl; have v1 := (blk_cell H5.out.res 1).trans rfl; have v2 := (blk_cell H5.out.res 2).trans rfl; have v3 := (blk_cell H5.out.res 3).trans rfl; clear hb5)
            have G := row4_one H5.out.res (.int .i64 0) (.string ⟨#[]⟩) (.int .i64 0) (.int .i64 0)
            refine bodyPost_ret (results_ct rfl _ _ g 155 _ (0, 0) _ rfl G Tryz.underlying155 rfl (by kernel_rfl)) rfl ?_
            exact ⟨0, ⟨#[]⟩, 0, rfl, ⟨fun h => absurd h.2 (by decide), fun h => absurd (HT.out.2 h).2.1 (by omega)⟩, Below.setCell (Below.setCell (Below.setCell (Below.setCell H5.out.hB H5.out.ge _) H5.out.ge _) H5.out.ge _) H5.out.ge _⟩
          · have e1 : decide (12 < (n : Int)) = false := decide_eq_false (by omega)
            have e2 : decide (12 < n) = false := decide_eq_false h12
            go_wp2_with (go_at_call 132; (with_reducible refine (HW.out _).mono ?_); rintro e w5 ⟨rfl, hb5⟩; have H5 := Aside0.mk (HX.out.below hb5); have r0 := blk_frozen H5.out.res 0; have r1 := blk_frozen H5.out.res 1; have r2 := blk_frozen H5.out.res 2; have r3 := blk_frozen H5.out.res 3; have v0 := (blk_cell H5.out.res 0).trans rfl; have v1 := (blk_cell H5.out.res 1).trans rfl; have v2 := (blk_cell H5.out.res 2).trans rfl; have v3 := (blk_cell H5.out.res 3).trans rfl; clear hb5)
            have G := row4_one H5.out.res (.int .i64 1) (.string (s.extract 0 n)) (.int .i64 0) (.int .i64 0)
            refine bodyPost_ret (results_ct rfl _ _ g 155 _ (0, 0) _ rfl G Tryz.underlying155 rfl (by kernel_rfl)) rfl ?_
            exact ⟨1, (s.extract 0 n), (n : Int), rfl, ⟨fun h => HT.out.1 ⟨by omega, by omega, by simp⟩, fun h => ⟨by have := (HT.out.2 h).1; omega, by decide⟩⟩, Below.setCell (Below.setCell (Below.setCell (Below.setCell H5.out.hB H5.out.ge _) H5.out.ge _) H5.out.ge _) H5.out.ge _⟩
set_option maxHeartbeats 4000000 in
set_option maxRecDepth 100000 in
theorem name_calls (w : World) (s : ByteArray) (hs : s.size ≤ 9223372036854775807) (r : Bool) (hr : r = true ↔ NameB s) : Calls Tryz.prog 56 #[.string s] w (Gives w (.bool r)) := by
  have hu155 := Tryz.underlying155
  by_cases h0 : s.size = 0
  · obtain rfl : false = r := by
      cases r with
      | false => rfl
      | true => have := (hr.1 rfl).2.1; omega
    have d0 : ((s.size : Int) == 0) = true := by simpa using h0
    clear hr
    go_enter Tryz.func56, Tryz.ntmps56
    go_wp2
    go_ret
    exact ⟨rfl, BW.rfl' w⟩
  have h1 : 0 < s.size := by omega
  have d0 : ((s.size : Int) == 0) = false := by simpa using h0
  have s0 : (0 : Int) < (s.size : Int) := by omega
  have hb0 := bt_n s 0 h1
  rw [show ((0 : Nat) : Int) = 0 from rfl] at hb0
  by_cases hf : 97 ≤ bt s 0 ∧ bt s 0 ≤ 122
  · have HO := Aside0.mk (fun W => one_calls W s h1 hs hf)
    rw [hb0] at hf
    have HS := Aside0.mk (fun W => small_calls W ((s[0]'h1).toNat : Int) true (decide_eq_true hf))
    have HR := Aside0.mk (show r = true ↔ NameN s by rw [hr]; unfold NameB; rw [hb0]; exact ⟨fun h => h.1, fun h => ⟨h, h1, hf⟩⟩)
    clear hr hf h0
    go_enter Tryz.func56, Tryz.ntmps56
    go_upto_region 4 with (first | (go_at_call 98; (with_reducible refine (HS.out _).mono ?_); rintro e w2 ⟨rfl, hb2⟩) | (go_at_call 99; (with_reducible refine (HO.out _).mono ?_); rintro e w3 ⟨k, s', n, rfl, hiff, hb3⟩; have hB3 : BW w w3 := BW.tr hb2 hb3))
    cases hk : ((n == (s.size : Int)) : Bool) with
    | false =>
      obtain rfl : false = r := by
        cases r with
        | false => rfl
        | true => have := (hiff.2 (HR.out.1 rfl)).1; rw [this] at hk; simp at hk
      go_wp2
      go_ret
      exact ⟨rfl, by go_simp⟩
    | true =>
      obtain ⟨q, hq⟩ : ∃ q, ((k == 1) : Bool) = q := ⟨_, rfl⟩
      obtain rfl : q = r := by
        have h1 : n = (s.size : Int) := by simpa using hk
        rw [Bool.eq_iff_iff, HR.out, ← hiff, ← hq]
        simp [h1]
      clear hiff
      go_wp2
      go_ret
      exact ⟨rfl, by go_simp⟩
  · rw [hb0] at hf
    have HS := Aside0.mk (fun W => small_calls W ((s[0]'h1).toNat : Int) false (decide_eq_false hf))
    obtain rfl : false = r := by
      cases r with
      | false => rfl
      | true => have := (hr.1 rfl).2.2; rw [hb0] at this; exact absurd this hf
    clear hr hf h0
    go_enter Tryz.func56, Tryz.ntmps56
    go_wp2_with (go_at_call 98; (with_reducible refine (HS.out _).mono ?_); rintro e w2 ⟨rfl, hb2⟩)
    go_ret
    exact ⟨rfl, hb2⟩
theorem in_calls (w : World) (n a b : Int) (r : Bool) (h : decide (a ≤ n ∧ n ≤ b) = r) : Calls Tryz.prog 28 #[.int .i64 n, .int .i64 a, .int .i64 b] w (Gives w (.bool r)) :=
  (taskmasterref5_in.calls n a b r w (by rw [in_eq, h])).mono fun e w' k => ⟨k.1, Drawn0.below k.2⟩
theorem no_of {r : Bool} {p : Prop} (hr : r = true ↔ p) (h : ¬ p) : false = r := by
  cases r with
  | false => rfl
  | true => exact absurd (hr.1 rfl) h
set_option maxHeartbeats 16000000 in
set_option maxRecDepth 100000 in
theorem isT_calls (w : World) (t : S46) (A6 : Option Addr) (c6 : Nat) (p : Int) (hC : Kd.C (Kd.int .i64) w A6 t.f6.length t.f6) (hs : t.f0.size ≤ 9223372036854775807) (r : Bool) (hr : r = true ↔ TaskOK t p) : Calls Tryz.prog 29 #[v46 t A6 c6, .int .i64 p] w (Gives w (.bool r)) := by
  have hu46 := Tryz.underlying46
  obtain ⟨W0, e0, hb0, b, eb, cb⟩ := box46 w t A6 c6
  have hB : BW W0 W0 := BW.rfl' W0
  have HC := Aside0.mk (Kd.C_below hC hb0)
  have HB0 := Aside0.mk hb0
  clear hC
  by_cases hN : NameB t.f0
  case neg =>
    have HN := Aside0.mk (fun W => name_calls W t.f0 hs false ⟨fun h => (by cases h), fun h => absurd h hN⟩)
    obtain rfl := no_of hr (fun h => hN h.1)
    clear hr
    go_enter Tryz.func29, Tryz.ntmps29
    go_wp2_with (go_at_call 56; (with_reducible refine (HN.out _).mono ?_); rintro e w1 ⟨rfl, hb1⟩; have hB1 := hB.tr hb1)
    go_ret
    exact ⟨rfl, HB0.out.tr hB1⟩
  have HN := Aside0.mk (fun W => name_calls W t.f0 hs true ⟨fun _ => hN, fun _ => rfl⟩)
  by_cases h1 : (t.f6.length : Int) < 1
  · have d1 : decide ((t.f6.length : Int) < 1) = true := decide_eq_true h1
    obtain rfl := no_of hr (fun h => by have := h.2.1; omega)
    clear hr
    go_enter Tryz.func29, Tryz.ntmps29
    go_wp2_with (go_at_call 56; (with_reducible refine (HN.out _).mono ?_); rintro e w1 ⟨rfl, hb1⟩; have hB1 := hB.tr hb1)
    go_ret
    exact ⟨rfl, HB0.out.tr hB1⟩
  have d1 : decide ((t.f6.length : Int) < 1) = false := decide_eq_false h1
  by_cases h8 : 8 < (t.f6.length : Int)
  · have d8 : decide (8 < (t.f6.length : Int)) = true := decide_eq_true h8
    have d8' : decide (8 < t.f6.length) = true := decide_eq_true (by omega)
    obtain rfl := no_of hr (fun h => by have := h.2.2.1; omega)
    clear hr
    go_enter Tryz.func29, Tryz.ntmps29
    go_wp2_with (go_at_call 56; (with_reducible refine (HN.out _).mono ?_); rintro e w1 ⟨rfl, hb1⟩; have hB1 := hB.tr hb1)
    go_ret
    exact ⟨rfl, HB0.out.tr hB1⟩
  have d8 : decide (8 < (t.f6.length : Int)) = false := decide_eq_false h8
  have d8' : decide (8 < t.f6.length) = false := decide_eq_false (by omega)
  by_cases hx : Go.bits .andNot .u64 t.f8 t.f7 = 0
  case neg =>
    have dx : (Go.bits .andNot .u64 t.f8 t.f7 != 0) = true := by simpa using hx
    obtain rfl := no_of hr (fun h => hx h.2.2.2.1)
    clear hr
    go_enter Tryz.func29, Tryz.ntmps29
    go_wp2_with (go_at_call 56; (with_reducible refine (HN.out _).mono ?_); rintro e w1 ⟨rfl, hb1⟩; have hB1 := hB.tr hb1)
    go_ret
    exact ⟨rfl, HB0.out.tr hB1⟩
  have dx : (Go.bits .andNot .u64 t.f8 t.f7 != 0) = false := by simpa using hx
  have HR := Aside0.mk (show r = true ↔ ((∀ x ∈ t.f6, 1 ≤ x ∧ x ≤ 10000) ∧ sum t.f6 ≤ t.f2 ∧ t.f2 ≤ t.f1 ∧ t.f1 ≤ 10000 ∧ ((t.f3 = 0 ∧ t.f4 = 0 ∧ t.f5 = 0) ∨ (t.f3 = 1 ∧ 0 ≤ t.f4 ∧ t.f4 ≤ 10000 ∧ t.f5 = 0) ∨ (t.f3 = 2 ∧ t.f4 = 0 ∧ 0 ≤ t.f5 ∧ t.f5 ≤ p))) by
    rw [hr]
    exact ⟨fun h => h.2.2.2.2, fun h => ⟨hN, by omega, by omega, hx, h⟩⟩)
  have hl8 : t.f6.length ≤ 8 := by omega
  clear hr hN hs hx h1 h8
  go_enter Tryz.func29, Tryz.ntmps29
  go_upto_region 4 with (go_at_call 56; (with_reducible refine (HN.out _).mono ?_); rintro e w1 ⟨rfl, hb1⟩; have hB1 := hB.tr hb1)
  clear HN d1 d8 d8' dx
  go_loopg [5] (t.f6.length + 1) (fun kq v5 w' => ∃ i : Nat, v5 = .int .i64 (i : Int) ∧ Aside0 (kq + i = t.f6.length + 1 ∧ i ≤ t.f6.length) ∧ Aside0 (∀ j : Nat, j < i → 1 ≤ rd t.f6 (j : Int) ∧ rd t.f6 (j : Int) ≤ 10000) ∧ BW W0 w')
  case atStart => exact ⟨0, rfl, ⟨by omega, by omega⟩, ⟨fun j hj => absurd hj (Nat.not_lt_zero _)⟩, hB1⟩
  case round =>
    clear hB1
    obtain ⟨i, rfl, HK, HA, hBi⟩ := hrel
    by_cases hi : i < t.f6.length
    · obtain ⟨ad, rfl, hx⟩ := atI HC.out i hi
      have i0 : 0 ≤ (i : Int) := by omega
      have i1 : (i : Int) < (t.f6.length : Int) := by omega
      have i2 : (i : Int) ≤ 8 := by omega
      have hd1 : decide ((i : Int) < (t.f6.length : Int)) = true := decide_eq_true i1
      have hd2 : decide (i < t.f6.length) = true := decide_eq_true hi
      by_cases c : 1 ≤ rd t.f6 (i : Int) ∧ rd t.f6 (i : Int) ≤ 10000
      · have HA2 := Aside0.mk (show ∀ j : Nat, j < i + 1 → 1 ≤ rd t.f6 (j : Int) ∧ rd t.f6 (j : Int) ≤ 10000 from fun j hj => by
          by_cases e : j = i
          · rw [e]; exact c
          · exact HA.out j (by omega))
        have HIN := Aside0.mk (fun W => in_calls W (rd t.f6 (i : Int)) 1 10000 true (decide_eq_true c))
        have HG := Aside0.mk (show gk - 1 + (i + 1) = t.f6.length + 1 ∧ i + 1 ≤ t.f6.length by have := HK.out; omega)
        have HM := Aside0.mk (show gk - 1 < gk by have := HK.out; omega)
        clear c HA
        generalize rd t.f6 (i : Int) = x at *
        go_wp2_with (go_at_call 28; (with_reducible refine (HIN.out _).mono ?_); rintro e w2 ⟨rfl, hb2⟩; have hB2 := hBi.tr hb2)
        go_roundg (gk - 1)
        case measure => exact HM.out
        case rel => exact ⟨i + 1, rfl, HG, HA2, hB2⟩
      · obtain rfl := no_of HR.out (fun h => c (h.1 _ (rd_mem hi)))
        have HIN := Aside0.mk (fun W => in_calls W (rd t.f6 (i : Int)) 1 10000 false (decide_eq_false c))
        clear c HA
        generalize rd t.f6 (i : Int) = x at *
        go_wp2_with (go_at_call 28; (with_reducible refine (HIN.out _).mono ?_); rintro e w2 ⟨rfl, hb2⟩; have hB2 := hBi.tr hb2)
        go_ret
        exact ⟨rfl, HB0.out.tr hB2⟩
    · have hd1 : decide ((i : Int) < (t.f6.length : Int)) = false := decide_eq_false (by omega)
      have hd2 : decide (i < t.f6.length) = false := decide_eq_false hi
      have hrg : RgOk t.f6 := ⟨fun x hx => by
        obtain ⟨j, hj, rfl⟩ := List.mem_iff_getElem.1 hx
        have := HA.out j (by omega)
        unfold rd at this
        rw [Int.toNat_natCast, List.getD_eq_getElem?_getD, List.getElem?_eq_getElem hj] at this
        exact this, hl8⟩
      have HW := Aside0.mk (fun W (h : BW W0 W) => rWork_calls W t A6 c6 (Kd.C_below HC.out h) hrg)
      have HR2 := Aside0.mk (show r = true ↔ (sum t.f6 ≤ t.f2 ∧ t.f2 ≤ t.f1 ∧ t.f1 ≤ 10000 ∧ ((t.f3 = 0 ∧ t.f4 = 0 ∧ t.f5 = 0) ∨ (t.f3 = 1 ∧ 0 ≤ t.f4 ∧ t.f4 ≤ 10000 ∧ t.f5 = 0) ∨ (t.f3 = 2 ∧ t.f4 = 0 ∧ 0 ≤ t.f5 ∧ t.f5 ≤ p))) by
        rw [HR.out]; exact ⟨fun h => h.2, fun h => ⟨hrg.x1, h⟩⟩)
      clear HR HA hrg
      generalize sum t.f6 = sm at *
      by_cases c1 : t.f2 < sm
      · have e1 : decide (t.f2 < sm) = true := decide_eq_true c1
        obtain rfl := no_of HR2.out (fun h => by omega)
        go_upto_region 8 with fail
        refine wp_region_held_drew (S := fun W => BW W0 W) (by kernel_rfl) (by go_simp) (fun hHeld => ?_)
        refine wpAnyH_take (i := 0) (v := ?_) rfl (by kernel_rfl) (by kernel_rfl) (by kernel_rfl) (fun _ _ _ h => h) (Or.inl ⟨by rfl, ?_⟩) (by assumption) ?_
        rotate_left
        · intro w hSw; go_simp; try with_reducible rfl
        try simp only [Act.put, List.setIfInBounds_toArray, List.set_cons_zero, List.set_cons_succ, List.getElem_toArray, List.getElem_cons_succ, List.getElem_cons_zero]
        refine wpAnyH_take (i := 2) (v := ?_) rfl (by kernel_rfl) (by kernel_rfl) (by kernel_rfl) (fun _ _ _ h => h) (Or.inl ⟨by rfl, ?_⟩) (by assumption) ?_
        rotate_left
        · intro w hSw; go_simp; try with_reducible rfl
        try simp only [Act.put, List.setIfInBounds_toArray, List.set_cons_zero, List.set_cons_succ, List.getElem_toArray, List.getElem_cons_succ, List.getElem_cons_zero]
        refine wpAnyH_take (i := 3) (v := ?_) rfl (by kernel_rfl) (by kernel_rfl) (by kernel_rfl) (fun _ _ _ h => h) (Or.inl ⟨by rfl, ?_⟩) (by assumption) ?_
        rotate_left
        · intro w hSw; go_simp; try with_reducible rfl
        try simp only [Act.put, List.setIfInBounds_toArray, List.set_cons_zero, List.set_cons_succ, List.getElem_toArray, List.getElem_cons_succ, List.getElem_cons_zero]
        refine wpAnyH_ready (rs := [1]) (by kernel_rfl) (by simp) ?_
        refine AllReadyH.cons rfl (fun K hK => ?_) AllReadyH.nil
        go_simp
        go_at_call 57; (with_reducible refine (HW.out _ hHeld).mono ?_); rintro e w2 ⟨rfl, hb2⟩
        dsimp only
        refine hK.out _ _ (hHeld.tr hb2) (fun hHeld => ?_)
        clear hK K
        try simp only [Act.put, List.setIfInBounds_toArray, List.set_cons_zero, List.set_cons_succ, List.getElem_toArray, List.getElem_cons_succ, List.getElem_cons_zero]
        refine wpAnyH_take (i := 4) (v := ?_) rfl (by kernel_rfl) (by kernel_rfl) (by kernel_rfl) (fun _ _ _ h => h) (Or.inl ⟨by rfl, ?_⟩) (by assumption) ?_
        rotate_left
        · intro w hSw; go_simp; try with_reducible rfl
        try simp only [Act.put, List.setIfInBounds_toArray, List.set_cons_zero, List.set_cons_succ, List.getElem_toArray, List.getElem_cons_succ, List.getElem_cons_zero]
        refine wpAnyH_take (i := 5) (v := ?_) rfl (by kernel_rfl) (by kernel_rfl) (by kernel_rfl) (fun _ _ _ h => h) (Or.inl ⟨by rfl, ?_⟩) (by assumption) ?_
        rotate_left
        · intro w hSw; go_simp; try with_reducible rfl
        try simp only [Act.put, List.setIfInBounds_toArray, List.set_cons_zero, List.set_cons_succ, List.getElem_toArray, List.getElem_cons_succ, List.getElem_cons_zero]
        refine wpAnyH_take (i := 6) (v := undef) rfl (by kernel_rfl) (by kernel_rfl) (by kernel_rfl) (fun _ _ _ h => h) (Or.inr ⟨by kernel_rfl, rfl⟩) (by assumption) ?_
        try simp only [Act.put, List.setIfInBounds_toArray, List.set_cons_zero, List.set_cons_succ, List.getElem_toArray, List.getElem_cons_succ, List.getElem_cons_zero]
        refine wpAnyH_take (i := 7) (v := undef) rfl (by kernel_rfl) (by kernel_rfl) (by kernel_rfl) (fun _ _ _ h => h) (Or.inr ⟨by kernel_rfl, rfl⟩) (by assumption) ?_
        try simp only [Act.put, List.setIfInBounds_toArray, List.set_cons_zero, List.set_cons_succ, List.getElem_toArray, List.getElem_cons_succ, List.getElem_cons_zero]
        refine wpAnyH_take (i := 8) (v := undef) rfl (by kernel_rfl) (by kernel_rfl) (by kernel_rfl) (fun _ _ _ h => h) (Or.inr ⟨by kernel_rfl, rfl⟩) (by assumption) ?_
        try simp only [Act.put, List.setIfInBounds_toArray, List.set_cons_zero, List.set_cons_succ, List.getElem_toArray, List.getElem_cons_succ, List.getElem_cons_zero]
        refine wpAnyH_take (i := 9) (v := undef) rfl (by kernel_rfl) (by kernel_rfl) (by kernel_rfl) (fun _ _ _ h => h) (Or.inr ⟨by kernel_rfl, rfl⟩) (by assumption) ?_
        try simp only [Act.put, List.setIfInBounds_toArray, List.set_cons_zero, List.set_cons_succ, List.getElem_toArray, List.getElem_cons_succ, List.getElem_cons_zero]
        refine wpAnyH_take (i := 10) (v := undef) rfl (by kernel_rfl) (by kernel_rfl) (by kernel_rfl) (fun _ _ _ h => h) (Or.inr ⟨by kernel_rfl, rfl⟩) (by assumption) ?_
        try simp only [Act.put, List.setIfInBounds_toArray, List.set_cons_zero, List.set_cons_succ, List.getElem_toArray, List.getElem_cons_succ, List.getElem_cons_zero]
        refine wpAnyH_take (i := 11) (v := ?_) rfl (by kernel_rfl) (by kernel_rfl) (by kernel_rfl) (fun _ _ _ h => h) (Or.inl ⟨by rfl, ?_⟩) (by assumption) ?_
        rotate_left
        · intro w hSw; go_simp; try with_reducible rfl
        try simp only [Act.put, List.setIfInBounds_toArray, List.set_cons_zero, List.set_cons_succ, List.getElem_toArray, List.getElem_cons_succ, List.getElem_cons_zero]
        refine wpAnyH_take (i := 12) (v := ?_) rfl (by kernel_rfl) (by kernel_rfl) (by kernel_rfl) (fun _ _ _ h => h) (Or.inl ⟨by rfl, ?_⟩) (by assumption) ?_
        rotate_left
        · intro w hSw; go_simp; try with_reducible rfl
        try simp only [Act.put, List.setIfInBounds_toArray, List.set_cons_zero, List.set_cons_succ, List.getElem_toArray, List.getElem_cons_succ, List.getElem_cons_zero]
        refine wpAnyH_take (i := 13) (v := undef) rfl (by kernel_rfl) (by kernel_rfl) (by kernel_rfl) (fun _ _ _ h => h) (Or.inr ⟨by kernel_rfl, rfl⟩) (by assumption) ?_
        try simp only [Act.put, List.setIfInBounds_toArray, List.set_cons_zero, List.set_cons_succ, List.getElem_toArray, List.getElem_cons_succ, List.getElem_cons_zero]
        refine wpAnyH_take (i := 14) (v := undef) rfl (by kernel_rfl) (by kernel_rfl) (by kernel_rfl) (fun _ _ _ h => h) (Or.inr ⟨by kernel_rfl, rfl⟩) (by assumption) ?_
        try simp only [Act.put, List.setIfInBounds_toArray, List.set_cons_zero, List.set_cons_succ, List.getElem_toArray, List.getElem_cons_succ, List.getElem_cons_zero]
        refine wpAnyH_take (i := 15) (v := undef) rfl (by kernel_rfl) (by kernel_rfl) (by kernel_rfl) (fun _ _ _ h => h) (Or.inr ⟨by kernel_rfl, rfl⟩) (by assumption) ?_
        try simp only [Act.put, List.setIfInBounds_toArray, List.set_cons_zero, List.set_cons_succ, List.getElem_toArray, List.getElem_cons_succ, List.getElem_cons_zero]
        refine wpAnyH_take (i := 16) (v := ?_) rfl (by kernel_rfl) (by kernel_rfl) (by kernel_rfl) (fun _ _ _ h => h) (Or.inl ⟨by rfl, ?_⟩) (by assumption) ?_
        rotate_left
        · intro w hSw; go_simp; try with_reducible rfl
        try simp only [Act.put, List.setIfInBounds_toArray, List.set_cons_zero, List.set_cons_succ, List.getElem_toArray, List.getElem_cons_succ, List.getElem_cons_zero]
        refine wpAnyH_done (by kernel_rfl) ?_ _
        go_wp2
        go_ret
        exact ⟨rfl, HB0.out.tr (by go_simp)⟩
      have e1 : decide (t.f2 < sm) = false := decide_eq_false c1
      by_cases c2 : t.f1 < t.f2
      · have e2 : decide (t.f1 < t.f2) = true := decide_eq_true c2
        obtain rfl := no_of HR2.out (fun h => by omega)
        go_upto_region 8 with fail
        refine wp_region_held_drew (S := fun W => BW W0 W) (by kernel_rfl) (by go_simp) (fun hHeld => ?_)
        refine wpAnyH_take (i := 0) (v := ?_) rfl (by kernel_rfl) (by kernel_rfl) (by kernel_rfl) (fun _ _ _ h => h) (Or.inl ⟨by rfl, ?_⟩) (by assumption) ?_
        rotate_left
        · intro w hSw; go_simp; try with_reducible rfl
        try simp only [Act.put, List.setIfInBounds_toArray, List.set_cons_zero, List.set_cons_succ, List.getElem_toArray, List.getElem_cons_succ, List.getElem_cons_zero]
        refine wpAnyH_take (i := 2) (v := ?_) rfl (by kernel_rfl) (by kernel_rfl) (by kernel_rfl) (fun _ _ _ h => h) (Or.inl ⟨by rfl, ?_⟩) (by assumption) ?_
        rotate_left
        · intro w hSw; go_simp; try with_reducible rfl
        try simp only [Act.put, List.setIfInBounds_toArray, List.set_cons_zero, List.set_cons_succ, List.getElem_toArray, List.getElem_cons_succ, List.getElem_cons_zero]
        refine wpAnyH_take (i := 3) (v := ?_) rfl (by kernel_rfl) (by kernel_rfl) (by kernel_rfl) (fun _ _ _ h => h) (Or.inl ⟨by rfl, ?_⟩) (by assumption) ?_
        rotate_left
        · intro w hSw; go_simp; try with_reducible rfl
        try simp only [Act.put, List.setIfInBounds_toArray, List.set_cons_zero, List.set_cons_succ, List.getElem_toArray, List.getElem_cons_succ, List.getElem_cons_zero]
        refine wpAnyH_ready (rs := [1]) (by kernel_rfl) (by simp) ?_
        refine AllReadyH.cons rfl (fun K hK => ?_) AllReadyH.nil
        go_simp
        go_at_call 57; (with_reducible refine (HW.out _ hHeld).mono ?_); rintro e w2 ⟨rfl, hb2⟩
        dsimp only
        refine hK.out _ _ (hHeld.tr hb2) (fun hHeld => ?_)
        clear hK K
        try simp only [Act.put, List.setIfInBounds_toArray, List.set_cons_zero, List.set_cons_succ, List.getElem_toArray, List.getElem_cons_succ, List.getElem_cons_zero]
        refine wpAnyH_take (i := 4) (v := ?_) rfl (by kernel_rfl) (by kernel_rfl) (by kernel_rfl) (fun _ _ _ h => h) (Or.inl ⟨by rfl, ?_⟩) (by assumption) ?_
        rotate_left
        · intro w hSw; go_simp; try with_reducible rfl
        try simp only [Act.put, List.setIfInBounds_toArray, List.set_cons_zero, List.set_cons_succ, List.getElem_toArray, List.getElem_cons_succ, List.getElem_cons_zero]
        refine wpAnyH_take (i := 5) (v := ?_) rfl (by kernel_rfl) (by kernel_rfl) (by kernel_rfl) (fun _ _ _ h => h) (Or.inl ⟨by rfl, ?_⟩) (by assumption) ?_
        rotate_left
        · intro w hSw; go_simp; try with_reducible rfl
        try simp only [Act.put, List.setIfInBounds_toArray, List.set_cons_zero, List.set_cons_succ, List.getElem_toArray, List.getElem_cons_succ, List.getElem_cons_zero]
        refine wpAnyH_take (i := 6) (v := ?_) rfl (by kernel_rfl) (by kernel_rfl) (by kernel_rfl) (fun _ _ _ h => h) (Or.inl ⟨by rfl, ?_⟩) (by assumption) ?_
        rotate_left
        · intro w hSw; go_simp; try with_reducible rfl
        try simp only [Act.put, List.setIfInBounds_toArray, List.set_cons_zero, List.set_cons_succ, List.getElem_toArray, List.getElem_cons_succ, List.getElem_cons_zero]
        refine wpAnyH_take (i := 7) (v := ?_) rfl (by kernel_rfl) (by kernel_rfl) (by kernel_rfl) (fun _ _ _ h => h) (Or.inl ⟨by rfl, ?_⟩) (by assumption) ?_
        rotate_left
        · intro w hSw; go_simp; try with_reducible rfl
        try simp only [Act.put, List.setIfInBounds_toArray, List.set_cons_zero, List.set_cons_succ, List.getElem_toArray, List.getElem_cons_succ, List.getElem_cons_zero]
        refine wpAnyH_take (i := 8) (v := ?_) rfl (by kernel_rfl) (by kernel_rfl) (by kernel_rfl) (fun _ _ _ h => h) (Or.inl ⟨by rfl, ?_⟩) (by assumption) ?_
        rotate_left
        · intro w hSw; go_simp; try with_reducible rfl
        try simp only [Act.put, List.setIfInBounds_toArray, List.set_cons_zero, List.set_cons_succ, List.getElem_toArray, List.getElem_cons_succ, List.getElem_cons_zero]
        refine wpAnyH_take (i := 9) (v := ?_) rfl (by kernel_rfl) (by kernel_rfl) (by kernel_rfl) (fun _ _ _ h => h) (Or.inl ⟨by rfl, ?_⟩) (by assumption) ?_
        rotate_left
        · intro w hSw; go_simp; try with_reducible rfl
        try simp only [Act.put, List.setIfInBounds_toArray, List.set_cons_zero, List.set_cons_succ, List.getElem_toArray, List.getElem_cons_succ, List.getElem_cons_zero]
        refine wpAnyH_take (i := 10) (v := ?_) rfl (by kernel_rfl) (by kernel_rfl) (by kernel_rfl) (fun _ _ _ h => h) (Or.inl ⟨by rfl, ?_⟩) (by assumption) ?_
        rotate_left
        · intro w hSw; go_simp; try with_reducible rfl
        try simp only [Act.put, List.setIfInBounds_toArray, List.set_cons_zero, List.set_cons_succ, List.getElem_toArray, List.getElem_cons_succ, List.getElem_cons_zero]
        refine wpAnyH_take (i := 11) (v := ?_) rfl (by kernel_rfl) (by kernel_rfl) (by kernel_rfl) (fun _ _ _ h => h) (Or.inl ⟨by rfl, ?_⟩) (by assumption) ?_
        rotate_left
        · intro w hSw; go_simp; try with_reducible rfl
        try simp only [Act.put, List.setIfInBounds_toArray, List.set_cons_zero, List.set_cons_succ, List.getElem_toArray, List.getElem_cons_succ, List.getElem_cons_zero]
        refine wpAnyH_take (i := 12) (v := ?_) rfl (by kernel_rfl) (by kernel_rfl) (by kernel_rfl) (fun _ _ _ h => h) (Or.inl ⟨by rfl, ?_⟩) (by assumption) ?_
        rotate_left
        · intro w hSw; go_simp; try with_reducible rfl
        try simp only [Act.put, List.setIfInBounds_toArray, List.set_cons_zero, List.set_cons_succ, List.getElem_toArray, List.getElem_cons_succ, List.getElem_cons_zero]
        refine wpAnyH_take (i := 13) (v := undef) rfl (by kernel_rfl) (by kernel_rfl) (by kernel_rfl) (fun _ _ _ h => h) (Or.inr ⟨by kernel_rfl, rfl⟩) (by assumption) ?_
        try simp only [Act.put, List.setIfInBounds_toArray, List.set_cons_zero, List.set_cons_succ, List.getElem_toArray, List.getElem_cons_succ, List.getElem_cons_zero]
        refine wpAnyH_take (i := 14) (v := undef) rfl (by kernel_rfl) (by kernel_rfl) (by kernel_rfl) (fun _ _ _ h => h) (Or.inr ⟨by kernel_rfl, rfl⟩) (by assumption) ?_
        try simp only [Act.put, List.setIfInBounds_toArray, List.set_cons_zero, List.set_cons_succ, List.getElem_toArray, List.getElem_cons_succ, List.getElem_cons_zero]
        refine wpAnyH_take (i := 15) (v := undef) rfl (by kernel_rfl) (by kernel_rfl) (by kernel_rfl) (fun _ _ _ h => h) (Or.inr ⟨by kernel_rfl, rfl⟩) (by assumption) ?_
        try simp only [Act.put, List.setIfInBounds_toArray, List.set_cons_zero, List.set_cons_succ, List.getElem_toArray, List.getElem_cons_succ, List.getElem_cons_zero]
        refine wpAnyH_take (i := 16) (v := ?_) rfl (by kernel_rfl) (by kernel_rfl) (by kernel_rfl) (fun _ _ _ h => h) (Or.inl ⟨by rfl, ?_⟩) (by assumption) ?_
        rotate_left
        · intro w hSw; go_simp; try with_reducible rfl
        try simp only [Act.put, List.setIfInBounds_toArray, List.set_cons_zero, List.set_cons_succ, List.getElem_toArray, List.getElem_cons_succ, List.getElem_cons_zero]
        refine wpAnyH_done (by kernel_rfl) ?_ _
        go_wp2
        go_ret
        exact ⟨rfl, HB0.out.tr (by go_simp)⟩
      have e2 : decide (t.f1 < t.f2) = false := decide_eq_false c2
      by_cases c3 : 10000 < t.f1
      · have e3 : decide (10000 < t.f1) = true := decide_eq_true c3
        obtain rfl := no_of HR2.out (fun h => by omega)
        go_upto_region 8 with fail
        go_region_held3 (fun W => BW W0 W) (go_simp) ((first | (go_at_call 57; (with_reducible refine (HW.out _ (by go_simp)).mono ?_); rintro e w2 ⟨rfl, hb2⟩; have hB2 := BW.tr (w := W0) (by go_simp) hb2) | fail))
        go_wp2
        go_ret
        exact ⟨rfl, HB0.out.tr (by go_simp)⟩
      have e3 : decide (10000 < t.f1) = false := decide_eq_false c3
      have HR3 := Aside0.mk (show r = true ↔ ((t.f3 = 0 ∧ t.f4 = 0 ∧ t.f5 = 0) ∨ (t.f3 = 1 ∧ 0 ≤ t.f4 ∧ t.f4 ≤ 10000 ∧ t.f5 = 0) ∨ (t.f3 = 2 ∧ t.f4 = 0 ∧ 0 ≤ t.f5 ∧ t.f5 ≤ p)) by
        rw [HR2.out]; exact ⟨fun h => h.2.2.2, fun h => ⟨by omega, by omega, by omega, h⟩⟩)
      clear HR2 c1 c2 c3
      go_upto_region 8 with fail
      go_region_held3 (fun W => BW W0 W) (go_simp) ((first | (go_at_call 57; (with_reducible refine (HW.out _ (by go_simp)).mono ?_); rintro e w2 ⟨rfl, hb2⟩; have hB2 := BW.tr (w := W0) (by go_simp) hb2) | fail))
      clear HW
      by_cases m0 : t.f3 = 0
      · have g0 : (t.f3 == 0) = true := by simpa using m0
        generalize q4 : (t.f4 == 0) = b4 at *
        generalize q5 : (t.f5 == 0) = b5 at *
        obtain rfl : (b4 && b5) = r := by
          rw [Bool.eq_iff_iff, HR3.out, Bool.and_eq_true, ← q4, ← q5]
          simp [m0]
        clear HR3
        cases b4 with
        | false =>
          go_wp2
          go_ret
          exact ⟨rfl, HB0.out.tr (by go_simp)⟩
        | true =>
          go_wp2
          go_ret
          exact ⟨rfl, HB0.out.tr (by go_simp)⟩
      have g0 : (t.f3 == 0) = false := by simpa using m0
      by_cases m1 : t.f3 = 1
      · have g1 : (t.f3 == 1) = true := by simpa using m1
        have hj : BW W0 w2 := by go_simp
        obtain ⟨b4, q4⟩ : ∃ b, decide (0 ≤ t.f4 ∧ t.f4 ≤ 10000) = b := ⟨_, rfl⟩
        have HIN := Aside0.mk (fun W => in_calls W t.f4 0 10000 b4 q4)
        generalize q5 : (t.f5 == 0) = b5 at *
        obtain rfl : (b4 && b5) = r := by
          rw [Bool.eq_iff_iff, HR3.out, Bool.and_eq_true, ← q4, ← q5]
          simp [m1, and_assoc]
        clear HR3 q4
        cases b4 with
        | false =>
          go_wp2_with (go_at_call 28; (with_reducible refine (HIN.out _).mono ?_); rintro e w3 ⟨rfl, hb3⟩; have hB3 := hj.tr hb3)
          go_ret
          exact ⟨rfl, HB0.out.tr hB3⟩
        | true =>
          go_wp2_with (go_at_call 28; (with_reducible refine (HIN.out _).mono ?_); rintro e w3 ⟨rfl, hb3⟩; have hB3 := hj.tr hb3)
          go_ret
          exact ⟨rfl, HB0.out.tr hB3⟩
      have g1 : (t.f3 == 1) = false := by simpa using m1
      by_cases m2 : t.f3 = 2
      · have g2 : (t.f3 == 2) = true := by simpa using m2
        generalize q4 : (t.f4 == 0) = b4 at *
        generalize q5 : decide (0 ≤ t.f5) = b5 at *
        generalize q6 : decide (t.f5 ≤ p) = b6 at *
        obtain rfl : (b4 && (b5 && b6)) = r := by
          rw [Bool.eq_iff_iff, HR3.out, Bool.and_eq_true, Bool.and_eq_true, ← q4, ← q5, ← q6]
          simp [m2]
        clear HR3
        cases b4 with
        | false =>
          go_wp2
          go_ret
          exact ⟨rfl, HB0.out.tr (by go_simp)⟩
        | true =>
          cases b5 with
          | false =>
            go_wp2
            go_ret
            exact ⟨rfl, HB0.out.tr (by go_simp)⟩
          | true =>
            go_wp2
            go_ret
            exact ⟨rfl, HB0.out.tr (by go_simp)⟩
      have g2 : (t.f3 == 2) = false := by simpa using m2
      obtain rfl := no_of HR3.out (fun h => by omega)
      go_wp2
      go_ret
      exact ⟨rfl, HB0.out.tr (by go_simp)⟩
set_option maxHeartbeats 16000000 in
set_option maxRecDepth 100000 in
theorem rAll_calls (w : World) (rl : Int) (A : Option Addr) (c : Nat) (T : List S46) (hC0 : Kd.C k46 w A T.length T) (hs : ∀ t ∈ T, t.f0.size ≤ 9223372036854775807) (r : Bool) (hr : r = true ↔ SetOK rl T) : Calls Tryz.prog 15 #[.agg #[.int .i64 rl, .slice A T.length c]] w (Gives w (.bool r)) := by
  have hu24 := Tryz.underlying24
  have hu46 := Tryz.underlying46
  obtain ⟨W0, e0, hb0, bx, eb, cb⟩ := box24 w rl A T.length c
  have hB : BW W0 W0 := BW.rfl' W0
  have HC := Aside0.mk (Kd.C_below hC0 hb0)
  have HB0 := Aside0.mk hb0
  have HS := Aside0.mk hs
  clear hC0 hs
  by_cases hrl : 0 ≤ rl ∧ rl ≤ 10000
  case neg =>
    have HIN := Aside0.mk (fun W => in_calls W rl 0 10000 false (decide_eq_false hrl))
    obtain rfl := no_of hr (fun h => hrl ⟨h.1, h.2.1⟩)
    clear hr
    go_enter Tryz.func15, Tryz.ntmps15
    go_wp2_with (go_at_call 28; (with_reducible refine (HIN.out _).mono ?_); rintro e w1 ⟨rfl, hb1⟩; have hB1 := hB.tr hb1)
    go_ret
    exact ⟨rfl, HB0.out.tr hB1⟩
  have HIN := Aside0.mk (fun W => in_calls W rl 0 10000 true (decide_eq_true hrl))
  by_cases h1 : (T.length : Int) < 1
  · have d1 : decide ((T.length : Int) < 1) = true := decide_eq_true h1
    obtain rfl := no_of hr (fun h => by have := h.2.2.1; omega)
    clear hr
    go_enter Tryz.func15, Tryz.ntmps15
    go_wp2_with (go_at_call 28; (with_reducible refine (HIN.out _).mono ?_); rintro e w1 ⟨rfl, hb1⟩; have hB1 := hB.tr hb1)
    go_ret
    exact ⟨rfl, HB0.out.tr hB1⟩
  have d1 : decide ((T.length : Int) < 1) = false := decide_eq_false h1
  by_cases h8 : 8 < (T.length : Int)
  · have d8 : decide (8 < (T.length : Int)) = true := decide_eq_true h8
    have d8' : decide (8 < T.length) = true := decide_eq_true (by omega)
    obtain rfl := no_of hr (fun h => by have := h.2.2.2.1; omega)
    clear hr
    go_enter Tryz.func15, Tryz.ntmps15
    go_wp2_with (go_at_call 28; (with_reducible refine (HIN.out _).mono ?_); rintro e w1 ⟨rfl, hb1⟩; have hB1 := hB.tr hb1)
    go_ret
    exact ⟨rfl, HB0.out.tr hB1⟩
  have d8 : decide (8 < (T.length : Int)) = false := decide_eq_false h8
  have d8' : decide (8 < T.length) = false := decide_eq_false (by omega)
  have HR := Aside0.mk (show r = true ↔ ((∀ i : Int, 0 ≤ i → i < T.length → TaskOK (rd_T46 T i) i) ∧ ∀ i : Nat, i < T.length → ∀ j : Nat, j < i → (rd_T46 T (j : Int)).f0.toList ≠ (rd_T46 T (i : Int)).f0.toList) by
    rw [hr]; exact ⟨fun h => h.2.2.2.2, fun h => ⟨hrl.1, hrl.2, by omega, by omega, h⟩⟩)
  have hl8 : T.length ≤ 8 := by omega
  clear hr hrl h1 h8
  go_enter Tryz.func15, Tryz.ntmps15
  go_upto_region 4 with (go_at_call 28; (with_reducible refine (HIN.out _).mono ?_); rintro e w1 ⟨rfl, hb1⟩; have hB1 := hB.tr hb1)
  clear HIN d1 d8 d8'
  go_loopg [3] (T.length + 1) (fun kq v3 w' => ∃ i : Nat, v3 = .int .i64 (i : Int) ∧ Aside0 (kq + i = T.length + 1 ∧ i ≤ T.length) ∧ Aside0 ((∀ j : Nat, j < i → TaskOK (rd_T46 T (j : Int)) (j : Int)) ∧ ∀ a : Nat, a < i → ∀ j : Nat, j < a → (rd_T46 T (j : Int)).f0.toList ≠ (rd_T46 T (a : Int)).f0.toList) ∧ BW W0 w')
  case atStart => exact ⟨0, rfl, ⟨by omega, by omega⟩, ⟨⟨fun j hj => absurd hj (Nat.not_lt_zero _), fun a ha => absurd ha (Nat.not_lt_zero _)⟩⟩, hB1⟩
  case round =>
    clear hB1
    obtain ⟨i, rfl, HK, HA, hBi⟩ := hrel
    by_cases hi : i < T.length
    · obtain ⟨ad, A6, c6, rfl, hl6, hC6, hx⟩ := at46 HC.out i hi
      have i0 : 0 ≤ (i : Int) := by omega
      have i1 : (i : Int) < (T.length : Int) := by omega
      have i2 : (i : Int) ≤ 8 := by omega
      have hd1 : decide ((i : Int) < (T.length : Int)) = true := decide_eq_true i1
      have hd2 : decide (i < T.length) = true := decide_eq_true hi
      have hsz := HS.out _ (show rd_T46 T (i : Int) ∈ T by unfold rd_T46; rw [Int.toNat_natCast, List.getD_eq_getElem?_getD, List.getElem?_eq_getElem hi]; exact List.getElem_mem hi)
      by_cases hok : TaskOK (rd_T46 T (i : Int)) (i : Int)
      case neg =>
        obtain rfl := no_of HR.out (fun h => hok (h.1 (i : Int) i0 i1))
        have HI := Aside0.mk (fun W (h : BW W0 W) => isT_calls W (rd_T46 T (i : Int)) A6 c6 (i : Int) (Kd.C_below hC6 h) hsz false ⟨fun h => (by cases h), fun h => absurd h hok⟩)
        clear hok HA hC6 hl6
        generalize rd_T46 T (i : Int) = t at *
        go_wp2_with (go_at_call 29; (with_reducible refine (HI.out _ hBi).mono ?_); rintro e w2 ⟨rfl, hb2⟩; have hB2 := hBi.tr hb2)
        go_ret
        exact ⟨rfl, HB0.out.tr hB2⟩
      have HI := Aside0.mk (fun W (h : BW W0 W) => isT_calls W (rd_T46 T (i : Int)) A6 c6 (i : Int) (Kd.C_below hC6 h) hsz true ⟨fun _ => hok, fun _ => rfl⟩)
      have HA2 := Aside0.mk (show ∀ j : Nat, j < i + 1 → TaskOK (rd_T46 T (j : Int)) (j : Int) from fun j hj => by
        by_cases e : j = i
        · rw [e]; exact hok
        · exact HA.out.1 j (by omega))
      have HA3 := Aside0.mk HA.out.2
      obtain ⟨gm, hgm⟩ : ∃ m, gk - 1 = m := ⟨_, rfl⟩
      have HG := Aside0.mk (show gm + (i + 1) = T.length + 1 ∧ i + 1 ≤ T.length by have := HK.out; omega)
      have HM := Aside0.mk (show gm < gk by have := HK.out; omega)
      clear hok HA hC6 hl6 hsz hgm
      obtain ⟨t, ht⟩ : ∃ t, rd_T46 T (i : Int) = t := ⟨_, rfl⟩
      rw [ht] at HI hx
      go_upto_region 9 with (go_at_call 29; (with_reducible refine (HI.out _ hBi).mono ?_); rintro e w2 ⟨rfl, hb2⟩; have hB2 := hBi.tr hb2)
      clear HI
      replace ht := Aside0.mk ht
      go_loopg [4] (i + 1) (fun kq v4 w' => ∃ k : Nat, v4 = .int .i64 (k : Int) ∧ Aside0 (kq + k = i + 1 ∧ k ≤ i) ∧ Aside0 (∀ j : Nat, j < k → (rd_T46 T (j : Int)).f0.toList ≠ t.f0.toList) ∧ BW W0 w')
      case atStart => exact ⟨0, rfl, ⟨by omega, by omega⟩, ⟨fun j hj => absurd hj (Nat.not_lt_zero _)⟩, hB2⟩
      case round =>
        clear hB2
        obtain ⟨k, rfl, HKk, HN, hBk⟩ := hrel
        by_cases hk : k < i
        · obtain ⟨ad2, A7, c7, hh, hl7, hC7, hy⟩ := at46 HC.out k (by omega)
          obtain rfl := Option.some.inj hh
          have k0 : 0 ≤ (k : Int) := by omega
          have k1 : (k : Int) < (T.length : Int) := by omega
          have k2 : (k : Int) < (i : Int) := by omega
          have hd3 : decide ((k : Int) < (i : Int)) = true := decide_eq_true k2
          have hd4 : decide (k < i) = true := decide_eq_true hk
          have HG2 := Aside0.mk (show gk - 1 + (k + 1) = i + 1 ∧ k + 1 ≤ i by have := HKk.out; omega)
          have HM2 := Aside0.mk (show gk - 1 < gk by have := HKk.out; omega)
          clear hh hl7 hC7
          by_cases he : (rd_T46 T (k : Int)).f0.toList = t.f0.toList
          · have q1 : ((rd_T46 T (k : Int)).f0.toList == t.f0.toList) = true := beq_iff_eq.mpr he
            obtain rfl := no_of HR.out (fun h => h.2 i hi k hk (by rw [ht.out]; exact he))
            generalize rd_T46 T (k : Int) = u at *
            go_upto_region 11 with fail
            go_quiet (fail)
            go_wp2
            go_ret
            exact ⟨rfl, HB0.out.tr (by go_simp)⟩
          · have q1 : ((rd_T46 T (k : Int)).f0.toList == t.f0.toList) = false := beq_eq_false_iff_ne.mpr he
            have HN2 := Aside0.mk (show ∀ j : Nat, j < k + 1 → (rd_T46 T (j : Int)).f0.toList ≠ t.f0.toList from fun j hj => by
              by_cases e : j = k
              · rw [e]; exact he
              · exact HN.out j (by omega))
            clear he HN
            generalize rd_T46 T (k : Int) = u at *
            go_upto_region 11 with fail
            go_quiet (fail)
            go_wp2
            go_roundg (gk - 1)
            case measure => exact HM2.out
            case rel => exact ⟨k + 1, rfl, HG2, HN2, by go_simp⟩
        · have hd3 : decide ((k : Int) < (i : Int)) = false := decide_eq_false (by omega)
          have hd4 : decide (k < i) = false := decide_eq_false hk
          have HA4 := Aside0.mk (show ∀ a : Nat, a < i + 1 → ∀ j : Nat, j < a → (rd_T46 T (j : Int)).f0.toList ≠ (rd_T46 T (a : Int)).f0.toList from fun a ha j hj => by
            by_cases e : a = i
            · rw [e, ht.out]; exact HN.out j (by have := HKk.out; omega)
            · exact HA3.out a (by omega) j hj)
          go_wp2
          go_roundg gm
          case measure => exact HM.out
          case rel => exact ⟨i + 1, rfl, HG, ⟨⟨HA2.out, HA4.out⟩⟩, hBk⟩
    · have hd1 : decide ((i : Int) < (T.length : Int)) = false := decide_eq_false (by omega)
      have hd2 : decide (i < T.length) = false := decide_eq_false hi
      obtain rfl : r = true := HR.out.2 ⟨fun a h0 h1 => by
        obtain ⟨q, rfl⟩ := Int.eq_ofNat_of_zero_le h0
        exact HA.out.1 q (by have := HK.out; omega), fun a ha => HA.out.2 a (by have := HK.out; omega)⟩
      go_wp2
      go_ret
      exact ⟨rfl, HB0.out.tr hBi⟩
end Go.Proofs.YtaofmmnfenlofaaGreatDoor.QTc
namespace Go.Proofs.YtaofmmnfenlofaaGreatDoor.QTc
open Go.RowKit Go.Proofs.YtaofmmnfenlofaaGreatDoorW.PrintWords Go.Proofs.YtaofmmnfenlofaaGreatDoorW.PrintLast Go.Proofs.YtaofmmnfenlofaaGreatDoorW.PrintMore Go.Proofs.YtaofmmnfenlofaaGreatDoor.Pure
set_option linter.unusedVariables false
def doneF (j : Int) : List S43 → Bool → Bool
  | [], d => d
  | e :: l, d => if e.f1 = 1 ∧ e.f2 = j then d else doneF j l (d || (decide (e.f2 = j) && (decide (e.f1 = 8) || decide (e.f1 = 9))))
theorem doneF_true (j : Int) : ∀ l, doneF j l true = true
  | [] => rfl
  | e :: l => by
    unfold doneF
    split
    · rfl
    · exact doneF_true j l
def LawE (T : List S46) : (Int → Int) → List S43 → Prop
  | o, [] => True
  | o, e :: l => (0 ≤ e.f0 ∧ e.f0 ≤ 1000) ∧ e.f1 ≠ 3 ∧ (e.f2 = -1 ∨ 0 ≤ e.f2 ∧ e.f2 < (T.length : Int)) ∧ (e.f1 = 1 → 0 ≤ e.f2 ∧ (rd_T46 T e.f2).f1 ≤ e.f0 - o e.f2) ∧ (e.f1 = 2 → 0 ≤ e.f2 ∧ e.f3 = 1 ∧ e.f0 - o e.f2 < (rd_T46 T e.f2).f1) ∧ LawE T (if e.f1 = 1 then fun x => if x = e.f2 then e.f0 else o x else o) l
theorem oth_ne {k : Int} (h : 4 ≤ k ∧ k ≤ 7 ∨ k = 10) : k ≠ 1 ∧ k ≠ 2 ∧ k ≠ 3 ∧ k ≠ 8 ∧ k ≠ 9 := by omega
section
variable {n : Nat} {R Tt : Nat → Int} {p q p' q' : PW} {l : List S43}
theorem Chain.done (h : Chain n R Tt p q l p' q') : ∀ (j : Nat) (a : Int), p j = some a → p' j = some a ∨ ∀ d, doneF (j : Int) l d = true := by
  induction h with
  | nil => exact fun j a h => Or.inl h
  | @cons p q p1 q1 p2 q2 e l ht he hc ih =>
    intro j a hj
    have go : p1 j = some a → ¬ (e.f1 = 1 ∧ e.f2 = (j : Int)) → p2 j = some a ∨ ∀ d, doneF (j : Int) (e :: l) d = true := fun x y => (ih j a x).imp id fun z d => by
      unfold doneF
      rw [if_neg y]; exact z _
    cases he with
    | addS t j' h1 h2 h3 =>
      have hne : j ≠ j' := fun x => by subst x; rw [h2] at hj; cases hj
      exact go (by rw [Time.upd_ne _ _ hne]; exact hj) (fun x => hne (by have h4 : (j' : Int) = (j : Int) := x.2; omega))
    | done t k x j' a' hk h1 h2 h3 =>
      by_cases hne : j = j'
      · subst hne
        refine Or.inr fun d => ?_
        unfold doneF
        rw [if_neg (fun x => by have h4 : k = 1 := x.1; omega)]
        have e1 : (d || (decide ((j : Int) = (j : Int)) && (decide (k = 8) || decide (k = 9)))) = true := by
          rcases hk with rfl | rfl <;> simp
        show doneF (j : Int) l (d || (decide ((j : Int) = (j : Int)) && (decide (k = 8) || decide (k = 9)))) = true
        rw [e1]; exact doneF_true _ l
      · exact go (by rw [Time.upd_ne _ _ hne]; exact hj) (fun x => by have h4 : k = 1 := x.1; omega)
    | early t j' a' h1 h2 h3 => exact go hj (fun x => by have h4 : (2 : Int) = 1 := x.1; omega)
    | other t k y x h1 h2 => exact go hj (fun x => absurd x.1 (oth_ne h1).1)
theorem Chain.law {T : List S46} {R : Nat → Int} (h : Chain T.length R (fun j => (rd_T46 T (j : Int)).f1) p q l p' q') (hTt : ∀ j : Nat, j < T.length → (rd_T46 T (j : Int)).f1 ≤ 10000) : ∀ o : Int → Int, (∀ j : Nat, o (j : Int) = (q j).getD (-1099511627776)) → LawE T o l := by
  generalize hTT : (fun j : Nat => (rd_T46 T (j : Int)).f1) = Tt at h
  generalize hn : T.length = n at h
  induction h with
  | nil => exact fun o ho => trivial
  | @cons p q p1 q1 p2 q2 e l ht he hc ih =>
    intro o ho
    cases he with
    | addS t j' h1 h2 h3 =>
      refine ⟨ht, by show (1 : Int) ≠ 3; omega, Or.inr ⟨by show 0 ≤ (j' : Int); omega, by show (j' : Int) < _; omega⟩, fun _ => ⟨by show 0 ≤ (j' : Int); omega, ?_⟩, fun x => by have h4 : (1 : Int) = 2 := x; omega, ?_⟩
      · show (rd_T46 T (j' : Int)).f1 ≤ t - o (j' : Int)
        have ht' : 0 ≤ t := ht.1
        rw [ho]
        have := hTt j' (by omega)
        cases hq : q j' with
        | none => show _ ≤ t - -1099511627776; omega
        | some a =>
          have := h3 a hq
          rw [← hTT] at this
          dsimp only at this
          show _ ≤ t - a
          omega
      · show LawE T (if (1 : Int) = 1 then _ else o) l
        rw [if_pos rfl]
        refine ih _ fun j => ?_
        dsimp only
        unfold Time.upd
        by_cases e : j = j'
        · subst e; rw [if_pos rfl, if_pos rfl]; rfl
        · rw [if_neg (by omega), if_neg e, ho]
    | done t k x j' a' hk h1 h2 h3 =>
      refine ⟨ht, by show k ≠ 3; omega, Or.inr ⟨by show 0 ≤ (j' : Int); omega, by show (j' : Int) < _; omega⟩, fun x => by have h4 : k = 1 := x; omega, fun x => by have h4 : k = 2 := x; omega, ?_⟩
      show LawE T (if k = 1 then _ else o) l
      rw [if_neg (by omega)]; exact ih o ho
    | early t j' a' h1 h2 h3 =>
      refine ⟨ht, by show (2 : Int) ≠ 3; omega, Or.inr ⟨by show 0 ≤ (j' : Int); omega, by show (j' : Int) < _; omega⟩, fun x => by have h4 : (2 : Int) = 1 := x; omega, fun _ => ⟨by show 0 ≤ (j' : Int); omega, rfl, ?_⟩, ?_⟩
      · show t - o (j' : Int) < (rd_T46 T (j' : Int)).f1
        rw [ho, h2, ← congrFun hTT j'] at *
        show t - a' < _
        have h3' : t < a' + (rd_T46 T (j' : Int)).f1 := h3
        omega
      · show LawE T (if (2 : Int) = 1 then _ else o) l
        rw [if_neg (by omega)]; exact ih o ho
    | other t k y x h1 h2 =>
      refine ⟨ht, (oth_ne h1).2.2.1, ?_, fun x => absurd x (oth_ne h1).1, fun x => absurd x (oth_ne h1).2.1, ?_⟩
      · rcases h2 with h2 | ⟨j, h2, h3⟩
        · exact Or.inl h2
        · exact Or.inr ⟨by show 0 ≤ y; omega, by show y < _; omega⟩
      · show LawE T (if k = 1 then _ else o) l
        rw [if_neg (oth_ne h1).1]; exact ih o ho
theorem LawE.late {T : List S46} : ∀ {l : List S43} {o : Int → Int}, LawE T o l → ∀ e ∈ l, e.f1 ≠ 3
  | [], o, h, e, he => by cases he
  | x :: l, o, h, e, he => by
    rcases List.mem_cons.1 he with rfl | he
    · exact h.2.1
    · exact LawE.late h.2.2.2.2.2 e he
end
section
variable {rl : Int} {T : List S46} {B L R : Nat → Nat} {F : Nat → Nat → Nat} {A : KA} {i : Nat} {outs : List S43}
theorem RunOK.law (hZ : SetT rl T B L R F) (h : RunOK rl T B L R F i outs A) : LawE T (fun _ => -1099511627776) outs :=
  h.ch.law (fun j hj => (hZ.per j hj).2) _ fun j => rfl
end
end Go.Proofs.YtaofmmnfenlofaaGreatDoor.QTc
namespace Go.Proofs.YtaofmmnfenlofaaGreatDoor.QTc
open Go.RowKit Go.Proofs.YtaofmmnfenlofaaGreatDoorW.PrintWords Go.Proofs.YtaofmmnfenlofaaGreatDoorW.PrintLast Go.Proofs.YtaofmmnfenlofaaGreatDoorW.PrintMore Go.Proofs.YtaofmmnfenlofaaGreatDoor.Pure
set_option linter.unusedVariables false
set_option linter.unusedSimpArgs false
theorem goA_len (rl : Int) (T : List S46) (tn : Nat) (A : KA) (r : Int) : (goA rl T tn A r).evs.length ≤ A.evs.length + 4 := by
  unfold goA
  split
  · simp [KA.note]
  · have h := turn_len rl T A r
    have h2 : (QTc.touchA T tn (turn2 rl (QTc.turn1 T A r) r) r).evs = (turn2 rl (QTc.turn1 T A r) r).evs := rfl
    generalize QTc.touchA T tn (turn2 rl (QTc.turn1 T A r) r) r = A2 at h2 ⊢
    rw [← h2] at h
    unfold runA
    split
    · show A2.evs.length ≤ _; omega
    · unfold endA
      split
      · simp only [KA.note, List.length_append, List.length_singleton]; omega
      · split
        · simp only [KA.note, KA.drop, List.length_append, List.length_singleton]; omega
        · split
          · simp only [KA.note, KA.drop, List.length_append, List.length_singleton]; omega
          · show A2.evs.length ≤ _; omega
theorem mid_len (T : List S46) (D : List (List Int)) (s : Nat) (A : KA) (h8 : T.length ≤ 8) : (midA T D s A).evs.length ≤ 72 := by
  have h2 := arriveA_len T D (listFrom s 64 0) (lateA T T.length 0 { A with evs := [] })
  have h3 := lateA_len T T.length 0 { A with evs := [] }
  have h4 := listFrom_le s 64 0
  exact Nat.le_trans h2 (Nat.le_trans (Nat.add_le_add h3 (Nat.le_refl _)) (by show 0 + T.length + (listFrom s 64 0).length ≤ 72; omega))
theorem KpT.rowEv {B0 : Bs} {w w' : World} {ts : List Nat} (h : KpT B0 w w' ts) {base : Nat} {ok : Nat → Prop} {v : Value} {xs : List S43} (hr : Kd.R k43 43 w base ok v xs) (he : w.heap.size ≤ B0.e) : Kd.R k43 43 w' base ok v xs := by
  refine Kd.R_mono (Kd.R_step (Kd.R_bound hr) (fun k hk hlt => ?_)) (fun _ hk => hk.1)
  obtain ⟨_, _, _, q, hq, cs, hcs⟩ := hk
  rw [List.mem_singleton.mp hq] at hcs
  exact (h.evs hcs (Nat.lt_of_lt_of_le hlt he)).trans hcs.symm
theorem KInv.out {B0 : Bs} {w w' : World} {g : Nat} {rl : Int} {T : List S46} {L : KL} {K : KS} {ev : Value} (h : KInv B0 w g rl T L K ev none) {v : Value} {xs : List S43} (hr : Kd.R k43 43 w B0.b (fun _ => True) v xs) (hv : ∀ k, v.ownBlock = some k → k < B0.e) (hg : w.grownBy w' v.ownBlock) : KInv (bsN B0.b) w' g rl T L K ev none := by
  have h2 : KInv (bsN B0.b) w g rl T L K ev none := h.rebase rfl (Kd.R_lower h.evs B0.le)
  have hk : KpT (bsN B0.b) w w' [96, 43] := ⟨fun k => some k = v.ownBlock, Kp.of_grown hg (fun k e _ => e.symm), fun k hk hlt => by
    obtain ⟨_, inner, ho, _⟩ := hr
    obtain ⟨cs, hcs⟩ := own_typed ho k hk.symm
    exact ⟨own_base ho k hk.symm, cs, 43, hcs, by simp, fun _ => own_base ho k hk.symm⟩⟩
  refine h2.setKer hk rfl rfl rfl rfl ?_ ?_
  · exact blk_grown h.ker hg (Kd.R_ne hr h.ker (by decide))
  · refine Kd.R_lower (Kd.R_mono (Kd.R_grown (Kd.R_bound h.evs) hg (fun k hk e => ?_)) (fun _ _ => trivial)) B0.le
    have := hv k e.symm
    have := hk.2.1
    omega
theorem R_own {α : Type} {d : Kd α} {e B0 : Nat} {w : World} {ok : Nat → Prop} {v : Value} {xs : List α} (h : Kd.R d e w B0 ok v xs) : ∃ inner, w.ownsRow B0 e d.sz v xs.length inner := by
  obtain ⟨_, inner, ho, _⟩ := h
  exact ⟨inner, ho⟩
structure RI (w : World) (b g : Nat) (rl : Int) (T : List S46) (B Lb R : Nat → Nat) (F : Nat → Nat → Nat) (L : KL) (i : Nat) (A : Option Addr) (c : Nat) (outs : List S43) (K : KS) (ev : Value) (W : World) : Prop where
  inv : KInv (bsN b) W g rl T L K ev none
  run : RunOK rl T B Lb R F i outs K.abs
  out : Kd.R k43 43 W b (fun _ => True) (.slice A outs.length c) outs
  len : outs.length ≤ i * 100
  hB : Below w.heap.size w W
  hb : w.heap.size ≤ b ∧ b ≤ W.heap.size
theorem ri_next {w wr w2 w9 : World} {b g : Nat} {rl : Int} {T : List S46} {B Lb R : Nat → Nat} {F : Nat → Nat → Nat} {L : KL} {i : Nat} {A A9 : Option Addr} {c q9 : Nat} {outs : List S43} {K K2 : KS} {ev ev2 : Value} {hbw : b ≤ wr.heap.size}
    (h : RI w b g rl T B Lb R F L i A c outs K ev wr) (hk2 : KInv ⟨b, wr.heap.size, hbw⟩ w2 g rl T L K2 ev2 none) (ho2 : Kd.R k43 43 w2 b (fun _ => True) (.slice A outs.length c) outs) (hkt : KpT ⟨b, wr.heap.size, hbw⟩ wr w2 TsAll)
    (hnx : RunOK rl T B Lb R F (i + 1) (outs ++ K2.evs) K2.abs) (hle : K2.evs.length ≤ 76) (hR9 : Kd.R k43 43 w9 b (fun _ => True) (.slice A9 (outs ++ K2.evs).length q9) (outs ++ K2.evs)) (hB9 : Below b w2 w9) (hg9 : w2.grownBy w9 (Value.slice A outs.length c).ownBlock) :
    RI w b g rl T B Lb R F L (i + 1) A9 q9 (outs ++ K2.evs) K2 ev2 w9 := by
  have h1 := KInv.out hk2 ho2 (fun k hk => own_lt_R h.out k hk) hg9
  have hs := hkt.size
  have hs2 := hB9.size
  refine ⟨h1, hnx, hR9, ?_, (h.hB.trans ((hkt.below hbw).mono h.hb.1)).trans (hB9.mono h.hb.1), h.hb.1, by omega⟩
  rw [List.length_append]
  have := h.len
  omega
set_option maxHeartbeats 16000000 in
set_option maxRecDepth 100000 in
theorem runT_calls (w : World) (rl : Int) (A0 : Option Addr) (c0 : Nat) (T : List S46) (AI : Option Addr) (cI : Nat) (I : List S52) (hr : Kd.C k46 w A0 T.length T) (hc : T.length ≤ c0) (h1 : 1 ≤ T.length) (h8 : T.length ≤ 8)
    (hall : ∀ W, Below w.heap.size w W → Calls Tryz.prog 20 #[.agg #[.int .i64 rl, .slice A0 T.length c0]] W fun e w' => e = .returned (.bool true) ∧ Below W.heap.size W w')
    {B Lb R : Nat → Nat} {F : Nat → Nat → Nat} (hZ : SetT rl T B Lb R F) (hper : (T.map (·.f1)).any oddTime = false)
    (hU : ∀ t ∈ T, (0 ≤ t.f7 ∧ t.f7 < 18446744073709551616) ∧ (0 ≤ t.f8 ∧ t.f8 < 18446744073709551616))
    (hI : Kd.C k52 w AI I.length I) (hcI : I.length ≤ cI) (hl : I.length ≤ 250) (hIU : ∀ x ∈ I, (0 ≤ x.f0 ∧ x.f0 < 18446744073709551616) ∧ (0 ≤ x.f2 ∧ x.f2 < 18446744073709551616)) (hTw : ∀ W, Below w.heap.size w W → TabW W) :
    Calls Tryz.prog 13 #[.agg #[.int .i64 rl, .slice A0 T.length c0], .slice AI I.length cI] w fun e w' => ∃ v evs Z, e = .returned (.tuple #[v, .bool true]) ∧ Kd.R k43 43 w' w.heap.size (fun _ => True) v evs ∧ evs.length ≤ 25000 ∧ RunOK rl T B Lb R F I.length evs Z ∧ Below w.heap.size w w' := by
  have hbo : ∀ o, Below w.heap.size w (w.alloc o) := fun o => Below.alloc (Below.refl _ _) (Nat.le_refl _) o
  have HN := Aside0.mk (kNew_calls (w.alloc (.cells #[.int .i64 rl, .slice A0 T.length c0] 24)) rl A0 c0 T (Kd.C_below hr (hbo _)) hc h1 h8 (fun W hW => hall W ((hbo _).trans (hW.mono (by simp)))) (fun t ht => ⟨(hZ.odd t ht).1, (hZ.odd t ht).2.1⟩) hper)
  have HI := Aside0.mk hI
  have HZ := Aside0.mk hZ
  have HU := Aside0.mk hU
  have HIU := Aside0.mk hIU
  have HT := Aside0.mk hTw
  have HBO := Aside0.mk hbo
  clear hr hall hZ hper hU hI hIU hTw hbo
  have hnp : ∀ (g : Nat) (w : World), (binOp .eql 65 (.pointer (some ⟨g, 0, none⟩)) (.pointer none)).run Tryz.prog w = .ok (.bool false) w := fun g w => by kernel_rfl
  go_enter Tryz.func13, Tryz.ntmps13
  go_wp2_with (go_at_call 26; (with_reducible refine HN.out.mono ?_); rintro e w1 ⟨g, L, K, ev, rfl, hk1, ha1, hb1⟩; have HB1 := Aside0.mk ((HBO.out _).trans (hb1.mono (by simp))); have HBS1 := Aside0.mk hb1.size; have HK1 := Aside0.mk hk1; have HA1 := Aside0.mk ha1; clear hk1 ha1 hb1)
  have N1 := Aside0.mk (show RI w (w.alloc (.cells #[.int .i64 rl, .slice A0 T.length c0] 24)).heap.size g rl T B Lb R F L 0 none 0 [] K ev w1 from ⟨HK1.out, HA1.out ▸ RunOK.new rl T B Lb R F, Kd.R_nil _ _ _ _ _, Nat.le_refl _, HB1.out, by simp, by have := HBS1.out; simpa using this⟩)
  generalize (w.alloc (.cells #[.int .i64 rl, .slice A0 T.length c0] 24)).heap.size = b at N1
  clear HB1 HBS1 HK1 HA1
  go_loopg [8, 9] (I.length + 1) (fun kq v8 v9 w' => ∃ (i : Nat) (A : Option Addr) (c : Nat) (outs : List S43) (K : KS) (ev : Value), kq + i = I.length + 1 ∧ v9 = .int .i64 (i : Int) ∧ v8 = .slice A outs.length c ∧ i ≤ I.length ∧ RI w b g rl T B Lb R F L i A c outs K ev w')
  case atStart => exact ⟨0, none, 0, [], K, ev, by omega, rfl, rfl, by omega, N1.out⟩
  case round =>
    clear N1
    obtain ⟨i, A, c, outs, K, ev, hq, rfl, rfl, hi, INV⟩ := hrel
    cases gk with
    | zero => exfalso; omega
    | succ k1 =>
    by_cases hlt : i < I.length
    · have hlt1 : decide ((i : Int) < (I.length : Int)) = true := decide_eq_true (by omega)
      have i0 : 0 ≤ (i : Int) := by omega
      have i1 : (i : Int) < (I.length : Int) := by omega
      obtain ⟨ad, A1, c1, rfl, d0, d1, d2, hl1, hC1⟩ := at_T52 HI.out (i : Int) i0 i1
      rw [Int.toNat_natCast] at d0 d1 d2
      have hB := INV.hB
      have hlw := World.block_lt_of_cell? w _ d0
      have hcell : ∀ {a : Addr} {v : Value}, w.cell? a = some v → wr.cell? a = some v := fun {a v} h => (hB.cell (World.block_lt_of_cell? w a h)).trans h
      have d0 := hcell d0
      have d1 := hcell d1
      have d2 := hcell d2
      have hmem : rd_T52 I (i : Int) ∈ I := by
        unfold rd_T52
        rw [Int.toNat_natCast, List.getD_eq_getElem?_getD, List.getElem?_eq_getElem hlt]; exact List.getElem_mem hlt
      obtain ⟨⟨u0, u1⟩, u2, u3⟩ := HIU.out _ hmem
      have hpm := fun s => INV.run.next HZ.out (by omega) (rd_T52 I (i : Int)).f1 s
      generalize hin : rd_T52 I (i : Int) = x at d0 d1 d2 hl1 hC1 u0 u1 u2 u3 hpm
      obtain ⟨x0, D, x2⟩ := x
      dsimp only at d0 d1 d2 hl1 hC1 u0 u1 u2 u3 hpm
      obtain ⟨s, rfl⟩ := Int.eq_ofNat_of_zero_le u0
      obtain ⟨tn, rfl⟩ := Int.eq_ofNat_of_zero_le u2
      have hbw : b ≤ wr.heap.size := INV.hb.2
      have HST := Aside0.mk (step_calls (bsN b) ⟨b, wr.heap.size, hbw⟩ wr g rl T L K ev s A1 c1 D tn (fun W hW => HT.out _ (hB.trans ((hW.below hbw).mono INV.hb.1))) INV.inv rfl (Nat.le_refl _) (by omega) (by omega) (fun W hW => Kd.C_below hC1 (hB.trans ((hW.below hbw).mono INV.hb.1))) (by rw [show K.tick = K.abs.tick from rfl, INV.run.tick]; omega) (by rw [show K.tick = K.abs.tick from rfl, INV.run.tick]; omega) HZ.out.odd HU.out (hpm s).1)
      have HI2 := Aside0.mk INV
      have HPM := Aside0.mk ((hpm s).2)
      have HML := Aside0.mk (mid_len T D s K.abs h8)
      generalize midA T D s K.abs = A2 at HST HPM HML
      clear INV hB hcell hpm hmem hC1 hin u0 u2
      go_wp2_with (first | (go_at_call 27; (with_reducible refine HST.out.mono ?_); rintro e w2 ⟨r, hcr, hwho, ⟨K2, ev2, rfl, hk2, ha2⟩, hkt⟩; obtain ⟨A3, c3, rfl⟩ := Kd.R_slice hk2.evs; have HR3 := Aside0.mk (Kd.R_reads' hk2.evs).2.2; have HO2 := Aside0.mk (hkt.rowEv HI2.out.out (Nat.le_refl _)); have HK2 := Aside0.mk hk2; have HKT := Aside0.mk hkt; have HNX := Aside0.mk (show RunOK rl T B Lb R F (i + 1) (outs ++ K2.evs) K2.abs by have h := HPM.out tn r hcr; rw [← ha2] at h; exact h); have HLE := Aside0.mk (show K2.evs.length ≤ 76 by have h1 := congrArg KA.evs ha2; have h2 := goA_len rl T tn A2 r; have h3 := HML.out; rw [show K2.evs = (goA rl T tn A2 r).evs from h1]; omega); clear hk2 ha2 hkt hcr hwho) | ((with_reducible refine gate_builtin (b := .append) (xs := #[.tmp 27, .tmp 33]) rfl ?_); at_builtin; (refine Kd.R_append_rows k43 (Rr := k43.K w2) (w0 := w2) b rfl (.tmp 27) (.tmp 33) 37 43 (.agg #[.int .i64 0, .int .i64 0, .int .i64 0, .int .i64 0]) 32 rfl Tryz.underlying37 info43k rfl (by decide) (by omega) (.slice A outs.length c) outs K2.evs A3 K2.evs.length c3 (fun _ => True) (fun _ => False) rfl rfl ?aO ?aR ?aK (fun _ hk => hk.elim) (fun _ _ => trivial) ?aB ?aS ?aL ?_; (case aO => exact HO2.out); (case aR => exact HR3.out); (case aK => intro x cs h; obtain rfl := k43_open h; exact k43_mkM _ _ _ _); (case aB => exact Below.refl _ _); (case aS => have := HKT.out.size; omega); (case aL => have := HLE.out; have := HI2.out.len; omega); intro v9 w9 hR9 hB9 hg9 hat9; obtain ⟨A9, q9, rfl⟩ := Kd.R_slice hR9; have H9 := Aside0.mk (ri_next HI2.out HK2.out HO2.out HKT.out HNX.out HLE.out hR9 hB9 hg9); clear hR9 hB9 hg9 hat9)))
      go_roundg k1
      case measure => exact Nat.lt_succ_self _
      case rel => exact ⟨i + 1, A9, q9, outs ++ K2.evs, K2, _, by omega, by rw [show ((i : Int) + 1) = ((i + 1 : Nat) : Int) by omega], by rw [List.length_append], by omega, H9.out⟩
    · have hlt1 : decide ((i : Int) < (I.length : Int)) = false := decide_eq_false (by omega)
      have HI2 := Aside0.mk INV
      clear INV
      go_wp2
      go_ret2
      have h := HI2.out
      obtain rfl : i = I.length := by omega
      exact ⟨_, outs, K.abs, rfl, Kd.R_lower h.out h.hb.1, by have := h.len; omega, h.run, h.hB⟩
end Go.Proofs.YtaofmmnfenlofaaGreatDoor.QTc
namespace Go.Proofs.YtaofmmnfenlofaaGreatDoor.QTc
open Go.RowKit Go.Proofs.YtaofmmnfenlofaaGreatDoorW.PrintWords Go.Proofs.YtaofmmnfenlofaaGreatDoorW.PrintLast Go.Proofs.YtaofmmnfenlofaaGreatDoorW.PrintMore
set_option linter.unusedVariables false
set_option linter.unusedSimpArgs false
theorem fld30_0 (a b c : Value) (w : World) : Sem.run Tryz.prog (Instr.field 30 (Value.agg #[a, b, c]) 0) w = Result.ok a w := by kernel_rfl
attribute [local go_sem] below_alloc below_drew1 pw_below_drewN fld30_0
theorem lawE_late {T : List S46} : ∀ {l : List S43} {o : Int → Int}, LawE T o l → ∀ x ∈ l, x.f1 ≠ 3
  | [], _, _, x, hx => (by cases hx)
  | e :: l, o, h, x, hx => by
    obtain ⟨_, h3, _, _, _, hr⟩ := h
    rcases List.mem_cons.1 hx with rfl | hx
    · exact h3
    · exact lawE_late hr x hx
theorem at43k {w : World} {A : Option Addr} {n : Nat} {E : List S43} (h : Kd.C k43 w A n E) (k : Nat) (hk : k < n) : ∃ ad, A = some ad ∧ ∀ W, BW w W → W.cell? ⟨(ad.add (k * 4)).block, (ad.add (k * 4)).off + 1, none⟩ = some (.int .i64 (rd_T43 E (k : Int)).f1) := by
  obtain ⟨ad, rfl, d0, d1, d2, d3⟩ := at_T43 h (k : Int) (by omega) (by omega)
  rw [Int.toNat_natCast] at d1
  exact ⟨ad, rfl, fun W hb => pw_cell_below hb d1⟩
set_option maxHeartbeats 16000000 in
set_option maxRecDepth 100000 in
theorem timely_calls (w : World) (rl : Int) (A0 : Option Addr) (c0 : Nat) (T : List S46) (AI : Option Addr) (cI : Nat) (I : List S52) (hT : TabW w) (hr : Kd.C k46 w A0 T.length T) (hc : T.length ≤ c0)
    (hI : Kd.C k52 w AI I.length I) (hcI : I.length ≤ cI) (hset : TopSet.SetOK rl T) (h250 : I.length ≤ 250)
    (hU : ∀ t ∈ T, (0 ≤ t.f7 ∧ t.f7 < 18446744073709551616) ∧ (0 ≤ t.f8 ∧ t.f8 < 18446744073709551616))
    (hIU : ∀ x ∈ I, (0 ≤ x.f0 ∧ x.f0 < 18446744073709551616) ∧ (0 ≤ x.f2 ∧ x.f2 < 18446744073709551616))
    (hJ1 : (judgeL (jugL rl T) 0 []).1 = 1) :
    Calls Tryz.prog 18 #[.agg #[.int .i64 rl, .slice A0 T.length c0], .slice AI I.length cI] w (Gives w (.bool true)) := by
  have hu24 := Tryz.underlying24
  have hu30 := Tryz.underlying30
  obtain ⟨W0, e0, hb0, bx, eb, cb⟩ := box24 w rl A0 T.length c0
  have hB : BW W0 W0 := BW.rfl' W0
  have hok := jgOk_of hset hU
  have hmd := mdOk_of hset
  have h8 : T.length ≤ 8 := hset.2.2.2.1
  have h1 : 1 ≤ T.length := hset.2.2.1
  have hr0 := Kd.C_below hr hb0
  have hI0 := Kd.C_below hI hb0
  have hTw : ∀ W, BW W0 W → TabW W := fun W h => hT.below (hb0.tr h)
  have hlen : (jugL rl T).length = T.length := by unfold jugL; simp
  have hnm : ∀ t ∈ T, t.f0.size ≤ 9223372036854775807 := fun t ht => by
    obtain ⟨p, hp, _⟩ := setOK_each hset t ht
    have := hp.1.1.1
    omega
  have HA := Aside0.mk (fun W (h : BW W0 W) => rAll_calls W rl A0 c0 T (Kd.C_below hr0 h) hnm true ⟨fun _ => hset, fun _ => rfl⟩)
  have HK := Aside0.mk (fun W (h : BW W0 W) => rJudge_calls W rl A0 c0 T.length (jugL rl T) hlen h8 (fun W' i h' hi => rOf12_calls W' rl A0 c0 T i (Kd.C_below (Kd.C_below hr0 h) h') hi hok hmd))
  obtain ⟨⟨B, L, F, hZ⟩, Rl, eR, hl1, hl2, hl3⟩ := setT_of hset hU hJ1
  rw [eR] at HK
  have HRUN := Aside0.mk (fun W (h : BW W0 W) => runT_calls W rl A0 c0 T AI cI I (Kd.C_below hr0 h) hc h1 h8 (fun W2 h2 => setOK_yes rl A0 c0 T hset W2 (hTw W2 (h.tr h2)) (Kd.C_below (Kd.C_below hr0 h) h2) hc) hZ (setOK_per rl T hset) hU (Kd.C_below hI0 h) hcI h250 hIU (fun W2 h2 => hTw W2 (h.tr h2)))
  have HB0 := Aside0.mk hb0
  clear hr hI hT hok hmd hlen hl1 hl2 hl3 hr0 hI0 hTw hnm hJ1 eR
  go_enter Tryz.func18, Tryz.ntmps18
  go_upto_region 5 with (first | (go_at_call 15; (with_reducible refine (HA.out _ hB).mono ?_); rintro e w1 ⟨rfl, hb1⟩; have hB1 := hB.tr hb1) | (go_at_call 11; (with_reducible refine (HK.out _ hB1).mono ?_); rintro e w5 ⟨v5, rfl, hR5, hb5⟩; have hB5 := hB1.tr hb5; clear hR5 hb5) | (go_at_call 13; (with_reducible refine (HRUN.out _ hB5).mono ?_); rintro e w7 ⟨v7, evs, Z, rfl, hR7, hl7, hrun, hb7⟩; have hB7 := hB5.tr hb7; obtain ⟨A7, c7, rfl⟩ := Kd.R_slice hR7; have hC7 := Aside0.mk (Kd.R_reads' hR7).2.2; clear hR7 hb7))
  have HLT := Aside0.mk (lawE_late (hrun.law hZ))
  have HL7 := Aside0.mk hl7
  clear HA HK HRUN hrun hl7
  have hBB := BW.rfl' w7
  go_loopg [7] (evs.length + 1) (fun kq v7 w' => ∃ i : Nat, v7 = .int .i64 (i : Int) ∧ Aside0 (kq + i = evs.length + 1 ∧ i ≤ evs.length) ∧ BW w7 w')
  case atStart => exact ⟨0, rfl, ⟨by omega, by omega⟩, hBB⟩
  case round =>
    obtain ⟨i, rfl, HI, hBi⟩ := hrel
    by_cases hlt : i < evs.length
    · obtain ⟨ae, rfl, hx⟩ := at43k hC7.out i hlt
      have n3 : (rd_T43 evs (i : Int)).f1 ≠ 3 := HLT.out _ (by unfold rd_T43; rw [Int.toNat_natCast, List.getD_eq_getElem?_getD, List.getElem?_eq_getElem hlt]; exact List.getElem_mem hlt)
      generalize rd_T43 evs (i : Int) = e at *
      have i0 : 0 ≤ (i : Int) := by omega
      have i1 : (i : Int) < (evs.length : Int) := by omega
      have i2 : (i : Int) ≤ 25000 := by have := HL7.out; omega
      have hi' : decide ((i : Int) < (evs.length : Int)) = true := decide_eq_true i1
      have d3 : (e.f1 == 3) = false := beq_eq_false_iff_ne.mpr n3
      have HG := Aside0.mk (show gk - 1 + (i + 1) = evs.length + 1 ∧ i + 1 ≤ evs.length by have := HI.out; omega)
      have HM := Aside0.mk (show gk - 1 < gk by have := HI.out; omega)
      clear n3
      go_wp2
      go_roundg (gk - 1)
      case measure => exact HM.out
      case rel => exact ⟨i + 1, rfl, HG, hBi⟩
    · have hi' : decide ((i : Int) < (evs.length : Int)) = false := decide_eq_false (by omega)
      go_wp2
      go_ret
      exact ⟨rfl, HB0.out.tr (hB7.tr hBi)⟩
end Go.Proofs.YtaofmmnfenlofaaGreatDoor.QTc
namespace Go.Proofs.YtaofmmnfenlofaaGreatDoor.QTc
open Go.RowKit Go.Proofs.YtaofmmnfenlofaaGreatDoorW.PrintWords Go.Proofs.YtaofmmnfenlofaaGreatDoorW.PrintLast Go.Proofs.YtaofmmnfenlofaaGreatDoorW.PrintMore
set_option linter.unusedVariables false
set_option linter.unusedSimpArgs false
attribute [local go_sem] below_alloc below_drew1 pw_below_drewN
def okT (t : S46) : Bool := decide (3 ≤ t.f1) && decide (t.f2 ≤ 300)
set_option maxHeartbeats 4000000 in
set_option maxRecDepth 100000 in
theorem may_calls (w : World) (rl : Int) (A : Option Addr) (c : Nat) (T : List S46) (b : Bool) (hC : Kd.C k46 w A T.length T) (h8 : b = true → T.length ≤ 8)
    (hA : ∀ W, BW w W → Calls Tryz.prog 15 #[.agg #[.int .i64 rl, .slice A T.length c]] W fun e w' => e = .returned (.bool b) ∧ Below W.heap.size W w') :
    Calls Tryz.prog 7 #[.agg #[.int .i64 rl, .slice A T.length c]] w (Gives w (.bool (!decide (T.length > 10) && (b && T.all okT)))) := by
  have hu24 := Tryz.underlying24
  have hu46 := Tryz.underlying46
  obtain ⟨W0, e0, hb0, bx, eb, cb⟩ := box24 w rl A T.length c
  have hB : BW W0 W0 := BW.rfl' W0
  replace hC := Kd.C_below hC hb0
  have HA := Aside0.mk (fun W (h : BW W0 W) => hA W (hb0.tr h))
  obtain ⟨r, hr⟩ : ∃ r, (!decide (T.length > 10) && (b && T.all okT)) = r := ⟨_, rfl⟩
  rw [hr]
  replace hr := Aside0.mk hr
  have HB0 := Aside0.mk hb0
  by_cases h10 : T.length > 10
  · have q3 : decide (10 < T.length) = true := decide_eq_true h10
    obtain rfl : false = r := by rw [← hr.out, decide_eq_true h10]; rfl
    go_enter Tryz.func7, Tryz.ntmps7
    go_wp2
    go_ret
    exact ⟨rfl, HB0.out⟩
  have q3 : decide (10 < T.length) = false := decide_eq_false h10
  cases b with
  | false =>
    obtain rfl : false = r := by rw [← hr.out, decide_eq_false h10]; rfl
    go_enter Tryz.func7, Tryz.ntmps7
    go_wp2_with (go_at_call 15; (with_reducible refine (HA.out _ hB).mono ?_); rintro e w1 ⟨rfl, hb1⟩)
    go_ret
    exact ⟨rfl, HB0.out.tr hb1⟩
  | true =>
    have h8' := h8 rfl
    have hr2 := Aside0.mk (show T.all okT = r by have := hr.out; rw [decide_eq_false h10] at this; simpa using this)
    have HC := Aside0.mk hC
    clear hr h8 hA hC
    go_enter Tryz.func7, Tryz.ntmps7
    go_upto_region 4 with (go_at_call 15; (with_reducible refine (HA.out _ hB).mono ?_); rintro e w1 ⟨rfl, hb1⟩; have hB1 := hB.tr hb1)
    go_loopg [3] (T.length + 1) (fun kq v3 w' => ∃ k : Nat, v3 = .int .i64 (k : Int) ∧ Aside0 (kq + k = T.length + 1 ∧ k ≤ T.length) ∧ Aside0 ((T.drop k).all okT = r) ∧ BW W0 w')
    case atStart => exact ⟨0, rfl, ⟨by omega, by omega⟩, hr2, hB1⟩
    case round =>
      clear hr2
      obtain ⟨k, rfl, HK, HR, hBk⟩ := hrel
      by_cases hk : k < T.length
      · obtain ⟨ad, A6, c6, rfl, hl6, hC6, ht⟩ := at46 HC.out k hk
        have hd : T.drop k = rd_T46 T (k : Int) :: T.drop (k + 1) := by
          rw [List.drop_eq_getElem_cons hk]; unfold rd_T46
          rw [Int.toNat_natCast, List.getD_eq_getElem?_getD, List.getElem?_eq_getElem hk]; rfl
        have hR := HR.out
        rw [hd, List.all_cons] at hR
        generalize rd_T46 T (k : Int) = t at *
        have k0 : 0 ≤ (k : Int) := by omega
        have k1 : (k : Int) < (T.length : Int) := by omega
        have k2 : (k : Int) ≤ 8 := by omega
        have hk' : decide ((k : Int) < (T.length : Int)) = true := decide_eq_true k1
        unfold okT at hR
        clear hd hl6 hC6
        by_cases g1 : t.f1 < 3
        · have d1 : decide (t.f1 < 3) = true := decide_eq_true g1
          obtain rfl : false = r := by rw [← hR, decide_eq_false (show ¬ 3 ≤ t.f1 by omega)]; rfl
          go_wp2
          go_ret
          exact ⟨rfl, HB0.out.tr hBk⟩
        have d1 : decide (t.f1 < 3) = false := decide_eq_false g1
        by_cases g2 : 300 < t.f2
        · have d2 : decide (300 < t.f2) = true := decide_eq_true g2
          obtain rfl : false = r := by rw [← hR, decide_eq_false (show ¬ t.f2 ≤ 300 by omega), Bool.and_false]; rfl
          go_wp2
          go_ret
          exact ⟨rfl, HB0.out.tr hBk⟩
        have d2 : decide (300 < t.f2) = false := decide_eq_false g2
        have HR2 := Aside0.mk (show (T.drop (k + 1)).all okT = r by rw [← hR, decide_eq_true (show 3 ≤ t.f1 by omega), decide_eq_true (show t.f2 ≤ 300 by omega)]; rfl)
        clear hR
        go_wp2
        go_roundg (gk - 1)
        case measure => have := HK.out; omega
        case rel => exact ⟨k + 1, rfl, ⟨by have := HK.out; omega, by omega⟩, HR2, hBk⟩
      · have hk' : decide ((k : Int) < (T.length : Int)) = false := decide_eq_false (by omega)
        obtain rfl : true = r := by have := HR.out; rw [List.drop_eq_nil_of_le (by omega)] at this; exact this
        go_wp2
        go_ret
        exact ⟨rfl, HB0.out.tr hBk⟩
theorem at52 {w : World} {A : Option Addr} {n : Nat} {I : List S52} (h : Kd.C k52 w A n I) (i : Nat) (hi : i < n) : ∃ ad A1 c1, A = some ad ∧ (rd_T52 I (i : Int)).f1.length ≤ c1 ∧ Kd.C (Kd.slice 2 (Kd.int .i64)) w A1 (rd_T52 I (i : Int)).f1.length (rd_T52 I (i : Int)).f1 ∧ ∀ W, BW w W → W.cell? ⟨(ad.add (i * 3)).block, (ad.add (i * 3)).off + 1, none⟩ = some (.slice A1 (rd_T52 I (i : Int)).f1.length c1) := by
  obtain ⟨ad, A1, c1, rfl, d0, d1, d2, hl1, hC1⟩ := at_T52 h (i : Int) (by omega) (by omega)
  rw [Int.toNat_natCast] at d1
  exact ⟨ad, A1, c1, rfl, hl1, hC1, fun W hb => pw_cell_below hb d1⟩
theorem atLL {w : World} {A : Option Addr} {n : Nat} {d : List (List Int)} (h : Kd.C (Kd.slice 2 (Kd.int .i64)) w A n d) (k : Nat) (hk : k < n) : ∃ ad A0 c0, A = some ad ∧ ∀ W, BW w W → W.cell? (ad.add k) = some (.slice A0 (rd_L3 d (k : Int)).length c0) := by
  obtain ⟨ad, A0, c0, rfl, d0, _, _⟩ := at_L3 h (k : Int) (by omega) (by omega)
  rw [Int.toNat_natCast] at d0
  exact ⟨ad, A0, c0, rfl, fun W hb => pw_cell_below hb d0⟩
def lngX (x : S52) : Bool := decide (20 < x.f1.length) || x.f1.any fun d => decide (20 < d.length)
def lngB (I : List S52) : Bool := (I.take 300).any lngX || decide (250 < I.length)
theorem lngB_no {I : List S52} (h : lngB I = false) : I.length ≤ 250 := by
  unfold lngB at h
  rw [Bool.or_eq_false_iff] at h
  have := of_decide_eq_false h.2
  omega
theorem any_drop52 {I : List S52} {i : Nat} (h : i < I.length) (h3 : i < 300) : ((I.take 300).drop i).any lngX = (lngX (rd_T52 I (i : Int)) || ((I.take 300).drop (i + 1)).any lngX) := by
  have hl : i < (I.take 300).length := by rw [List.length_take]; omega
  rw [List.drop_eq_getElem_cons hl, List.any_cons]
  unfold rd_T52
  rw [Int.toNat_natCast, List.getD_eq_getElem?_getD, List.getElem?_eq_getElem h, List.getElem_take]; rfl
theorem any_dropL {d : List (List Int)} {k : Nat} (h : k < d.length) : (d.drop k).any (fun d => decide (20 < d.length)) = (decide (20 < (rd_L3 d (k : Int)).length) || (d.drop (k + 1)).any fun d => decide (20 < d.length)) := by
  rw [List.drop_eq_getElem_cons h, List.any_cons]
  unfold rd_L3
  rw [Int.toNat_natCast, List.getD_eq_getElem?_getD, List.getElem?_eq_getElem h]; rfl
set_option maxHeartbeats 4000000 in
set_option maxRecDepth 100000 in
theorem long_calls (w : World) (A : Option Addr) (c : Nat) (I : List S52) (hI : Kd.C k52 w A I.length I) : Calls Tryz.prog 8 #[.slice A I.length c] w (Gives w (.bool (lngB I))) := by
  have hu52 := Tryz.underlying52
  have hB : BW w w := BW.rfl' w
  obtain ⟨r, hr⟩ : ∃ r, lngB I = r := ⟨_, rfl⟩
  rw [hr]
  replace hr := Aside0.mk (show (((I.take 300).drop 0).any lngX || decide (250 < I.length)) = r from hr)
  have HC := Aside0.mk hI
  clear hI
  go_enter Tryz.func8, Tryz.ntmps8
  go_upto_region 2 with fail
  go_loopg [3] 302 (fun kq v3 w' => ∃ i : Nat, v3 = .int .i64 (i : Int) ∧ Aside0 (kq + i = 302 ∧ i ≤ 300 ∧ i ≤ I.length) ∧ Aside0 ((((I.take 300).drop i).any lngX || decide (250 < I.length)) = r) ∧ BW w w')
  case atStart => exact ⟨0, rfl, ⟨by omega, by omega, by omega⟩, hr, hB⟩
  case round =>
    clear hr
    obtain ⟨i, rfl, HK, HR, hBi⟩ := hrel
    by_cases hi : i < I.length ∧ i < 300
    · obtain ⟨ad, A1, c1, rfl, hl1, hC1, hx⟩ := at52 HC.out i hi.1
      have hR := HR.out
      rw [any_drop52 hi.1 hi.2] at hR
      generalize rd_T52 I (i : Int) = x at *
      have i0 : 0 ≤ (i : Int) := by omega
      have i1 : (i : Int) < (I.length : Int) := by omega
      have i2 : (i : Int) < 300 := by omega
      have hi1 : decide ((i : Int) < (I.length : Int)) = true := decide_eq_true i1
      have hi2 : decide ((i : Int) < 300) = true := decide_eq_true i2
      have hi3 : decide (i < 300) = true := decide_eq_true hi.2
      have hi4 : decide (i < I.length) = true := decide_eq_true hi.1
      have HK2 := Aside0.mk (show gk - 1 + (i + 1) = 302 ∧ i + 1 ≤ 300 ∧ i + 1 ≤ I.length by have := HK.out; omega)
      obtain ⟨gm, hgm⟩ : ∃ m, gk - 1 = m := ⟨_, rfl⟩
      have HM2 := Aside0.mk (show gm < gk by have := HK.out; omega)
      rw [hgm] at HK2
      clear HR hgm
      unfold lngX at hR
      by_cases g1 : 20 < x.f1.length
      · have d1 : decide (20 < x.f1.length) = true := decide_eq_true g1
        obtain rfl : true = r := by rw [← hR, d1]; rfl
        go_wp2
        go_ret
        exact ⟨rfl, hBi⟩
      have d1 : decide (20 < x.f1.length) = false := decide_eq_false g1
      rw [d1, Bool.false_or] at hR
      replace hR := Aside0.mk (show ((x.f1.drop 0).any (fun d => decide (20 < d.length)) || ((I.take 300).drop (i + 1)).any lngX || decide (250 < I.length)) = r from hR)
      replace hC1 := Aside0.mk hC1
      go_upto_region 7 with fail
      go_loopg [4] (x.f1.length + 1) (fun kq v4 w' => ∃ k : Nat, v4 = .int .i64 (k : Int) ∧ Aside0 (kq + k = x.f1.length + 1 ∧ k ≤ x.f1.length) ∧ Aside0 (((x.f1.drop k).any (fun d => decide (20 < d.length)) || ((I.take 300).drop (i + 1)).any lngX || decide (250 < I.length)) = r) ∧ BW w w')
      case atStart => exact ⟨0, rfl, ⟨by omega, by omega⟩, hR, hBi⟩
      case round =>
        clear hR
        obtain ⟨k, rfl, HKk, HR, hBk⟩ := hrel
        by_cases hk : k < x.f1.length
        · obtain ⟨ad1, A2, c2, rfl, hy⟩ := atLL hC1.out k hk
          have hR := HR.out
          rw [any_dropL hk] at hR
          generalize rd_L3 x.f1 (k : Int) = y at *
          have k0 : 0 ≤ (k : Int) := by omega
          have k1 : (k : Int) < (x.f1.length : Int) := by omega
          have k2 : (k : Int) ≤ 20 := by omega
          have hk' : decide ((k : Int) < (x.f1.length : Int)) = true := decide_eq_true k1
          have hk2 : decide (k < x.f1.length) = true := decide_eq_true hk
          have HG := Aside0.mk (show gk - 1 + (k + 1) = x.f1.length + 1 ∧ k + 1 ≤ x.f1.length by have := HKk.out; omega)
          have HM := Aside0.mk (show gk - 1 < gk by have := HKk.out; omega)
          by_cases g2 : 20 < y.length
          · have d2 : decide (20 < y.length) = true := decide_eq_true g2
            obtain rfl : true = r := by rw [← hR, d2]; rfl
            go_wp2
            go_ret
            exact ⟨rfl, hBk⟩
          have d2 : decide (20 < y.length) = false := decide_eq_false g2
          rw [d2, Bool.false_or] at hR
          replace hR := Aside0.mk hR
          go_wp2
          go_roundg (gk - 1)
          case measure => exact HM.out
          case rel => exact ⟨k + 1, rfl, HG, hR, hBk⟩
        · have hk' : decide ((k : Int) < (x.f1.length : Int)) = false := decide_eq_false (by omega)
          have hk2 : decide (k < x.f1.length) = false := decide_eq_false hk
          have hR := Aside0.mk (show (((I.take 300).drop (i + 1)).any lngX || decide (250 < I.length)) = r by have := HR.out; rw [List.drop_eq_nil_of_le (by omega)] at this; exact this)
          go_wp2
          go_roundg gm
          case measure => exact HM2.out
          case rel => exact ⟨i + 1, rfl, HK2, hR, hBk⟩
    · have hR := HR.out
      rw [List.drop_eq_nil_of_le (by rw [List.length_take]; omega)] at hR
      replace hR : decide ((250 : Int) < (I.length : Int)) = r := by rw [← hR]; exact decide_eq_decide.mpr (by omega)
      by_cases h1 : i < I.length
      · have hi1 : decide ((i : Int) < (I.length : Int)) = true := decide_eq_true (by omega)
        have hi4 : decide (i < I.length) = true := decide_eq_true h1
        have hi2 : decide ((i : Int) < 300) = false := decide_eq_false (by omega)
        have hi3 : decide (i < 300) = false := decide_eq_false (by omega)
        go_wp2
        go_ret
        exact ⟨by rw [← hR]; rfl, hBi⟩
      · have hi1 : decide ((i : Int) < (I.length : Int)) = false := decide_eq_false (by omega)
        have hi4 : decide (i < I.length) = false := decide_eq_false h1
        go_wp2
        go_ret
        exact ⟨by rw [← hR]; rfl, hBi⟩
end Go.Proofs.YtaofmmnfenlofaaGreatDoor.QTc
namespace Go.Proofs.YtaofmmnfenlofaaGreatDoor.QTc
open Go.RowKit Go.Proofs.YtaofmmnfenlofaaGreatDoorW.PrintWords Go.Proofs.YtaofmmnfenlofaaGreatDoorW.PrintLast Go.Proofs.YtaofmmnfenlofaaGreatDoorW.PrintMore Go.Proofs.YtaofmmnfenlofaaGreatDoor.Pure
set_option linter.unusedVariables false
set_option linter.unusedSimpArgs false
def tA : S46 := ⟨⟨#[97]⟩, 5, 5, 0, 0, 0, [2], 0, 0⟩
def kA1 : KA := ⟨1, 0, [⟨5, 0, true⟩], [⟨true, true, true, 0⟩], [0], [⟨[2], [2], 0, 1, 0⟩], [⟨0, 1, 0, 0⟩, ⟨0, 4, 0, 0⟩], [0], fun _ => 0⟩
def kA2 : KA := ⟨2, 0, [⟨5, 0, true⟩], [z132], [0], [⟨[2], [2], 1, 0, 2⟩], [⟨1, 7, 0, 0⟩, ⟨1, 8, 0, 2⟩], [0], fun _ => 0⟩
def kM1 : KA := ⟨0, -1, [⟨5, 0, true⟩], [⟨true, false, false, 0⟩], [0], [⟨[2], [2], 0, 0, 0⟩], [⟨0, 1, 0, 0⟩], [0], fun _ => 0⟩
def kM2 : KA := { kA1 with evs := [] }
set_option maxRecDepth 100000 in
theorem mid1 : midA [tA] [[2]] 1 (newA [tA]) = kM1 := by kernel_rfl
set_option maxRecDepth 100000 in
theorem mid2 : midA [tA] [] 0 kA1 = kM2 := by kernel_rfl
theorem cho1 : rule_Choose.f 20 0 [tA] kM1.st kM1.last kM1.tick = some 0 := by kernel_rfl
theorem cho2 : rule_Choose.f 20 0 [tA] kM2.st kM2.last kM2.tick = some 0 := by kernel_rfl
theorem go1 : endT (goA 0 [tA] 0 kM1 0) 0 = kA1 := by kernel_rfl
theorem go2 : endT (goA 0 [tA] 0 kM2 0) 0 = kA2 := by kernel_rfl
end Go.Proofs.YtaofmmnfenlofaaGreatDoor.QTc
namespace Go.Proofs.YtaofmmnfenlofaaGreatDoor.QTc
open Go.RowKit Go.Proofs.YtaofmmnfenlofaaGreatDoorW.PrintWords Go.Proofs.YtaofmmnfenlofaaGreatDoorW.PrintLast Go.Proofs.YtaofmmnfenlofaaGreatDoorW.PrintMore
set_option linter.unusedVariables false
set_option linter.unusedSimpArgs false
structure XI (w0 : World) (x : Nat) (rl : Int) (v : Value) (has : Bool) (p : Option Addr) (W : World) : Prop where
  blk : W.heap[x]? = some (.cells #[.int .i64 rl, v, .bool has, .pointer p] 82 (0, 0))
  hB : Below w0.heap.size w0 W
  ge : w0.heap.size ≤ x
section
variable {w0 W W' : World} {x : Nat} {rl : Int} {v : Value} {has : Bool} {p : Option Addr}
theorem XI.below (h : XI w0 x rl v has p W) (hb : Below W.heap.size W W') : XI w0 x rl v has p W' := ⟨(hb.block _ (blk_lt h.blk)).trans h.blk, h.hB.trans (hb.mono h.hB.size), h.ge⟩
theorem XI.far (h : XI w0 x rl v has p W) {g : Nat} (hg : x < g) (i : Nat) (u : Value) : XI w0 x rl v has p (W.setCell ⟨g, i, none⟩ u) := by
  have := h.ge
  exact ⟨blk_far h.blk (by show x ≠ g; omega) _, Below.setCell h.hB (by show w0.heap.size ≤ g; omega) _, h.ge⟩
theorem XI.far7 (h : XI w0 x rl v has p W) {g : Nat} (hg : x < g) (v0 v1 v2 v3 v4 v5 v6 : Value) : XI w0 x rl v has p (((((((W.setCell ⟨g, 0, none⟩ v0).setCell ⟨g, 1, none⟩ v1).setCell ⟨g, 2, none⟩ v2).setCell ⟨g, 3, none⟩ v3).setCell ⟨g, 4, none⟩ v4).setCell ⟨g, 5, none⟩ v5).setCell ⟨g, 6, none⟩ v6) :=
  ((((((h.far hg 0 v0).far hg 1 v1).far hg 2 v2).far hg 3 v3).far hg 4 v4).far hg 5 v5).far hg 6 v6
end
theorem row7_set {W : World} {g t : Nat} {a0 a1 a2 a3 a4 a5 a6 : Value} (h : W.heap[g]? = some (.cells #[a0, a1, a2, a3, a4, a5, a6] t (0, 0))) (v0 v1 v2 v3 v4 v5 v6 : Value) : (((((((W.setCell ⟨g, 0, none⟩ v0).setCell ⟨g, 1, none⟩ v1).setCell ⟨g, 2, none⟩ v2).setCell ⟨g, 3, none⟩ v3).setCell ⟨g, 4, none⟩ v4).setCell ⟨g, 5, none⟩ v5).setCell ⟨g, 6, none⟩ v6).heap[g]? = some (.cells #[v0, v1, v2, v3, v4, v5, v6] t (0, 0)) := by
  have := blk_set (blk_set (blk_set (blk_set (blk_set (blk_set (blk_set h 0 v0) 1 v1) 2 v2) 3 v3) 4 v4) 5 v5) 6 v6
  simpa using this
theorem R_set7 {α : Type} {d : Kd α} {e base : Nat} {ok : Nat → Prop} {v : Value} {xs : List α} {W : World} {g t : Nat} {cs : Array Value} (h : Kd.R d e W base ok v xs) (hb : W.heap[g]? = some (.cells cs t (0, 0))) (ht : ∀ q, q ∈ e :: d.E → q ≠ t) (v0 v1 v2 v3 v4 v5 v6 : Value) : Kd.R d e (((((((W.setCell ⟨g, 0, none⟩ v0).setCell ⟨g, 1, none⟩ v1).setCell ⟨g, 2, none⟩ v2).setCell ⟨g, 3, none⟩ v3).setCell ⟨g, 4, none⟩ v4).setCell ⟨g, 5, none⟩ v5).setCell ⟨g, 6, none⟩ v6) base ok v xs := by
  have b0 := blk_set hb 0 v0; have b1 := blk_set b0 1 v1; have b2 := blk_set b1 2 v2; have b3 := blk_set b2 3 v3; have b4 := blk_set b3 4 v4; have b5 := blk_set b4 5 v5
  exact Kd.R_set (Kd.R_set (Kd.R_set (Kd.R_set (Kd.R_set (Kd.R_set (Kd.R_set h hb ht 0 v0) b0 ht 1 v1) b1 ht 2 v2) b2 ht 3 v3) b3 ht 4 v4) b4 ht 5 v5) b5 ht 6 v6
theorem below_set7 {w W : World} {g : Nat} (hb : Below w.heap.size w W) (hg : w.heap.size ≤ g) (v0 v1 v2 v3 v4 v5 v6 : Value) : Below w.heap.size w (((((((W.setCell ⟨g, 0, none⟩ v0).setCell ⟨g, 1, none⟩ v1).setCell ⟨g, 2, none⟩ v2).setCell ⟨g, 3, none⟩ v3).setCell ⟨g, 4, none⟩ v4).setCell ⟨g, 5, none⟩ v5).setCell ⟨g, 6, none⟩ v6) :=
  Below.setCell (Below.setCell (Below.setCell (Below.setCell (Below.setCell (Below.setCell (Below.setCell hb hg _) hg _) hg _) hg _) hg _) hg _) hg _
theorem Kp.new7 {w W : World} {S : Nat → Prop} {g : Nat} (h : Kp w W S) (hg : w.heap.size ≤ g) (v0 v1 v2 v3 v4 v5 v6 : Value) : Kp w (((((((W.setCell ⟨g, 0, none⟩ v0).setCell ⟨g, 1, none⟩ v1).setCell ⟨g, 2, none⟩ v2).setCell ⟨g, 3, none⟩ v3).setCell ⟨g, 4, none⟩ v4).setCell ⟨g, 5, none⟩ v5).setCell ⟨g, 6, none⟩ v6) S :=
  ((((((h.set (Or.inr hg) _).set (Or.inr hg) _).set (Or.inr hg) _).set (Or.inr hg) _).set (Or.inr hg) _).set (Or.inr hg) _).set (Or.inr hg) _
abbrev z61 : Array Value := #[.int .i64 0, .int .i64 0, .int .i64 0, .int .i64 0, .slice none 0 0, .string ⟨#[]⟩, .slice none 0 0]
set_option maxHeartbeats 8000000 in
set_option maxRecDepth 100000 in
theorem load_calls {w0 w : World} {x : Nat} (s : ByteArray) (rl m : Int) (T : List S46) (h : XI w0 x 0 (.slice none 0 0) false none w) (hT1 : T.length = 1)
    (hP : ∀ W, Below w.heap.size w W → Calls Tryz.prog 74 #[.string s] W fun e w' => ∃ A c, e = .returned (.tuple #[.agg #[.int .i64 rl, .slice A 1 c], .int .i64 m, .int .i64 0]) ∧ Kd.R k46 46 w' W.heap.size (fun _ => True) (.slice A 1 c) T ∧ Below W.heap.size W w') :
    Calls Tryz.prog 40 #[.pointer (some ⟨x, 0, none⟩), .string s] w fun e w' => ∃ A c, e = .returned (.agg #[.int .i64 0, .int .i64 m, .int .i64 0, .int .i64 0, .slice none 0 0, .string ⟨#[]⟩, .slice none 0 0]) ∧ XI w0 x rl (.slice A 1 c) true none w' ∧ Kd.R k46 46 w' w0.heap.size (fun _ => True) (.slice A 1 c) T ∧ Kp w w' (· = x) := by
  have hu24 := Tryz.underlying24
  have hu61 := Tryz.underlying61
  have hx := blk_lt h.blk
  have hb0 : Below w.heap.size w (w.alloc (.cells z61 61)) := Below.alloc (Below.refl _ _) (Nat.le_refl _) _
  have HX0 := Aside0.mk (h.below hb0)
  have HR0 := Aside0.mk (heap_alloc_new w (.cells z61 61))
  have HP := Aside0.mk hP
  have HT1 := Aside0.mk hT1
  have k3 : w.cell? ⟨x, 3, none⟩ = some (.pointer none) := blk_cell h.blk 3
  replace hb0 := Aside0.mk hb0
  clear h hP hT1
  go_enter Tryz.func40, Tryz.ntmps40
  go_upto_region 4 with (go_at_call 74; (with_reducible refine (HP.out _ hb0.out).mono ?_); rintro e w1 ⟨A, c, rfl, hR, hb1⟩; have HX1 := Aside0.mk (HX0.out.below hb1); have HR1 := Aside0.mk ((hb1.block _ (blk_lt HR0.out)).trans HR0.out); have HS1 := Aside0.mk hR; have HB1 := Aside0.mk (hb0.out.trans (hb1.mono hb0.out.size)); clear hb1 hR)
  have hal : Below w1.heap.size w1 (w1.alloc (.cells #[.int .i64 rl, .slice A 1 c] 24)) := Below.alloc (Below.refl _ _) (Nat.le_refl _) _
  have HX2 := Aside0.mk (HX1.out.below hal)
  have HR2 := Aside0.mk ((hal.block _ (blk_lt HR1.out)).trans HR1.out)
  have HS2 := Aside0.mk (Kd.R_below HS1.out hal)
  have HB2 := Aside0.mk (HB1.out.trans (hal.mono HB1.out.size))
  have c0 := (blk_cell (heap_alloc_new w1 (.cells #[.int .i64 rl, .slice A 1 c] 24)) 0).trans rfl
  have c1 := (blk_cell (heap_alloc_new w1 (.cells #[.int .i64 rl, .slice A 1 c] 24)) 1).trans rfl
  have hlt1 := blk_lt HR1.out
  have hne1 : w1.heap.size ≠ x := by have := blk_lt HX1.out.blk; omega
  clear HX1 HR1 HS1 hal
  generalize (w1.alloc (.cells #[.int .i64 rl, .slice A 1 c] 24)) = W2 at HX2 HR2 HS2 HB2 c0 c1 ⊢
  generalize w1.heap.size = lb at c0 c1 hne1 ⊢
  have x0 := (blk_cell HX2.out.blk 0).trans rfl
  have x1 := (blk_cell HX2.out.blk 1).trans rfl
  have x2 := (blk_cell HX2.out.blk 2).trans rfl
  have f0 := blk_frozen HX2.out.blk 0
  have f1 := blk_frozen HX2.out.blk 1
  have f2 := blk_frozen HX2.out.blk 2
  have r0 := (blk_cell HR2.out 0).trans rfl
  have r1 := (blk_cell HR2.out 1).trans rfl
  have r2 := (blk_cell HR2.out 2).trans rfl
  have r3 := (blk_cell HR2.out 3).trans rfl
  have r4 := (blk_cell HR2.out 4).trans rfl
  have r5 := (blk_cell HR2.out 5).trans rfl
  have r6 := (blk_cell HR2.out 6).trans rfl
  have g0 := blk_frozen HR2.out 0
  have g1 := blk_frozen HR2.out 1
  have g2 := blk_frozen HR2.out 2
  have g3 := blk_frozen HR2.out 3
  have g4 := blk_frozen HR2.out 4
  have g5 := blk_frozen HR2.out 5
  have g6 := blk_frozen HR2.out 6
  go_wp2
  have X3 : XI w0 x rl (.slice A 1 c) true none (((W2.setCell ⟨x, 0, none⟩ (.int .i64 rl)).setCell ⟨x, 1, none⟩ (.slice A 1 c)).setCell ⟨x, 2, none⟩ (.bool true)) := by
    have b := blk_set (blk_set (blk_set HX2.out.blk 0 (.int .i64 rl)) 1 (.slice A 1 c)) 2 (.bool true)
    exact ⟨by simpa using b, Below.setCell (Below.setCell (Below.setCell HX2.out.hB HX2.out.ge _) HX2.out.ge _) HX2.out.ge _, HX2.out.ge⟩
  have ht82 : ∀ q, q ∈ 46 :: k46.E → q ≠ 82 := fun q hq => by rcases k46_E q hq with rfl | rfl <;> decide
  have ht61 : ∀ q, q ∈ 46 :: k46.E → q ≠ 61 := fun q hq => by rcases k46_E q hq with rfl | rfl <;> decide
  have S3 := Kd.R_set (Kd.R_set (Kd.R_set HS2.out HX2.out.blk ht82 0 (.int .i64 rl)) (blk_set HX2.out.blk 0 (.int .i64 rl)) ht82 1 (.slice A 1 c)) (blk_set (blk_set HX2.out.blk 0 (.int .i64 rl)) 1 (.slice A 1 c)) ht82 2 (.bool true)
  have hne : w.heap.size ≠ x := by omega
  have R3 := blk_far (blk_far (blk_far HR2.out (p := ⟨x, 0, none⟩) hne (.int .i64 rl)) (p := ⟨x, 1, none⟩) hne (.slice A 1 c)) (p := ⟨x, 2, none⟩) hne (.bool true)
  have G := row7_set R3 (.int .i64 0) (.int .i64 m) (.int .i64 0) (.int .i64 0) (.slice none 0 0) (.string ⟨#[]⟩) (.slice none 0 0)
  refine bodyPost_ret (results_cell_row rfl _ _ w.heap.size 61 _ (0, 0) _ rfl G Tryz.underlying61 rfl (by kernel_rfl)) rfl ?_
  exact ⟨A, c, rfl, X3.far7 hx _ _ _ _ _ _ _, R_set7 (Kd.R_lower S3 (Nat.le_trans HX0.out.hB.size (Nat.le_refl _))) R3 ht61 _ _ _ _ _ _ _, Kp.new7 ((((Kp.of_below HB2.out _).set1 _ _).set1 _ _).set1 _ _) (Nat.le_refl _) _ _ _ _ _ _ _⟩
theorem idle_calls {w0 w : World} {x : Nat} {rl : Int} {v : Value} (h : XI w0 x rl v true none w) : Calls Tryz.prog 75 #[.pointer (some ⟨x, 0, none⟩)] w fun e w' => e = .returned (.bool true) ∧ Below w.heap.size w w' := by
  have k2 : w.cell? ⟨x, 2, none⟩ = some (.bool true) := blk_cell h.blk 2
  have k3 : w.cell? ⟨x, 3, none⟩ = some (.pointer none) := blk_cell h.blk 3
  clear h
  go_enter Tryz.func75, Tryz.ntmps75
  go_wp2
  go_ret
  exact ⟨rfl, by repeat (first | exact Below.refl _ _ | apply pw_below_drewN | apply below_drew1)⟩
set_option maxHeartbeats 8000000 in
set_option maxRecDepth 100000 in
theorem judgeE_calls {w0 w : World} {x : Nat} {rl how tk : Int} {A : Option Addr} {n c : Nat} {p : Option Addr} (h : XI w0 x rl (.slice A n c) true p w)
    (hJ : ∀ W, Below w.heap.size w W → Calls Tryz.prog 9 #[.agg #[.int .i64 rl, .slice A n c]] W fun e w' => ∃ A5 n5 c5, e = .returned (.tuple #[.agg #[.int .i64 how, .int .i64 tk, .slice A5 n5 c5], .int .i64 0]) ∧ Below W.heap.size W w') :
    Calls Tryz.prog 41 #[.pointer (some ⟨x, 0, none⟩)] w fun e w' => ∃ A5 n5 c5, e = .returned (.agg #[.int .i64 0, .int .i64 0, .int .i64 how, .int .i64 tk, .slice A5 n5 c5, .string ⟨#[]⟩, .slice none 0 0]) ∧ Below w.heap.size w w' := by
  have hu24 := Tryz.underlying24
  have hu30 := Tryz.underlying30
  have hu61 := Tryz.underlying61
  have hb0 : Below w.heap.size w (w.alloc (.cells z61 61)) := Below.alloc (Below.refl _ _) (Nat.le_refl _) _
  have HR0 := Aside0.mk (heap_alloc_new w (.cells z61 61))
  have HJ := Aside0.mk hJ
  have hx := blk_lt h.blk
  have k0 : w.cell? ⟨x, 0, none⟩ = some (.int .i64 rl) := blk_cell h.blk 0
  have k1 : w.cell? ⟨x, 1, none⟩ = some (.slice A n c) := blk_cell h.blk 1
  have k2 : w.cell? ⟨x, 2, none⟩ = some (.bool true) := blk_cell h.blk 2
  replace hb0 := Aside0.mk hb0
  clear h hJ
  go_enter Tryz.func41, Tryz.ntmps41
  go_wp2_with (go_at_call 9; (with_reducible refine (HJ.out _ hb0.out).mono ?_); rintro e w1 ⟨A5, n5, c5, rfl, hb1⟩; have HR1 := Aside0.mk ((hb1.block _ (blk_lt HR0.out)).trans HR0.out); have HB1 := Aside0.mk (hb0.out.trans (hb1.mono hb0.out.size)); have hlt1 := blk_lt HR1.out; have r0 := (blk_cell HR1.out 0).trans rfl; have r1 := (blk_cell HR1.out 1).trans rfl; have r2 := (blk_cell HR1.out 2).trans rfl; have r3 := (blk_cell HR1.out 3).trans rfl; have r4 := (blk_cell HR1.out 4).trans rfl; have r5 := (blk_cell HR1.out 5).trans rfl; have r6 := (blk_cell HR1.out 6).trans rfl; have g0 := blk_frozen HR1.out 0; have g1 := blk_frozen HR1.out 1; have g2 := blk_frozen HR1.out 2; have g3 := blk_frozen HR1.out 3; have g4 := blk_frozen HR1.out 4; have g5 := blk_frozen HR1.out 5; have g6 := blk_frozen HR1.out 6; clear hb1)
  have G := row7_set HR1.out (.int .i64 0) (.int .i64 0) (.int .i64 how) (.int .i64 tk) (.slice A5 n5 c5) (.string ⟨#[]⟩) (.slice none 0 0)
  have hB := below_set7 HB1.out (Nat.le_refl _) (.int .i64 0) (.int .i64 0) (.int .i64 how) (.int .i64 tk) (.slice A5 n5 c5) (.string ⟨#[]⟩) (.slice none 0 0)
  refine bodyPost_ret (results_cell_row rfl _ _ w.heap.size 61 _ (0, 0) _ rfl (blk_alloc G _) Tryz.underlying61 rfl (by kernel_rfl)) rfl ?_
  exact ⟨A5, n5, c5, rfl, below_alloc hB _⟩
theorem KInv.lower {B0 B1 : Bs} {w : World} {g : Nat} {rl : Int} {T : List S46} {L : KL} {K : KS} {ev : Value} {X : Option Nat} (h : KInv B0 w g rl T L K ev X) (hb : B1.b ≤ B0.b) (he : B1.e ≤ B0.e) : KInv B1 w g rl T L K ev X := by
  refine { h with tasks := Kd.R_lower h.tasks hb, evs := Kd.R_lower h.evs he, job := ?_, ge := ?_ }
  · intro i hi hx hp
    obtain ⟨j, h1, h2, h3⟩ := h.job i hi hx hp
    exact ⟨j, h1, Nat.le_trans hb h2, h3.lower hb⟩
  · have := h.ge
    exact ⟨by omega, by omega, by omega, by omega, by omega⟩
theorem KInv.keepT {B0 : Bs} {w w' : World} {g t : Nat} {rl : Int} {T : List S46} {L : KL} {K : KS} {ev : Value} {X : Option Nat} (h : KInv B0 w g rl T L K ev X) (hk : KpT B0 w w' [t]) (ht : t = 82 ∨ t = 61) : KInv B0 w' g rl T L K ev X := by
  have n : ∀ q : Nat, q ≠ 82 → q ≠ 61 → q ∉ [t] := fun q h1 h2 hq => by rcases ht with rfl | rfl <;> simp at hq <;> omega
  exact { h with ker := hk.blk h.ker (n _ (by decide) (by decide)), tasks := hk.row h.tasks (fun q hq => by rcases k46_E q hq with rfl | rfl <;> exact n _ (by decide) (by decide)), pol := hk.pol h.pol (n _ (by decide) (by decide)) (n _ (by decide) (by decide)), cac := hk.cac h.cac (n _ (by decide) (by decide)), tab := hk.tab h.tab (n _ (by decide) (by decide)) (n _ (by decide) (by decide)), own := hk.rowE h.own (n _ (by decide) (by decide)), evs := hk.row h.evs (fun q hq => by rw [List.mem_singleton.mp hq]; exact n _ (by decide) (by decide)), job := fun i hi hx => (h.job i hi hx).kp hk (n _ (by decide) (by decide)) (n _ (by decide) (by decide)) }
theorem KInv.far {B0 : Bs} {w : World} {g t b : Nat} {rl : Int} {T : List S46} {L : KL} {K : KS} {ev : Value} {X : Option Nat} (h : KInv B0 w g rl T L K ev X) {cs : Array Value} (hb : w.heap[b]? = some (.cells cs t (0, 0))) (hB : B0.b ≤ b) (ht : t = 82 ∨ t = 61) (i : Nat) (u : Value) : KInv B0 (w.setCell ⟨b, i, none⟩ u) g rl T L K ev X :=
  h.keepT (KpT.one (Kp.set1 (Kp.refl _ _) _ _) hb hB (by rcases ht with rfl | rfl <;> decide)) ht
theorem KInv.far7 {B0 : Bs} {w : World} {g b : Nat} {rl : Int} {T : List S46} {L : KL} {K : KS} {ev : Value} {X : Option Nat} (h : KInv B0 w g rl T L K ev X) {cs : Array Value} (hb : w.heap[b]? = some (.cells cs 61 (0, 0))) (hB : B0.b ≤ b) (v0 v1 v2 v3 v4 v5 v6 : Value) : KInv B0 (((((((w.setCell ⟨b, 0, none⟩ v0).setCell ⟨b, 1, none⟩ v1).setCell ⟨b, 2, none⟩ v2).setCell ⟨b, 3, none⟩ v3).setCell ⟨b, 4, none⟩ v4).setCell ⟨b, 5, none⟩ v5).setCell ⟨b, 6, none⟩ v6) g rl T L K ev X := by
  have b0 := blk_set hb 0 v0; have b1 := blk_set b0 1 v1; have b2 := blk_set b1 2 v2; have b3 := blk_set b2 3 v3; have b4 := blk_set b3 4 v4; have b5 := blk_set b4 5 v5
  exact (((((((h.far hb hB (Or.inr rfl) 0 v0).far b0 hB (Or.inr rfl) 1 v1).far b1 hB (Or.inr rfl) 2 v2).far b2 hB (Or.inr rfl) 3 v3).far b3 hB (Or.inr rfl) 4 v4).far b4 hB (Or.inr rfl) 5 v5).far b5 hB (Or.inr rfl) 6 v6)
set_option maxHeartbeats 8000000 in
set_option maxRecDepth 100000 in
theorem start_calls {w0 w : World} {x : Nat} {rl tk : Int} {A : Option Addr} {c : Nat} {T : List S46} (fo : Bool) (h : XI w0 x rl (.slice A T.length c) true none w)
    (hJ : ∀ W, Below w.heap.size w W → Calls Tryz.prog 9 #[.agg #[.int .i64 rl, .slice A T.length c]] W fun e w' => ∃ A5 n5 c5, e = .returned (.tuple #[.agg #[.int .i64 1, .int .i64 tk, .slice A5 n5 c5], .int .i64 0]) ∧ Below W.heap.size W w')
    (hN : ∀ W, Below w.heap.size w W → Calls Tryz.prog 26 #[.agg #[.int .i64 rl, .slice A T.length c]] W fun e w' => ∃ g L K ev, e = .returned (.tuple #[.pointer (some ⟨g, 0, none⟩), .int .i64 0]) ∧ KInv (bsN W.heap.size) w' g rl T L K ev none ∧ K.abs = newA T ∧ Below W.heap.size W w') :
    Calls Tryz.prog 43 #[.pointer (some ⟨x, 0, none⟩), .bool fo] w fun e w' => ∃ A5 n5 c5 g L K ev, e = .returned (.agg #[.int .i64 0, .int .i64 0, .int .i64 1, .int .i64 tk, .slice A5 n5 c5, .string ⟨#[]⟩, .slice none 0 0]) ∧ XI w0 x rl (.slice A T.length c) true (some ⟨g, 0, none⟩) w' ∧ KInv (bsN w0.heap.size) w' g rl T L K ev none ∧ K.abs = newA T ∧ Kp w w' (· = x) := by
  have hu24 := Tryz.underlying24
  have hu30 := Tryz.underlying30
  have hu61 := Tryz.underlying61
  have hb0 : Below w.heap.size w (w.alloc (.cells z61 61)) := Below.alloc (Below.refl _ _) (Nat.le_refl _) _
  have HR0 := Aside0.mk (heap_alloc_new w (.cells z61 61))
  have HX0 := Aside0.mk (h.below hb0)
  have HJ := Aside0.mk (fun W (hW : Below w.heap.size w W) => judgeE_calls (h.below hW) (fun W' hW' => hJ W' (hW.trans (hW'.mono hW.size))))
  have HN := Aside0.mk hN
  have hx := blk_lt h.blk
  replace hb0 := Aside0.mk hb0
  clear h hJ hN
  have HI := Aside0.mk (idle_calls HX0.out)
  have hnp : ∀ (g : Nat) (w : World), (binOp .neq 65 (.pointer (some ⟨g, 0, none⟩)) (.pointer none)).run Tryz.prog w = .ok (.bool true) w := fun g w => by kernel_rfl
  go_enter Tryz.func43, Tryz.ntmps43
  go_upto_region 4 with (first | (go_at_call 75; (with_reducible refine HI.out.mono ?_); rintro e w1 ⟨rfl, hb1⟩; have HB1 := Aside0.mk (hb0.out.trans (hb1.mono hb0.out.size)); have HR1 := Aside0.mk ((hb1.block _ (blk_lt HR0.out)).trans HR0.out); have HX1 := Aside0.mk (HX0.out.below hb1); clear hb1) | (go_at_call 41; (with_reducible refine (HJ.out _ HB1.out).mono ?_); rintro e w2 ⟨A5, n5, c5, rfl, hb2⟩; have HB2 := Aside0.mk (HB1.out.trans (hb2.mono HB1.out.size)); have HR2 := Aside0.mk ((hb2.block _ (blk_lt HR1.out)).trans HR1.out); have HX2 := Aside0.mk (HX1.out.below hb2); clear hb2))
  have hal : Below w2.heap.size w2 (w2.alloc (.cells #[.int .i64 0, .int .i64 0, .int .i64 1, .int .i64 tk, .slice A5 n5 c5, .string ⟨#[]⟩, .slice none 0 0] 61)) := Below.alloc (Below.refl _ _) (Nat.le_refl _) _
  have HX3 := Aside0.mk (HX2.out.below hal)
  have HR3 := Aside0.mk ((hal.block _ (blk_lt HR2.out)).trans HR2.out)
  have HB3 := Aside0.mk (HB2.out.trans (hal.mono HB2.out.size))
  have HL3 := Aside0.mk (heap_alloc_new w2 (.cells #[.int .i64 0, .int .i64 0, .int .i64 1, .int .i64 tk, .slice A5 n5 c5, .string ⟨#[]⟩, .slice none 0 0] 61))
  have hne : w2.heap.size ≠ w.heap.size := by have := blk_lt HR2.out; omega
  generalize (w2.alloc (.cells #[.int .i64 0, .int .i64 0, .int .i64 1, .int .i64 tk, .slice A5 n5 c5, .string ⟨#[]⟩, .slice none 0 0] 61)) = W3 at HX3 HR3 HB3 HL3 ⊢
  generalize w2.heap.size = lb at HL3 hne ⊢
  clear HX2 HR2 HB2 HX1 HR1 HB1 hal HI HJ
  have l2 : W3.cell? ⟨lb, 2, none⟩ = some (.int .i64 1) := blk_cell HL3.out 2
  have x0 : W3.cell? ⟨x, 0, none⟩ = some (.int .i64 rl) := blk_cell HX3.out.blk 0
  have x1 : W3.cell? ⟨x, 1, none⟩ = some (.slice A T.length c) := blk_cell HX3.out.blk 1
  go_upto_region 8 with (go_at_call 26; (with_reducible refine (HN.out _ HB3.out).mono ?_); rintro e w4 ⟨g, L, K, ev, rfl, hk4, ha4, hb4⟩; have HX4 := Aside0.mk (HX3.out.below hb4); have HR4 := Aside0.mk ((hb4.block _ (blk_lt HR3.out)).trans HR3.out); have HL4 := Aside0.mk ((hb4.block _ (blk_lt HL3.out)).trans HL3.out); have HK4 := Aside0.mk (hk4.lower (B1 := bsN w0.heap.size) HX3.out.hB.size HX3.out.hB.size); have x3 : w4.cell? ⟨x, 3, none⟩ = some (.pointer none) := blk_cell HX4.out.blk 3; have f3 := blk_frozen HX4.out.blk 3; replace ha4 := Aside0.mk ha4; have HB4 := Aside0.mk (HB3.out.trans (hb4.mono HB3.out.size)); clear hk4 hb4)
  have X5 : XI w0 x rl (.slice A T.length c) true (some ⟨g, 0, none⟩) (w4.setCell ⟨x, 3, none⟩ (.pointer (some ⟨g, 0, none⟩))) := by
    have b := blk_set HX4.out.blk 3 (.pointer (some ⟨g, 0, none⟩))
    exact ⟨by simpa using b, Below.setCell HX4.out.hB HX4.out.ge _, HX4.out.ge⟩
  have K5 := HK4.out.far HX4.out.blk HX4.out.ge (Or.inl rfl) 3 (.pointer (some ⟨g, 0, none⟩))
  have R5 := blk_far HR4.out (p := ⟨x, 3, none⟩) (by show w.heap.size ≠ x; omega) (.pointer (some ⟨g, 0, none⟩))
  have L5 := blk_far HL4.out (p := ⟨x, 3, none⟩) (blk_ne HL4.out HX4.out.blk (by decide)) (.pointer (some ⟨g, 0, none⟩))
  have P5 := Aside0.mk ((Kp.of_below HB4.out (· = x)).set1 3 (.pointer (some ⟨g, 0, none⟩)))
  replace X5 := Aside0.mk X5
  replace K5 := Aside0.mk K5
  replace R5 := Aside0.mk R5
  replace L5 := Aside0.mk L5
  generalize (w4.setCell ⟨x, 3, none⟩ (.pointer (some ⟨g, 0, none⟩))) = W5 at X5 K5 R5 L5 P5 ⊢
  have u0 := (blk_cell L5.out 0).trans rfl; have u1 := (blk_cell L5.out 1).trans rfl; have u2 := (blk_cell L5.out 2).trans rfl; have u3 := (blk_cell L5.out 3).trans rfl; have u4 := (blk_cell L5.out 4).trans rfl; have u5 := (blk_cell L5.out 5).trans rfl; have u6 := (blk_cell L5.out 6).trans rfl
  have r0 := (blk_cell R5.out 0).trans rfl; have r1 := (blk_cell R5.out 1).trans rfl; have r2 := (blk_cell R5.out 2).trans rfl; have r3 := (blk_cell R5.out 3).trans rfl; have r4 := (blk_cell R5.out 4).trans rfl; have r5 := (blk_cell R5.out 5).trans rfl; have r6 := (blk_cell R5.out 6).trans rfl
  have g0 := blk_frozen R5.out 0; have g1 := blk_frozen R5.out 1; have g2 := blk_frozen R5.out 2; have g3 := blk_frozen R5.out 3; have g4 := blk_frozen R5.out 4; have g5 := blk_frozen R5.out 5; have g6 := blk_frozen R5.out 6
  go_wp2
  have hge := X5.out.ge
  have G := row7_set R5.out (.int .i64 0) (.int .i64 0) (.int .i64 1) (.int .i64 tk) (.slice A5 n5 c5) (.string ⟨#[]⟩) (.slice none 0 0)
  refine bodyPost_ret (results_cell_row rfl _ _ w.heap.size 61 _ (0, 0) _ rfl G Tryz.underlying61 rfl (by kernel_rfl)) rfl ?_
  exact ⟨A5, n5, c5, g, L, K, ev, rfl, X5.out.far7 hx _ _ _ _ _ _ _, K5.out.far7 R5.out (by show w0.heap.size ≤ w.heap.size; omega) _ _ _ _ _ _ _, ha4.out, Kp.new7 P5.out (Nat.le_refl _) _ _ _ _ _ _ _⟩
end Go.Proofs.YtaofmmnfenlofaaGreatDoor.QTc
namespace Go.Proofs.YtaofmmnfenlofaaGreatDoor.QTc
open Go.RowKit Go.Proofs.YtaofmmnfenlofaaGreatDoorW.PrintWords Go.Proofs.YtaofmmnfenlofaaGreatDoorW.PrintLast Go.Proofs.YtaofmmnfenlofaaGreatDoorW.PrintMore Go.Proofs.YtaofmmnfenlofaaGreatDoor.Pure
set_option linter.unusedVariables false
set_option linter.unusedSimpArgs false
structure IN2 (bi bd bn : Nat) (W : World) : Prop where
  i : W.heap[bi]? = some (.cells #[.int .u64 1, .slice (some ⟨bd, 0, none⟩) 1 1, .int .u64 0, .int .u64 0, .slice none 0 0, .int .u64 0] 52 (0, 0))
  d : W.heap[bd]? = some (.cells #[.slice (some ⟨bn, 0, none⟩) 1 1] 28 (0, 0))
  n : W.heap[bn]? = some (.cells #[.int .i64 2] 2 (0, 0))
theorem IN2.below {bi bd bn : Nat} {W W' : World} (h : IN2 bi bd bn W) (hb : Below W.heap.size W W') : IN2 bi bd bn W' := ⟨(hb.block _ (blk_lt h.i)).trans h.i, (hb.block _ (blk_lt h.d)).trans h.d, (hb.block _ (blk_lt h.n)).trans h.n⟩
theorem IN2.kpt {B0 : Bs} {bi bd bn : Nat} {W W' : World} (h : IN2 bi bd bn W) (hk : KpT B0 W W' TsAll) : IN2 bi bd bn W' := ⟨hk.blk h.i (by decide), hk.blk h.d (by decide), hk.blk h.n (by decide)⟩
theorem IN2.far {bi bd bn g t : Nat} {W : World} {cs : Array Value} (h : IN2 bi bd bn W) (hg : W.heap[g]? = some (.cells cs t (0, 0))) (ht : t = 61) (i : Nat) (u : Value) : IN2 bi bd bn (W.setCell ⟨g, i, none⟩ u) := by
  subst ht
  exact ⟨blk_far h.i (p := ⟨g, i, none⟩) (blk_ne h.i hg (by decide)) u, blk_far h.d (p := ⟨g, i, none⟩) (blk_ne h.d hg (by decide)) u, blk_far h.n (p := ⟨g, i, none⟩) (blk_ne h.n hg (by decide)) u⟩
theorem IN2.dem {bi bd bn : Nat} {W : World} (h : IN2 bi bd bn W) : Kd.C (Kd.slice 2 (Kd.int .i64)) W (some ⟨bd, 0, none⟩) 1 [[2]] := by
  have hn : Kd.C (Kd.int .i64) W (some ⟨bn, 0, none⟩) 1 [2] := by
    refine ⟨rfl, by decide, fun _ => ⟨_, rfl, fun j p hj => ?_⟩⟩
    cases j with
    | zero =>
      obtain rfl : (2 : Int) = p := by simpa using hj
      refine ⟨[.int .i64 2], rfl, rfl, fun i u hu => ?_⟩
      cases i with
      | zero => obtain rfl : Value.int .i64 2 = u := by simpa using hu
                exact (blk_cell h.n 0).trans rfl
      | succ i => simp at hu
    | succ j => simp at hj
  refine ⟨rfl, by decide, fun _ => ⟨_, rfl, fun j p hj => ?_⟩⟩
  cases j with
  | zero =>
    obtain rfl : ([2] : List Int) = p := by simpa using hj
    refine ⟨[.slice (some ⟨bn, 0, none⟩) 1 1], rfl, ⟨_, _, rfl, Nat.le_refl _, hn⟩, fun i u hu => ?_⟩
    cases i with
    | zero => obtain rfl : Value.slice (some ⟨bn, 0, none⟩) 1 1 = u := by simpa using hu
              exact (blk_cell h.d 0).trans rfl
    | succ i => simp at hu
  | succ j => simp at hj
structure TK (w0 wS : World) (x g R V bi bd bn : Nat) (A : Option Addr) (c : Nat) (L : KL) (v : Value) (outs : List S43) (Z : KA) (W : World) : Prop where
  xi : XI w0 x 0 (.slice A 1 c) true (some ⟨g, 0, none⟩) W
  inv : ∃ K ev, KInv (bsN w0.heap.size) W g 0 [tA] L K ev none ∧ K.abs = Z
  res : W.heap[R]? = some (.cells z61 61 (0, 0))
  loc : W.heap[V]? = some (.cells #[.int .i64 0, .int .i64 0, .int .i64 0, .int .i64 0, .slice none 0 0, .string ⟨#[]⟩, v] 61 (0, 0))
  out : Kd.R k43 43 W w0.heap.size (fun _ => True) v outs
  inp : IN2 bi bd bn W
  ge : w0.heap.size ≤ R ∧ w0.heap.size ≤ V ∧ R ≠ V
  kp : wS.heap.size ≤ V ∧ ∀ (b : Nat) (cs : Array Value), wS.heap[b]? = some (.cells cs 61 (0, 0)) → W.heap[b]? = some (.cells cs 61 (0, 0))
section
variable {w0 wS W W1 w2 w3 : World} {x g R V bi bd bn : Nat} {A : Option Addr} {c : Nat} {L : KL} {v v' : Value} {outs outs' : List S43} {Z : KA}
theorem TK.below (h : TK w0 wS x g R V bi bd bn A c L v outs Z W) (hb : Below W.heap.size W W1) : TK w0 wS x g R V bi bd bn A c L v outs Z W1 := by
  obtain ⟨K, ev, h1, h2⟩ := h.inv
  exact ⟨h.xi.below hb, ⟨K, ev, h1.below hb, h2⟩, (hb.block _ (blk_lt h.res)).trans h.res, (hb.block _ (blk_lt h.loc)).trans h.loc, Kd.R_below h.out hb, h.inp.below hb, h.ge, h.kp.1, fun b cs hb0 => (hb.block _ (blk_lt (h.kp.2 b cs hb0))).trans (h.kp.2 b cs hb0)⟩
structure TS (w0 wS : World) (x g R V bi bd bn : Nat) (A : Option Addr) (c : Nat) (L : KL) (v : Value) (outs evs : List S43) (Z : KA) (e : Nat) (w2 : World) (ev : Value) : Prop where
  xi : XI w0 x 0 (.slice A 1 c) true (some ⟨g, 0, none⟩) w2
  inv : ∃ K, (∃ hle : w0.heap.size ≤ e, KInv ⟨w0.heap.size, e, hle⟩ w2 g 0 [tA] L K ev none) ∧ K.abs = Z ∧ K.evs = evs
  res : w2.heap[R]? = some (.cells z61 61 (0, 0))
  loc : w2.heap[V]? = some (.cells #[.int .i64 0, .int .i64 0, .int .i64 0, .int .i64 0, .slice none 0 0, .string ⟨#[]⟩, v] 61 (0, 0))
  out : Kd.R k43 43 w2 w0.heap.size (fun _ => True) v outs
  own : ∀ k, v.ownBlock = some k → k < e
  inp : IN2 bi bd bn w2
  ge : w0.heap.size ≤ R ∧ w0.heap.size ≤ V ∧ R ≠ V
  kp : wS.heap.size ≤ V ∧ ∀ (b : Nat) (cs : Array Value), wS.heap[b]? = some (.cells cs 61 (0, 0)) → w2.heap[b]? = some (.cells cs 61 (0, 0))
theorem ts_of (h : TK w0 wS x g R V bi bd bn A c L v outs Z W) {K2 : KS} {ev2 : Value} {Z2 : KA} (hle : w0.heap.size ≤ W.heap.size) (hk : KInv ⟨w0.heap.size, W.heap.size, hle⟩ w2 g 0 [tA] L K2 ev2 none) (ha : K2.abs = Z2) (hkt : KpT ⟨w0.heap.size, W.heap.size, hle⟩ W w2 TsAll) : TS w0 wS x g R V bi bd bn A c L v outs Z2.evs Z2 W.heap.size w2 ev2 :=
  ⟨⟨hkt.blk h.xi.blk (by decide), h.xi.hB.trans (hkt.below hle), h.xi.ge⟩, ⟨K2, ⟨hle, hk⟩, ha, by rw [← ha]; rfl⟩, hkt.blk h.res (by decide), hkt.blk h.loc (by decide), hkt.rowEv h.out (Nat.le_refl _), fun k hk => own_lt_R h.out k hk, h.inp.kpt hkt, h.ge, h.kp.1, fun b cs hb0 => hkt.blk (h.kp.2 b cs hb0) (by decide)⟩
theorem TS.next {e : Nat} {evs : List S43} {ev : Value} (h : TS w0 wS x g R V bi bd bn A c L v outs evs Z e w2 ev) (hR : Kd.R k43 43 w3 w0.heap.size (fun _ => True) v' outs') (hB : Below w0.heap.size w2 w3) (hg : w2.grownBy w3 v.ownBlock) :
    w3.heap[V]? = some (.cells #[.int .i64 0, .int .i64 0, .int .i64 0, .int .i64 0, .slice none 0 0, .string ⟨#[]⟩, v] 61 (0, 0)) ∧ TK w0 wS x g R V bi bd bn A c L v' outs' Z (w3.setCell ⟨V, 6, none⟩ v') := by
  obtain ⟨K, ⟨hle, hk⟩, ha, _⟩ := h.inv
  have hk3 := KInv.out hk h.out h.own hg
  have l3 := blk_grown h.loc hg (Kd.R_ne h.out h.loc (by decide))
  have r3 := blk_grown h.res hg (Kd.R_ne h.out h.res (by decide))
  have x3 := blk_grown h.xi.blk hg (Kd.R_ne h.out h.xi.blk (by decide))
  have i3 : IN2 bi bd bn w3 := ⟨blk_grown h.inp.i hg (Kd.R_ne h.out h.inp.i (by decide)), blk_grown h.inp.d hg (Kd.R_ne h.out h.inp.d (by decide)), blk_grown h.inp.n hg (Kd.R_ne h.out h.inp.n (by decide))⟩
  have l4 := blk_set l3 6 v'
  exact ⟨l3, ⟨blk_far x3 (p := ⟨V, 6, none⟩) (blk_ne x3 l3 (by decide)) _, Below.setCell (h.xi.hB.trans hB) h.ge.2.1 _, h.xi.ge⟩, ⟨K, ev, hk3.far l3 h.ge.2.1 (Or.inr rfl) _ _, ha⟩, blk_far r3 (by show R ≠ V; exact h.ge.2.2) _, by simpa using l4, Kd.R_set hR l3 (fun q hq => by rw [List.mem_singleton.mp hq]; decide) _ _, i3.far l3 rfl _ _, h.ge, h.kp.1, fun b cs hb0 => (by have hl := blk_lt hb0; have hv := h.kp.1; exact blk_far (blk_grown (h.kp.2 b cs hb0) hg (Kd.R_ne h.out (h.kp.2 b cs hb0) (by decide))) (p := ⟨V, 6, none⟩) (by show b ≠ V; omega) _)⟩
end
theorem tA_odd : ∀ t ∈ [tA], 1 ≤ t.f6.length ∧ t.f6.length ≤ 8 ∧ t.f6.any oddTime = false := fun t ht => by rw [List.mem_singleton.mp ht]; decide
theorem tA_U : ∀ t ∈ [tA], (0 ≤ t.f7 ∧ t.f7 < 18446744073709551616) ∧ (0 ≤ t.f8 ∧ t.f8 < 18446744073709551616) := fun t ht => by rw [List.mem_singleton.mp ht]; decide
theorem tick_one {w0 wS W : World} {x g R V bi bd bn : Nat} {A : Option Addr} {c : Nat} {L : KL} {v : Value} {outs : List S43} (hTw : ∀ W, Below w0.heap.size w0 W → TabW W) (h : TK w0 wS x g R V bi bd bn A c L v outs (newA [tA]) W) :
    Calls Tryz.prog 27 #[.pointer (some ⟨g, 0, none⟩), .agg #[.int .u64 1, .slice (some ⟨bd, 0, none⟩) 1 1, .int .u64 0]] W fun e w2 => ∃ ev, e = .returned ev ∧ TS w0 wS x g R V bi bd bn A c L v outs kA1.evs kA1 W.heap.size w2 ev := by
  obtain ⟨K, ev, hk, ha⟩ := h.inv
  have hle := h.xi.hB.size
  have hm : midA [tA] [[2]] 1 K.abs = kM1 := by rw [ha, mid1]
  have htk : K.tick = 0 := congrArg KA.tick ha
  have H := step_calls (bsN w0.heap.size) ⟨w0.heap.size, W.heap.size, hle⟩ W g 0 [tA] L K ev 1 (some ⟨bd, 0, none⟩) 1 [[2]] 0 (fun W' hW => hTw W' (h.xi.hB.trans (hW.below hle))) hk rfl (Nat.le_refl _) (by decide) (by decide) (fun W' hW => (h.inp.kpt hW).dem) (by omega) (by omega) tA_odd tA_U (by
    intro i hi hp
    rw [hm]
    obtain rfl : i = 0 := by simp at hi; omega
    unfold JRdy; decide)
  rw [hm] at H
  refine H.mono ?_
  rintro e w2 ⟨r, hcr, hwho, ⟨K2, ev2, rfl, hk2, ha2⟩, hkt⟩
  rw [cho1] at hcr
  obtain rfl := Option.some.inj hcr
  rw [go1] at ha2
  exact ⟨ev2, rfl, ts_of h hle hk2 ha2 hkt⟩
theorem tick_two {w0 wS W : World} {x g R V bi bd bn : Nat} {A : Option Addr} {c : Nat} {L : KL} {v : Value} {outs : List S43} (hTw : ∀ W, Below w0.heap.size w0 W → TabW W) (h : TK w0 wS x g R V bi bd bn A c L v outs kA1 W) :
    Calls Tryz.prog 27 #[.pointer (some ⟨g, 0, none⟩), .agg #[.int .u64 0, .slice none 0 0, .int .u64 0]] W fun e w2 => ∃ ev, e = .returned ev ∧ TS w0 wS x g R V bi bd bn A c L v outs kA2.evs kA2 W.heap.size w2 ev := by
  obtain ⟨K, ev, hk, ha⟩ := h.inv
  have hle := h.xi.hB.size
  have hm : midA [tA] [] 0 K.abs = kM2 := by rw [ha, mid2]
  have htk : K.tick = 1 := congrArg KA.tick ha
  have H := step_calls (bsN w0.heap.size) ⟨w0.heap.size, W.heap.size, hle⟩ W g 0 [tA] L K ev 0 none 0 [] 0 (fun W' hW => hTw W' (h.xi.hB.trans (hW.below hle))) hk rfl (Nat.le_refl _) (by decide) (by decide) (fun W' hW => Kd.C_nil _ _) (by omega) (by omega) tA_odd tA_U (by
    intro i hi hp
    rw [hm]
    obtain rfl : i = 0 := by simp at hi; omega
    unfold JRdy; decide)
  rw [hm] at H
  refine H.mono ?_
  rintro e w2 ⟨r, hcr, hwho, ⟨K2, ev2, rfl, hk2, ha2⟩, hkt⟩
  rw [cho2] at hcr
  obtain rfl := Option.some.inj hcr
  rw [go2] at ha2
  exact ⟨ev2, rfl, ts_of h hle hk2 ha2 hkt⟩
set_option maxHeartbeats 16000000 in
set_option maxRecDepth 100000 in
theorem ticks_calls {w0 w : World} {x g bi bd bn : Nat} {A : Option Addr} {c cI : Nat} {L : KL} {K : KS} {ev : Value} (hTw : ∀ W, Below w0.heap.size w0 W → TabW W) (h : XI w0 x 0 (.slice A 1 c) true (some ⟨g, 0, none⟩) w) (hk : KInv (bsN w0.heap.size) w g 0 [tA] L K ev none) (ha : K.abs = newA [tA]) (hi : IN2 bi bd bn w) :
    Calls Tryz.prog 44 #[.pointer (some ⟨x, 0, none⟩), .slice (some ⟨bi, 0, none⟩) 2 cI] w fun e w' => ∃ A5 c5, e = .returned (.agg #[.int .i64 0, .int .i64 0, .int .i64 0, .int .i64 0, .slice none 0 0, .string ⟨#[]⟩, .slice A5 4 c5]) ∧ Below w0.heap.size w0 w' ∧ Kd.R k43 43 w' w0.heap.size (fun _ => True) (.slice A5 4 c5) (kA1.evs ++ kA2.evs) ∧ ∀ (b : Nat) (cs : Array Value), w.heap[b]? = some (.cells cs 61 (0, 0)) → w'.heap[b]? = some (.cells cs 61 (0, 0)) := by
  have hu52 := Tryz.underlying52
  have hu61 := Tryz.underlying61
  have hb0 : Below w.heap.size w ((w.alloc (.cells z61 61)).alloc (.cells z61 61)) := Below.alloc (Below.alloc (Below.refl _ _) (Nat.le_refl _) _) (by simp) _
  have k3 : w.cell? ⟨x, 3, none⟩ = some (.pointer (some ⟨g, 0, none⟩)) := blk_cell h.blk 3
  have hx := blk_lt h.blk
  have HT := Aside0.mk (show TK w0 w x g w.heap.size (w.heap.size + 1) bi bd bn A c L (.slice none 0 0) [] (newA [tA]) ((w.alloc (.cells z61 61)).alloc (.cells z61 61)) by
    have hs := h.hB.size
    refine ⟨h.below hb0, ⟨K, ev, hk.below hb0, ha⟩, ?_, ?_, Kd.R_nil _ _ _ _ _, hi.below hb0, ⟨hs, by omega, by omega⟩, Nat.le_succ _, fun b cs hb1 => (hb0.block _ (blk_lt hb1)).trans hb1⟩
    · exact blk_alloc (heap_alloc_new w _) _
    · have := heap_alloc_new (w.alloc (.cells z61 61)) (.cells z61 61)
      simpa using this)
  have HTw := Aside0.mk hTw
  have HH := Aside0.mk (And.intro h.hB.size h.hB)
  have hnp : ∀ (g : Nat) (w : World), (binOp .eql 65 (.pointer (some ⟨g, 0, none⟩)) (.pointer none)).run Tryz.prog w = .ok (.bool false) w := fun g w => by kernel_rfl
  clear h hk ha hi hTw hb0
  go_enter Tryz.func44, Tryz.ntmps44
  go_upto_region 7 with fail
  generalize w.heap.size + 1 = V at HT ⊢
  have HRw := Aside0.mk (Nat.le_refl w.heap.size)
  generalize hRw : w.heap.size = R at HT ⊢
  replace HRw := Aside0.mk hRw
  clear hRw
  go_loopg [20] 3 (fun kq v20 w' => (∃ v, kq = 3 ∧ v20 = .int .i64 0 ∧ TK w0 w x g R V bi bd bn A c L v [] (newA [tA]) w') ∨ (∃ v, kq = 2 ∧ v20 = .int .i64 1 ∧ TK w0 w x g R V bi bd bn A c L v kA1.evs kA1 w') ∨ (∃ v, kq = 1 ∧ v20 = .int .i64 2 ∧ TK w0 w x g R V bi bd bn A c L v (kA1.evs ++ kA2.evs) kA2 w'))
  case atStart => exact Or.inl ⟨_, rfl, rfl, HT.out⟩
  case round =>
    clear HT k3
    rcases hrel with ⟨v, rfl, rfl, HT0⟩ | ⟨v, rfl, rfl, HT0⟩ | ⟨v, rfl, rfl, HT0⟩
    · have H := Aside0.mk HT0
      clear HT0
      have y0 := (blk_cell H.out.inp.i 0).trans rfl
      have y1 := (blk_cell H.out.inp.i 1).trans rfl
      have y2 := (blk_cell H.out.inp.i 2).trans rfl
      obtain ⟨Ao, co, rfl⟩ := Kd.R_slice H.out.out
      go_upto_region 9 with fail
      have hal : Below wr.heap.size wr (wr.alloc (.cells #[.int .u64 1, .slice (some ⟨bd, 0, none⟩) 1 1, .int .u64 0] 52)) := Below.alloc (Below.refl _ _) (Nat.le_refl _) _
      have H1 := Aside0.mk (H.out.below hal)
      have l1 := heap_alloc_new wr (.cells #[.int .u64 1, .slice (some ⟨bd, 0, none⟩) 1 1, .int .u64 0] 52)
      clear H hal y0 y1 y2
      generalize (wr.alloc (.cells #[.int .u64 1, .slice (some ⟨bd, 0, none⟩) 1 1, .int .u64 0] 52)) = W1 at H1 l1 ⊢
      generalize wr.heap.size = ib at l1 ⊢
      have y0 := (blk_cell l1 0).trans rfl
      have y1 := (blk_cell l1 1).trans rfl
      have y2 := (blk_cell l1 2).trans rfl
      have z6 := (blk_cell H1.out.loc 6).trans rfl
      have k3 := (blk_cell H1.out.xi.blk 3).trans rfl
      have hV := blk_lt H1.out.loc
      clear l1
      have HD := Aside0.mk (H1.out.below (below_drew (Below.refl _ _)))
      go_region_law (first | (refine Kd.R_append_rows_step k43 (Rr := k43.K w5) (w0 := w5) w0.heap.size (by rfl) _ _ 37 43 (.agg #[.int .i64 0, .int .i64 0, .int .i64 0, .int .i64 0]) 32 (by rfl) Tryz.underlying37 info43k rfl (by decide) (by omega) (.slice Ao (([] : List S43)).length co) ([] : List S43) kA1.evs A3 kA1.evs.length c3 (fun _ => True) (fun _ => False) (by rfl) (by rfl) ?aO ?aR ?aK (fun _ hk => hk.elim) (fun _ _ => trivial) ?aB ?aS ?aL ?_; (case aO => exact HS5.out.out); (case aR => exact HR3.out); (case aK => intro x cs h; obtain rfl := k43_open h; exact k43_mkM _ _ _ _); (case aB => exact Below.refl _ _); (case aS => exact HS5.out.xi.hB.size); (case aL => decide); intro v9 w9 hR9 hB9 hg9 hat9; obtain ⟨A9, c9, rfl⟩ := Kd.R_slice hR9; have H9 := Aside0.mk (TS.next HS5.out hR9 hB9 hg9); have z69 := (blk_cell H9.out.1 6).trans rfl; have q69 := blk_frozen H9.out.1 6; clear hR9 hB9 hg9 hat9) | (go_simp; go_at_call 27; (with_reducible refine (tick_one HTw.out HD.out).mono ?_); rintro e w5 ⟨ev5, rfl, hs5⟩; have HS5 := Aside0.mk hs5; obtain ⟨K5, ⟨hle5, hk5⟩, ha5, he5⟩ := hs5.inv; obtain ⟨A3, c3, rfl⟩ := Kd.R_slice hk5.evs; have HR3 := Aside0.mk (Kd.R_reads' hk5.evs).2.2; rw [he5] at HR3 ⊢; have z65 := (blk_cell hs5.loc 6).trans rfl; have hV5 := blk_lt hs5.loc; clear hs5 hk5 ha5))
      all_goals
        go_wp2
        go_roundg 2
        case measure => exact Nat.lt_succ_self _
        case rel => exact Or.inr (Or.inl ⟨_, rfl, rfl, H9.out.2⟩)
    · have H := Aside0.mk HT0
      clear HT0
      have y0 := (blk_cell H.out.inp.i 3).trans rfl
      have y1 := (blk_cell H.out.inp.i 4).trans rfl
      have y2 := (blk_cell H.out.inp.i 5).trans rfl
      obtain ⟨Ao, co, rfl⟩ := Kd.R_slice H.out.out
      go_upto_region 9 with fail
      have hal : Below wr.heap.size wr (wr.alloc (.cells #[.int .u64 0, .slice none 0 0, .int .u64 0] 52)) := Below.alloc (Below.refl _ _) (Nat.le_refl _) _
      have H1 := Aside0.mk (H.out.below hal)
      have l1 := heap_alloc_new wr (.cells #[.int .u64 0, .slice none 0 0, .int .u64 0] 52)
      clear H hal y0 y1 y2
      generalize (wr.alloc (.cells #[.int .u64 0, .slice none 0 0, .int .u64 0] 52)) = W1 at H1 l1 ⊢
      generalize wr.heap.size = ib at l1 ⊢
      have y0 := (blk_cell l1 0).trans rfl
      have y1 := (blk_cell l1 1).trans rfl
      have y2 := (blk_cell l1 2).trans rfl
      have z6 := (blk_cell H1.out.loc 6).trans rfl
      have k3 := (blk_cell H1.out.xi.blk 3).trans rfl
      have hV := blk_lt H1.out.loc
      clear l1
      have HD := Aside0.mk (H1.out.below (below_drew (Below.refl _ _)))
      go_region_law (first | (refine Kd.R_append_rows_step k43 (Rr := k43.K w5) (w0 := w5) w0.heap.size (by rfl) _ _ 37 43 (.agg #[.int .i64 0, .int .i64 0, .int .i64 0, .int .i64 0]) 32 (by rfl) Tryz.underlying37 info43k rfl (by decide) (by omega) (.slice Ao (kA1.evs).length co) kA1.evs kA2.evs A3 kA2.evs.length c3 (fun _ => True) (fun _ => False) (by rfl) (by rfl) ?aO ?aR ?aK (fun _ hk => hk.elim) (fun _ _ => trivial) ?aB ?aS ?aL ?_; (case aO => exact HS5.out.out); (case aR => exact HR3.out); (case aK => intro x cs h; obtain rfl := k43_open h; exact k43_mkM _ _ _ _); (case aB => exact Below.refl _ _); (case aS => exact HS5.out.xi.hB.size); (case aL => decide); intro v9 w9 hR9 hB9 hg9 hat9; obtain ⟨A9, c9, rfl⟩ := Kd.R_slice hR9; have H9 := Aside0.mk (TS.next HS5.out hR9 hB9 hg9); have z69 := (blk_cell H9.out.1 6).trans rfl; have q69 := blk_frozen H9.out.1 6; clear hR9 hB9 hg9 hat9) | (go_simp; go_at_call 27; (with_reducible refine (tick_two HTw.out HD.out).mono ?_); rintro e w5 ⟨ev5, rfl, hs5⟩; have HS5 := Aside0.mk hs5; obtain ⟨K5, ⟨hle5, hk5⟩, ha5, he5⟩ := hs5.inv; obtain ⟨A3, c3, rfl⟩ := Kd.R_slice hk5.evs; have HR3 := Aside0.mk (Kd.R_reads' hk5.evs).2.2; rw [he5] at HR3 ⊢; have z65 := (blk_cell hs5.loc 6).trans rfl; have hV5 := blk_lt hs5.loc; clear hs5 hk5 ha5))
      all_goals
        go_wp2
        go_roundg 1
        case measure => exact Nat.lt_succ_self _
        case rel => exact Or.inr (Or.inr ⟨_, rfl, rfl, H9.out.2⟩)
    · have H := Aside0.mk HT0
      clear HT0
      obtain ⟨Ao, co, rfl⟩ := Kd.R_slice H.out.out
      have u0 := (blk_cell H.out.loc 0).trans rfl; have u1 := (blk_cell H.out.loc 1).trans rfl; have u2 := (blk_cell H.out.loc 2).trans rfl; have u3 := (blk_cell H.out.loc 3).trans rfl; have u4 := (blk_cell H.out.loc 4).trans rfl; have u5 := (blk_cell H.out.loc 5).trans rfl; have u6 := (blk_cell H.out.loc 6).trans rfl
      have r0 := (blk_cell H.out.res 0).trans rfl; have r1 := (blk_cell H.out.res 1).trans rfl; have r2 := (blk_cell H.out.res 2).trans rfl; have r3 := (blk_cell H.out.res 3).trans rfl; have r4 := (blk_cell H.out.res 4).trans rfl; have r5 := (blk_cell H.out.res 5).trans rfl; have r6 := (blk_cell H.out.res 6).trans rfl
      have g0 := blk_frozen H.out.res 0; have g1 := blk_frozen H.out.res 1; have g2 := blk_frozen H.out.res 2; have g3 := blk_frozen H.out.res 3; have g4 := blk_frozen H.out.res 4; have g5 := blk_frozen H.out.res 5; have g6 := blk_frozen H.out.res 6
      have G := row7_set H.out.res (.int .i64 0) (.int .i64 0) (.int .i64 0) (.int .i64 0) (.slice none 0 0) (.string ⟨#[]⟩) (.slice Ao (kA1.evs ++ kA2.evs).length co)
      have GR := R_set7 H.out.out H.out.res (fun q hq => by rw [List.mem_singleton.mp hq]; decide) (.int .i64 0) (.int .i64 0) (.int .i64 0) (.int .i64 0) (.slice none 0 0) (.string ⟨#[]⟩) (.slice Ao (kA1.evs ++ kA2.evs).length co)
      have GB : Below w0.heap.size w0 (((((((wr.setCell ⟨R, 0, none⟩ (.int .i64 0)).setCell ⟨R, 1, none⟩ (.int .i64 0)).setCell ⟨R, 2, none⟩ (.int .i64 0)).setCell ⟨R, 3, none⟩ (.int .i64 0)).setCell ⟨R, 4, none⟩ (.slice none 0 0)).setCell ⟨R, 5, none⟩ (.string ⟨#[]⟩)).setCell ⟨R, 6, none⟩ (.slice Ao (kA1.evs ++ kA2.evs).length co)) := below_set7 H.out.xi.hB H.out.ge.1 _ _ _ _ _ _ _
      obtain ⟨n4, hn4⟩ : ∃ n4, n4 = (kA1.evs ++ kA2.evs).length := ⟨_, rfl⟩
      have h4 : n4 = 4 := hn4.trans (by decide)
      rw [← hn4] at u6 G GR GB
      subst h4
      replace G := Aside0.mk G
      replace GR := Aside0.mk GR
      replace GB := Aside0.mk GB
      clear hn4
      go_wp2
      refine bodyPost_ret (results_cell_row rfl _ _ R 61 _ (0, 0) _ rfl G.out Tryz.underlying61 rfl (by kernel_rfl)) rfl ?_
      exact ⟨Ao, co, rfl, GB.out, GR.out, fun b cs hb0 => (by have hl := blk_lt hb0; have hw := HRw.out; have hne : b ≠ R := (by omega); exact blk_far (blk_far (blk_far (blk_far (blk_far (blk_far (blk_far (H.out.kp.2 b cs hb0) (p := ⟨R, 0, none⟩) hne _) (p := ⟨R, 1, none⟩) hne _) (p := ⟨R, 2, none⟩) hne _) (p := ⟨R, 3, none⟩) hne _) (p := ⟨R, 4, none⟩) hne _) (p := ⟨R, 5, none⟩) hne _) (p := ⟨R, 6, none⟩) hne _)⟩
theorem do_start {w : World} (cs : Array Value) : Below w.heap.size w ((w.alloc (.cells cs 64)).alloc (.cells z61 61)) ∧ ((w.alloc (.cells cs 64)).alloc (.cells z61 61)).heap[w.heap.size]? = some (.cells cs 64 (0, 0)) ∧ ((w.alloc (.cells cs 64)).alloc (.cells z61 61)).heap[w.heap.size + 1]? = some (.cells z61 61 (0, 0)) := by
  refine ⟨Below.alloc (Below.alloc (Below.refl _ _) (Nat.le_refl _) _) (by simp) _, blk_alloc (heap_alloc_new w _) _, ?_⟩
  have := heap_alloc_new (w.alloc (.cells cs 64)) (.cells z61 61)
  simpa using this
theorem hnp58 : ∀ (g : Nat) (w : World), (binOp .eql 58 (.pointer (some ⟨g, 0, none⟩)) (.pointer none)).run Tryz.prog w = .ok (.bool false) w := fun g w => by kernel_rfl
set_option maxHeartbeats 8000000 in
set_option maxRecDepth 100000 in
theorem do_load {w0 w : World} {x : Nat} (s : ByteArray) (rl m : Int) (T : List S46) (h : XI w0 x 0 (.slice none 0 0) false none w) (hT1 : T.length = 1)
    (hP : ∀ W, Below w.heap.size w W → Calls Tryz.prog 74 #[.string s] W fun e w' => ∃ A c, e = .returned (.tuple #[.agg #[.int .i64 rl, .slice A 1 c], .int .i64 m, .int .i64 0]) ∧ Kd.R k46 46 w' W.heap.size (fun _ => True) (.slice A 1 c) T ∧ Below W.heap.size W w') :
    Calls Tryz.prog 25 #[.pointer (some ⟨x, 0, none⟩), .agg #[.int .i64 1, .string s, .bool false, .slice none 0 0]] w fun e w' => ∃ A c, e = .returned (.agg #[.int .i64 0, .int .i64 m, .int .i64 0, .int .i64 0, .slice none 0 0, .string ⟨#[]⟩, .slice none 0 0]) ∧ XI w0 x rl (.slice A 1 c) true none w' ∧ Kd.R k46 46 w' w0.heap.size (fun _ => True) (.slice A 1 c) T := by
  have hu61 := Tryz.underlying61
  have hu64 := Tryz.underlying64
  have hnp := hnp58
  have hx := blk_lt h.blk
  obtain ⟨b1, b2, b3⟩ := do_start (w := w) #[.int .i64 1, .string s, .bool false, .slice none 0 0]
  have HL := Aside0.mk (load_calls s rl m T (h.below b1) hT1 (fun W hW => hP W (b1.trans (hW.mono b1.size))))
  have HX := Aside0.mk (h.below b1)
  have HR := Aside0.mk b3
  have HG := Aside0.mk (show w0.heap.size ≤ w.heap.size + 1 from Nat.le_trans h.hB.size (Nat.le_succ _))
  clear h hP
  go_enter Tryz.func25, Tryz.ntmps25
  go_upto_region 1 with fail
  have hxR : x < w.heap.size + 1 := by omega
  generalize ((w.alloc (.cells #[.int .i64 1, .string s, .bool false, .slice none 0 0] 64)).alloc (.cells z61 61)) = W1 at HL HX HR b2 ⊢
  generalize w.heap.size + 1 = R at HR HG hxR ⊢
  have k0 := (blk_cell b2 0).trans rfl
  have k1 := (blk_cell b2 1).trans rfl
  have kx := blk_lt HX.out.blk
  have hRl := blk_lt HR.out
  go_wp2_with (go_at_call 40; (with_reducible refine HL.out.mono ?_); rintro e w2 ⟨A, c, rfl, hx2, hr2, hk2⟩; have HR2 := Aside0.mk (hk2.blk HR.out (fun e => by omega)); have HX2 := Aside0.mk hx2; have HT2 := Aside0.mk hr2; have r0 := (blk_cell HR2.out 0).trans rfl; have g0 := blk_frozen HR2.out 0; have r1 := (blk_cell HR2.out 1).trans rfl; have g1 := blk_frozen HR2.out 1; have r2 := (blk_cell HR2.out 2).trans rfl; have g2 := blk_frozen HR2.out 2; have r3 := (blk_cell HR2.out 3).trans rfl; have g3 := blk_frozen HR2.out 3; have r4 := (blk_cell HR2.out 4).trans rfl; have g4 := blk_frozen HR2.out 4; have r5 := (blk_cell HR2.out 5).trans rfl; have g5 := blk_frozen HR2.out 5; have r6 := (blk_cell HR2.out 6).trans rfl; have g6 := blk_frozen HR2.out 6; clear hx2 hr2 hk2)
  have G := row7_set HR2.out (.int .i64 0) (.int .i64 m) (.int .i64 0) (.int .i64 0) (.slice none 0 0) (.string ⟨#[]⟩) (.slice none 0 0)
  refine bodyPost_ret (results_cell_row rfl _ _ R 61 _ (0, 0) _ rfl G Tryz.underlying61 rfl (by kernel_rfl)) rfl ?_
  exact ⟨A, c, rfl, HX2.out.far7 hxR _ _ _ _ _ _ _, R_set7 HT2.out HR2.out (fun q hq => by rcases k46_E q hq with rfl | rfl <;> decide) _ _ _ _ _ _ _⟩
set_option maxHeartbeats 8000000 in
set_option maxRecDepth 100000 in
theorem do_start5 {w0 w : World} {x : Nat} {rl tk : Int} {A : Option Addr} {c : Nat} {T : List S46} (h : XI w0 x rl (.slice A T.length c) true none w)
    (hJ : ∀ W, Below w.heap.size w W → Calls Tryz.prog 9 #[.agg #[.int .i64 rl, .slice A T.length c]] W fun e w' => ∃ A5 n5 c5, e = .returned (.tuple #[.agg #[.int .i64 1, .int .i64 tk, .slice A5 n5 c5], .int .i64 0]) ∧ Below W.heap.size W w')
    (hN : ∀ W, Below w.heap.size w W → Calls Tryz.prog 26 #[.agg #[.int .i64 rl, .slice A T.length c]] W fun e w' => ∃ g L K ev, e = .returned (.tuple #[.pointer (some ⟨g, 0, none⟩), .int .i64 0]) ∧ KInv (bsN W.heap.size) w' g rl T L K ev none ∧ K.abs = newA T ∧ Below W.heap.size W w') :
    Calls Tryz.prog 25 #[.pointer (some ⟨x, 0, none⟩), .agg #[.int .i64 5, .string ⟨#[]⟩, .bool false, .slice none 0 0]] w fun e w' => ∃ A5 n5 c5 g L K ev, e = .returned (.agg #[.int .i64 0, .int .i64 0, .int .i64 1, .int .i64 tk, .slice A5 n5 c5, .string ⟨#[]⟩, .slice none 0 0]) ∧ XI w0 x rl (.slice A T.length c) true (some ⟨g, 0, none⟩) w' ∧ KInv (bsN w0.heap.size) w' g rl T L K ev none ∧ K.abs = newA T := by
  have hu61 := Tryz.underlying61
  have hu64 := Tryz.underlying64
  have hnp := hnp58
  have hx := blk_lt h.blk
  obtain ⟨b1, b2, b3⟩ := do_start (w := w) #[.int .i64 5, .string ⟨#[]⟩, .bool false, .slice none 0 0]
  have HL := Aside0.mk (start_calls (tk := tk) false (h.below b1) (fun W hW => hJ W (b1.trans (hW.mono b1.size))) (fun W hW => hN W (b1.trans (hW.mono b1.size))))
  have HX := Aside0.mk (h.below b1)
  have HR := Aside0.mk b3
  have HG := Aside0.mk (show w0.heap.size ≤ w.heap.size + 1 from Nat.le_trans h.hB.size (Nat.le_succ _))
  clear h hJ hN
  go_enter Tryz.func25, Tryz.ntmps25
  go_upto_region 1 with fail
  have hxR : x < w.heap.size + 1 := by omega
  generalize ((w.alloc (.cells #[.int .i64 5, .string ⟨#[]⟩, .bool false, .slice none 0 0] 64)).alloc (.cells z61 61)) = W1 at HL HX HR b2 ⊢
  generalize w.heap.size + 1 = R at HR HG hxR ⊢
  have k0 := (blk_cell b2 0).trans rfl
  have k2 := (blk_cell b2 2).trans rfl
  have kx := blk_lt HX.out.blk
  have hRl := blk_lt HR.out
  go_wp2_with (go_at_call 43; (with_reducible refine HL.out.mono ?_); rintro e w2 ⟨A5, n5, c5, g, L, K, ev, rfl, hx2, hr2, ha2, hk2⟩; have HR2 := Aside0.mk (hk2.blk HR.out (fun e => by omega)); have HX2 := Aside0.mk hx2; have HT2 := Aside0.mk hr2; replace ha2 := Aside0.mk ha2; have r0 := (blk_cell HR2.out 0).trans rfl; have g0 := blk_frozen HR2.out 0; have r1 := (blk_cell HR2.out 1).trans rfl; have g1 := blk_frozen HR2.out 1; have r2 := (blk_cell HR2.out 2).trans rfl; have g2 := blk_frozen HR2.out 2; have r3 := (blk_cell HR2.out 3).trans rfl; have g3 := blk_frozen HR2.out 3; have r4 := (blk_cell HR2.out 4).trans rfl; have g4 := blk_frozen HR2.out 4; have r5 := (blk_cell HR2.out 5).trans rfl; have g5 := blk_frozen HR2.out 5; have r6 := (blk_cell HR2.out 6).trans rfl; have g6 := blk_frozen HR2.out 6; clear hx2 hr2 hk2)
  have G := row7_set HR2.out (.int .i64 0) (.int .i64 0) (.int .i64 1) (.int .i64 tk) (.slice A5 n5 c5) (.string ⟨#[]⟩) (.slice none 0 0)
  refine bodyPost_ret (results_cell_row rfl _ _ R 61 _ (0, 0) _ rfl G Tryz.underlying61 rfl (by kernel_rfl)) rfl ?_
  exact ⟨A5, n5, c5, g, L, K, ev, rfl, HX2.out.far7 hxR _ _ _ _ _ _ _, HT2.out.far7 HR2.out HG.out _ _ _ _ _ _ _, ha2.out⟩
set_option maxHeartbeats 8000000 in
set_option maxRecDepth 100000 in
theorem do_ticks {w0 w : World} {x g bi bd bn : Nat} {A : Option Addr} {c cI : Nat} {L : KL} {K : KS} {ev : Value} (hTw : ∀ W, Below w0.heap.size w0 W → TabW W) (h : XI w0 x 0 (.slice A 1 c) true (some ⟨g, 0, none⟩) w) (hk : KInv (bsN w0.heap.size) w g 0 [tA] L K ev none) (ha : K.abs = newA [tA]) (hi : IN2 bi bd bn w) :
    Calls Tryz.prog 25 #[.pointer (some ⟨x, 0, none⟩), .agg #[.int .i64 6, .string ⟨#[]⟩, .bool false, .slice (some ⟨bi, 0, none⟩) 2 cI]] w fun e w' => ∃ A5 c5, e = .returned (.agg #[.int .i64 0, .int .i64 0, .int .i64 0, .int .i64 0, .slice none 0 0, .string ⟨#[]⟩, .slice A5 4 c5]) ∧ Below w0.heap.size w0 w' ∧ Kd.R k43 43 w' w0.heap.size (fun _ => True) (.slice A5 4 c5) (kA1.evs ++ kA2.evs) := by
  have hu61 := Tryz.underlying61
  have hu64 := Tryz.underlying64
  have hnp := hnp58
  have hx := blk_lt h.blk
  obtain ⟨b1, b2, b3⟩ := do_start (w := w) #[.int .i64 6, .string ⟨#[]⟩, .bool false, .slice (some ⟨bi, 0, none⟩) 2 cI]
  have HL := Aside0.mk (ticks_calls (cI := cI) hTw (h.below b1) (hk.below b1) ha (hi.below b1))
  have HR := Aside0.mk b3
  have HG := Aside0.mk (show w0.heap.size ≤ w.heap.size + 1 from Nat.le_trans h.hB.size (Nat.le_succ _))
  clear h hk ha hi hTw
  go_enter Tryz.func25, Tryz.ntmps25
  go_upto_region 1 with fail
  generalize ((w.alloc (.cells #[.int .i64 6, .string ⟨#[]⟩, .bool false, .slice (some ⟨bi, 0, none⟩) 2 cI] 64)).alloc (.cells z61 61)) = W1 at HL HR b2 ⊢
  generalize w.heap.size + 1 = R at HR HG ⊢
  have k0 := (blk_cell b2 0).trans rfl
  have k3 := (blk_cell b2 3).trans rfl
  go_wp2_with (go_at_call 44; (with_reducible refine HL.out.mono ?_); rintro e w2 ⟨A5, c5, rfl, hb2, hc2, hk2⟩; have HR2 := Aside0.mk (hk2 _ _ HR.out); have HB2 := Aside0.mk hb2; have HC2 := Aside0.mk hc2; have r0 := (blk_cell HR2.out 0).trans rfl; have g0 := blk_frozen HR2.out 0; have r1 := (blk_cell HR2.out 1).trans rfl; have g1 := blk_frozen HR2.out 1; have r2 := (blk_cell HR2.out 2).trans rfl; have g2 := blk_frozen HR2.out 2; have r3 := (blk_cell HR2.out 3).trans rfl; have g3 := blk_frozen HR2.out 3; have r4 := (blk_cell HR2.out 4).trans rfl; have g4 := blk_frozen HR2.out 4; have r5 := (blk_cell HR2.out 5).trans rfl; have g5 := blk_frozen HR2.out 5; have r6 := (blk_cell HR2.out 6).trans rfl; have g6 := blk_frozen HR2.out 6; clear hb2 hc2 hk2)
  have G := row7_set HR2.out (.int .i64 0) (.int .i64 0) (.int .i64 0) (.int .i64 0) (.slice none 0 0) (.string ⟨#[]⟩) (.slice A5 4 c5)
  have GB := below_set7 HB2.out HG.out (.int .i64 0) (.int .i64 0) (.int .i64 0) (.int .i64 0) (.slice none 0 0) (.string ⟨#[]⟩) (.slice A5 4 c5)
  have GC := R_set7 HC2.out HR2.out (fun q hq => by rw [List.mem_singleton.mp hq]; decide) (.int .i64 0) (.int .i64 0) (.int .i64 0) (.int .i64 0) (.slice none 0 0) (.string ⟨#[]⟩) (.slice A5 4 c5)
  replace G := Aside0.mk G
  replace GB := Aside0.mk GB
  replace GC := Aside0.mk GC
  clear r0 r1 r2 r3 r4 r5 r6 g0 g1 g2 g3 g4 g5 g6 HR2 HC2 HB2 HL HG
  refine bodyPost_ret (results_cell_row rfl _ _ R 61 _ (0, 0) _ rfl G.out Tryz.underlying61 rfl (by kernel_rfl)) rfl ?_
  exact ⟨A5, c5, rfl, GB.out, GC.out⟩
abbrev kText : ByteArray := ⟨#[114, 101, 108, 111, 97, 100, 32, 48, 59, 32, 116, 97, 115, 107, 32, 97, 32, 112, 101, 114, 105, 111, 100, 32, 53, 32, 100, 101, 97, 100, 108, 105, 110, 101, 32, 53, 32, 102, 105, 120, 101, 100, 32, 114, 101, 103, 105, 111, 110, 115, 32, 50, 59]⟩
def kToks : List S155 := [⟨3, ⟨#[114, 101, 108, 111, 97, 100]⟩, 0, 0⟩, ⟨2, ⟨#[]⟩, 0, 7⟩, ⟨3, ⟨#[59]⟩, 0, 8⟩, ⟨3, ⟨#[116, 97, 115, 107]⟩, 0, 10⟩, ⟨1, ⟨#[97]⟩, 0, 15⟩, ⟨3, ⟨#[112, 101, 114, 105, 111, 100]⟩, 0, 17⟩, ⟨2, ⟨#[]⟩, 5, 24⟩, ⟨3, ⟨#[100, 101, 97, 100, 108, 105, 110, 101]⟩, 0, 26⟩, ⟨2, ⟨#[]⟩, 5, 35⟩, ⟨3, ⟨#[102, 105, 120, 101, 100]⟩, 0, 37⟩, ⟨3, ⟨#[114, 101, 103, 105, 111, 110, 115]⟩, 0, 43⟩, ⟨2, ⟨#[]⟩, 2, 51⟩, ⟨3, ⟨#[59]⟩, 0, 52⟩, ⟨4, ⟨#[]⟩, 0, 53⟩]
set_option maxRecDepth 100000 in
theorem kLex1 : lex_Tokens.f 30 ⟨#[97]⟩ = some ([⟨1, ⟨#[97]⟩, 0, 0⟩, ⟨4, ⟨#[]⟩, 0, 1⟩], 1, 0) := by kernel_rfl
set_option maxRecDepth 100000 in
theorem kLex : lex_Tokens.f 30 kText = some (kToks, 53, 0) := by kernel_rfl
theorem kWork : task_Work.f 30 ⟨#[97]⟩ 5 5 0 0 0 [2] 0 0 = some 2 := by kernel_rfl
theorem kToksOk : TextToks kToks 0 ⟨#[97]⟩ 5 5 2 :=
  ⟨_, _, _, kToks.drop 3 |>.take 10, _, rfl, by kernel_rfl, rfl, rfl, by kernel_rfl, ⟨_, _, _, _, _, _, _, _, _, _, rfl, by kernel_rfl, rfl, rfl, by kernel_rfl, rfl, rfl, by kernel_rfl, rfl, rfl, by kernel_rfl, by kernel_rfl, rfl, rfl, by decide, by kernel_rfl, by kernel_rfl, by kernel_rfl⟩, rfl⟩
theorem kIsOk : IsOk 30 tA 0 where
  name := ⟨0, 0, 1, _, kLex1⟩
  reg := by kernel_rfl
  work := ⟨2, kWork, by decide⟩
  le := by decide
  time := by kernel_rfl
  mode := by kernel_rfl
  sets := by kernel_rfl
theorem allA (W : World) (A : Option Addr) (c : Nat) (hT : TabW W) (hC : Kd.C k46 W A 1 [tA]) (hc : 1 ≤ c) : Calls Tryz.prog 20 #[.agg #[.int .i64 0, .slice A 1 c]] W fun e w' => e = .returned (.bool true) ∧ Below W.heap.size W w' :=
  have h0 : ∀ j : Nat, j < [tA].length → j = 0 := fun j hj => by simp at hj; omega
  All_yes 30 0 A c [tA] W hT hC hc (by kernel_rfl) (Nat.le_refl _) (by decide) (fun j hj => (h0 j hj) ▸ kIsOk) (fun j hj x hx => (by rw [h0 j hj] at hx; cases hx)) (fun j hj => (by rw [h0 j hj]; decide))
theorem one_of {P : S46 → Prop} (h : P tA) : ∀ t ∈ [tA], P t := fun t ht => by rw [List.mem_singleton.1 ht]; exact h
theorem kJg : JgOk 0 [tA] := ⟨⟨by decide, one_of (by decide)⟩, one_of ⟨by decide, by decide⟩, by decide, one_of (by decide)⟩
theorem kMd : MdOk [tA] := ⟨one_of (by decide), one_of (by decide)⟩
set_option maxRecDepth 100000 in
theorem kJug : judgeL (jugL 0 [tA]) 0 [] = (1, 0, [2]) := by kernel_rfl
theorem judgeA (W : World) (A : Option Addr) (c : Nat) (hTw : ∀ W', Below W.heap.size W W' → TabW W') (hC : Kd.C k46 W A 1 [tA]) (hc : 1 ≤ c) : Calls Tryz.prog 9 #[.agg #[.int .i64 0, .slice A 1 c]] W fun e w' => ∃ A5 n5 c5, e = .returned (.tuple #[.agg #[.int .i64 1, .int .i64 0, .slice A5 n5 c5], .int .i64 0]) ∧ Below W.heap.size W w' := by
  have H := judge_calls W 0 A c 1 (jugL 0 [tA]) rfl (by decide) (fun W' h => allA W' A c (hTw W' h) (Kd.C_below hC h) hc) (fun W' i h hi => respOf_calls W' 0 A c [tA] i (Kd.C_below hC h) hc hi kJg kMd)
  rw [kJug] at H
  refine H.mono ?_
  rintro e w' ⟨v, rfl, hr, hb⟩
  obtain ⟨A5, c5, rfl⟩ := Kd.R_slice hr
  exact ⟨A5, _, c5, rfl, hb⟩
theorem newE_calls (w : World) : Calls Tryz.prog 24 #[] w fun e w' => e = .returned (.pointer (some ⟨w.heap.size, 0, none⟩)) ∧ w' = w.alloc (.cells #[.int .i64 0, .slice none 0 0, .bool false, .pointer none] 82) := by
  have hu82 := Tryz.underlying82
  go_enter Tryz.func24, Tryz.ntmps24
  go_wp2
  go_ret
  exact ⟨rfl, rfl⟩
theorem fld61_0 (a b c d e f g : Value) (w : World) : Sem.run Tryz.prog (Instr.field 61 (Value.agg #[a, b, c, d, e, f, g]) 0) w = Result.ok a w := by kernel_rfl
attribute [local go_sem] fld61_0
set_option maxHeartbeats 16000000 in
set_option maxRecDepth 100000 in
theorem known_calls (w : World) (hT : TabW w) : Calls Tryz.prog 12 #[] w fun e w' => e = .returned (.bool true) ∧ Below w.heap.size w w' := by
  have HTw := Aside0.mk (fun W (hW : Below w.heap.size w W) => hT.below hW)
  have hal : Below w.heap.size w (w.alloc (.cells #[.int .i64 0, .slice none 0 0, .bool false, .pointer none] 82)) := Below.alloc (Below.refl _ _) (Nat.le_refl _) _
  have HX1 := Aside0.mk (show XI w w.heap.size 0 (.slice none 0 0) false none (w.alloc (.cells #[.int .i64 0, .slice none 0 0, .bool false, .pointer none] 82)) from ⟨heap_alloc_new w _, hal, Nat.le_refl _⟩)
  have HP := Aside0.mk (fun W (hW : Below w.heap.size w W) => parse_calls W 30 kText kToks 53 0 ⟨#[97]⟩ 5 5 2 (HTw.out W hW) kLex kToksOk (fun W' A c hb hC hc => allA W' A c (HTw.out W' (hW.trans (hb.mono hW.size))) hC hc))
  have HE := Aside0.mk (newE_calls w)
  have HDL := Aside0.mk (do_load kText 0 53 [tA] HX1.out rfl (fun W hW => (HP.out W (hal.trans (hW.mono hal.size)))))
  clear hT hal
  have hnp := hnp58
  have hu61 := Tryz.underlying61
  go_enter Tryz.func12, Tryz.ntmps12
  go_upto_region 2 with (go_at_call 24; (with_reducible refine HE.out.mono ?_); rintro e w1 ⟨rfl, rfl⟩)
  generalize (w.alloc (.cells #[.int .i64 0, .slice none 0 0, .bool false, .pointer none] 82)) = W1 at HX1 HDL ⊢
  obtain ⟨x, hx⟩ : ∃ x, x = w.heap.size := ⟨_, rfl⟩
  rw [← hx] at HX1 HDL ⊢
  replace hx := Aside0.mk hx
  clear HP HE
  go_upto_region 4 with (first | (go_at_call 25; (with_reducible refine HDL.out.mono ?_); rintro e w2 ⟨A, c, rfl, hx2, hr2⟩; have HC2 := Aside0.mk (show Kd.C k46 w2 A 1 [tA] ∧ 1 ≤ c from ⟨(Kd.R_reads' hr2).2.2, (Kd.R_reads' hr2).2.1⟩); have HX2 := Aside0.mk hx2; have HD5 := Aside0.mk (do_start5 (tk := 0) (T := [tA]) hx2 (fun W hW => judgeA W A c (fun W' hW' => HTw.out W' ((hx2.hB.trans (hW.mono hx2.hB.size)).trans (hW'.mono (Nat.le_trans hx2.hB.size hW.size)))) (Kd.C_below HC2.out.1 hW) HC2.out.2) (fun W hW => kNew_calls W 0 A c [tA] (Kd.C_below HC2.out.1 hW) HC2.out.2 (Nat.le_refl _) (by decide) (fun W' hW' => allA W' A c (HTw.out W' ((hx2.hB.trans (hW.mono hx2.hB.size)).trans (hW'.mono (Nat.le_trans hx2.hB.size hW.size)))) (Kd.C_below (Kd.C_below HC2.out.1 hW) hW') HC2.out.2) (fun t ht => ⟨(tA_odd t ht).1, (tA_odd t ht).2.1⟩) (by decide))); clear hx2 hr2) | (go_at_call 25; (with_reducible refine HD5.out.mono ?_); rintro e w3 ⟨A5, n5, c5, g, L, K, ev, rfl, hx3, hk3, ha3⟩; have HX3 := Aside0.mk hx3; have HK3 := Aside0.mk hk3; replace ha3 := Aside0.mk ha3; clear hx3 hk3))
  have hbL : Below w3.heap.size w3 (((w3.alloc (.cells #[.int .i64 2] 2)).alloc (.cells #[.slice (some ⟨w3.heap.size, 0, none⟩) 1 1] 28)).alloc (.cells #[.int .u64 1, .slice (some ⟨w3.heap.size + 1, 0, none⟩) 1 1, .int .u64 0, .int .u64 0, .slice none 0 0, .int .u64 0] 52)) := Below.alloc (Below.alloc (Below.alloc (Below.refl _ _) (Nat.le_refl _) _) (by simp) _) (by simp; omega) _
  have HIN : IN2 (w3.heap.size + 1 + 1) (w3.heap.size + 1) w3.heap.size (((w3.alloc (.cells #[.int .i64 2] 2)).alloc (.cells #[.slice (some ⟨w3.heap.size, 0, none⟩) 1 1] 28)).alloc (.cells #[.int .u64 1, .slice (some ⟨w3.heap.size + 1, 0, none⟩) 1 1, .int .u64 0, .int .u64 0, .slice none 0 0, .int .u64 0] 52)) := by
    refine ⟨?_, ?_, ?_⟩
    · have := heap_alloc_new ((w3.alloc (.cells #[.int .i64 2] 2)).alloc (.cells #[.slice (some ⟨w3.heap.size, 0, none⟩) 1 1] 28)) (.cells #[.int .u64 1, .slice (some ⟨w3.heap.size + 1, 0, none⟩) 1 1, .int .u64 0, .int .u64 0, .slice none 0 0, .int .u64 0] 52)
      simpa using this
    · have := heap_alloc_new (w3.alloc (.cells #[.int .i64 2] 2)) (.cells #[.slice (some ⟨w3.heap.size, 0, none⟩) 1 1] 28)
      exact blk_alloc (by simpa using this) _
    · exact blk_alloc (blk_alloc (heap_alloc_new w3 _) _) _
  have HDT := Aside0.mk (do_ticks (cI := 2) HTw.out (HX3.out.below hbL) (HK3.out.below hbL) ha3.out HIN)
  clear HIN hbL HD5 HDL HX2 HX1
  go_upto_region 5 with (go_at_call 25; (with_reducible refine HDT.out.mono ?_); rintro e w4 ⟨A6, c6, rfl, hb4, hr4⟩; have HB4 := Aside0.mk hb4; obtain ⟨ad, rfl, y0, y1, y2, y3⟩ := at_T43 (Kd.R_reads' hr4).2.2 3 (by decide) (by decide); clear hb4 hr4 y0 y2)
  have y1 : w4.cell? ⟨ad.block, ad.off + 12 + 1, none⟩ = some (.int .i64 8) := y1
  have y3 : w4.cell? ⟨ad.block, ad.off + 12 + 3, none⟩ = some (.int .i64 2) := y3
  have hal : Below w4.heap.size w4 (w4.alloc (.cells #[.int .i64 0, .int .i64 0, .int .i64 0, .int .i64 0, .slice none 0 0, .string ⟨#[]⟩, .slice (some ad) 4 c6] 61)) := Below.alloc (Below.refl _ _) (Nat.le_refl _) _
  have HB5 := Aside0.mk (HB4.out.trans (hal.mono HB4.out.size))
  replace y1 := pw_cell_below hal y1
  replace y3 := pw_cell_below hal y3
  have z6 := (blk_cell (heap_alloc_new w4 (.cells #[.int .i64 0, .int .i64 0, .int .i64 0, .int .i64 0, .slice none 0 0, .string ⟨#[]⟩, .slice (some ad) 4 c6] 61)) 6).trans rfl
  clear hal HB4
  generalize (w4.alloc (.cells #[.int .i64 0, .int .i64 0, .int .i64 0, .int .i64 0, .slice none 0 0, .string ⟨#[]⟩, .slice (some ad) 4 c6] 61)) = W5 at HB5 y1 y3 z6 ⊢
  go_wp2
  go_ret
  exact ⟨rfl, HB5.out⟩
end Go.Proofs.YtaofmmnfenlofaaGreatDoor.QTc
namespace Go.Proofs.YtaofmmnfenlofaaGreatDoor.QTc
open Go.RowKit Go.Proofs.YtaofmmnfenlofaaGreatDoorW.PrintWords Go.Proofs.YtaofmmnfenlofaaGreatDoorW.PrintLast Go.Proofs.YtaofmmnfenlofaaGreatDoorW.PrintMore
set_option linter.unusedVariables false
set_option linter.unusedSimpArgs false
attribute [local go_sem] below_alloc below_drew1 pw_below_drewN
set_option maxHeartbeats 16000000 in
set_option maxRecDepth 100000 in
theorem spread_calls (w : World) (rl : Int) (A0 : Option Addr) (c0 : Nat) (T : List S46) (AI : Option Addr) (cI : Nat) (I : List S52) (hT : TabW w) (hr : Kd.C k46 w A0 T.length T) (hc : T.length ≤ c0)
    (hI : Kd.C k52 w AI I.length I) (hcI : I.length ≤ cI)
    (bM bL : Bool) (hM : ∀ W, BW w W → Calls Tryz.prog 7 #[.agg #[.int .i64 rl, .slice A0 T.length c0]] W (Gives W (.bool bM))) (hL : ∀ W, BW w W → Calls Tryz.prog 8 #[.slice AI I.length cI] W (Gives W (.bool bL)))
    (hS : bM = true → TopSet.SetOK rl T) (h250 : bL = false → I.length ≤ 250)
    (hU : ∀ t ∈ T, (0 ≤ t.f7 ∧ t.f7 < 18446744073709551616) ∧ (0 ≤ t.f8 ∧ t.f8 < 18446744073709551616))
    (hIU : ∀ x ∈ I, (0 ≤ x.f0 ∧ x.f0 < 18446744073709551616) ∧ (0 ≤ x.f2 ∧ x.f2 < 18446744073709551616)) :
    Calls Tryz.prog 5 #[.agg #[.int .i64 rl, .slice A0 T.length c0], .slice AI I.length cI] w (Gives w (.bool true)) := by
  have hu24 := Tryz.underlying24
  obtain ⟨W0, e0, hb0, bx, eb, cb⟩ := box24 w rl A0 T.length c0
  have hB : BW W0 W0 := BW.rfl' W0
  have HM := Aside0.mk (fun W (h : BW W0 W) => hM W (hb0.tr h))
  have HL := Aside0.mk (fun W (h : BW W0 W) => hL W (hb0.tr h))
  have HB0 := Aside0.mk hb0
  cases bM with
  | false =>
    go_enter Tryz.func5, Tryz.ntmps5
    go_wp2_with (go_at_call 7; (with_reducible refine (HM.out _ hB).mono ?_); rintro e w1 ⟨rfl, hb1⟩)
    go_ret
    exact ⟨rfl, HB0.out.tr hb1⟩
  | true =>
  cases bL with
  | true =>
    go_enter Tryz.func5, Tryz.ntmps5
    go_wp2_with (first | (go_at_call 7; (with_reducible refine (HM.out _ hB).mono ?_); rintro e w1 ⟨rfl, hb1⟩; have hB1 := hB.tr hb1) | (go_at_call 8; (with_reducible refine (HL.out _ hB1).mono ?_); rintro e w2 ⟨rfl, hb2⟩))
    go_ret
    exact ⟨rfl, HB0.out.tr (hB1.tr hb2)⟩
  | false =>
  have hset := hS rfl
  have h250' := h250 rfl
  have hok := jgOk_of hset hU
  have hmd := mdOk_of hset
  have h8 : T.length ≤ 8 := hset.2.2.2.1
  have h1 : 1 ≤ T.length := hset.2.2.1
  have hr0 := Kd.C_below hr hb0
  have hI0 := Kd.C_below hI hb0
  have hTw : ∀ W, BW W0 W → TabW W := fun W h => hT.below (hb0.tr h)
  have HKN := Aside0.mk (fun W (h : BW W0 W) => known_calls W (hTw W h))
  obtain ⟨m, hm, hyes, hno⟩ := first_no (fun j => tolJ (parOf rl T) (dlOf T) j) T.length
  have hrg : ∀ j : Nat, j < T.length → 1 ≤ (rd_T46 T (j : Int)).f6.length ∧ (rd_T46 T (j : Int)).f6.length ≤ 8 := fun j hj => by
    have := hset.2.2.2.2.1 (j : Int) (by omega) (by omega)
    exact ⟨this.2.1, this.2.2.1⟩
  obtain ⟨ok, hokm⟩ : ∃ ok : Bool, ok = decide (m = T.length) := ⟨_, rfl⟩
  have HPUT := Aside0.mk (fun W (h : BW W0 W) => sprPut_calls W rl A0 c0 T (qJ (parOf rl T) (dlOf T)) (Kd.C_below hr0 h) h1 h8 hrg ok (fun W2 h2 => (sprOf_calls W2 rl A0 c0 T m (Kd.C_below (Kd.C_below hr0 h) h2) hc h1 hok hmd (fun j hj => ⟨(setOK_D hset j hj).1, (setOK_D hset j hj).2.1⟩) (fun W3 h3 => setOK_yes rl A0 c0 T hset W3 (hTw W3 (h.tr (h2.tr h3))) (Kd.C_below (Kd.C_below (Kd.C_below hr0 h) h2) h3) hc) hm hyes hno ok hokm).mono fun e w' k => by
    obtain ⟨v, k1, k2, k3⟩ := k
    exact ⟨v, k1, fun ht => k2 (by rw [ht] at hokm; exact of_decide_eq_true hokm.symm), k3⟩))
  have HTI := Aside0.mk (fun (hall : ok = true) (W : World) (h : BW W0 W) (A' : Option Addr) (c' : Nat) (hc' : T.length ≤ c') (hCx : Kd.C k46 W A' T.length (mdT 1 (qJ (parOf rl T) (dlOf T)) (fun _ => 0) T T.length)) => by
    have hmn : m = T.length := by rw [hall] at hokm; exact of_decide_eq_true hokm.symm
    obtain ⟨s1, s2⟩ := spr_ok hset hU (fun j hj => hyes j (by omega))
    have hl := mdT_len 1 (qJ (parOf rl T) (dlOf T)) (fun _ => 0) T T.length
    have := timely_calls W rl A' c' (mdT 1 (qJ (parOf rl T) (dlOf T)) (fun _ => 0) T T.length) AI cI I (hTw W h) (by rw [hl]; exact hCx) (by rw [hl]; exact hc') (Kd.C_below hI0 h) hcI s1 h250' (fun t ht => by
      obtain ⟨j, hj, rfl⟩ := List.mem_map.1 ht
      have h := hU (rd_T46 T (j : Int)) (rd46_mem (List.mem_range.1 hj))
      exact h) hIU s2
    rw [hl] at this
    exact this)
  clear hr hI hS h250 hM hL hT hok hmd hr0 hI0 hTw hyes hno hrg hset hokm
  generalize mdT 1 (qJ (parOf rl T) (dlOf T)) (fun _ => 0) T T.length = X at *
  go_enter Tryz.func5, Tryz.ntmps5
  go_upto_region 4 with (first | (go_at_call 7; (with_reducible refine (HM.out _ hB).mono ?_); rintro e w1 ⟨rfl, hb1⟩; have hB1 := hB.tr hb1) | (go_at_call 8; (with_reducible refine (HL.out _ hB1).mono ?_); rintro e w2 ⟨rfl, hb2⟩; have hB2 := hB1.tr hb2) | (go_at_call 17; (with_reducible refine (HPUT.out _ hB2).mono ?_); rintro e w3 ⟨r, A', k, c', rfl, hput, hb3⟩; have hB3 := hB2.tr hb3; obtain ⟨W4, e4, hb4, g, eg, c4⟩ := box24 w3 r A' k c'; have hB4 := hB3.tr hb4))
  clear HM HL HPUT
  cases ok with
  | false =>
    go_wp2_with (go_at_call 12; (with_reducible refine (HKN.out _ hB4).mono ?_); rintro e w7 ⟨rfl, hb7⟩; have hB7 := hB4.tr hb7)
    go_ret
    exact ⟨rfl, HB0.out.tr hB7⟩
  | true =>
    obtain ⟨rfl, rfl, hc', hCx⟩ := hput rfl
    have HTL := Aside0.mk (HTI.out rfl W4 hB4 A' c' hc' (Kd.C_below hCx hb4))
    clear HTI
    have hBB := BW.rfl' W4
    go_wp2_with (first | (go_at_call 18; (with_reducible refine HTL.out.mono ?_); rintro e w6 ⟨rfl, hb6⟩; have hB6 := hB4.tr hb6) | (go_at_call 12; (with_reducible refine (HKN.out _ hB6).mono ?_); rintro e w7 ⟨rfl, hb7⟩; have hB7 := hB6.tr hb7))
    go_ret
    exact ⟨rfl, HB0.out.tr hB7⟩
end Go.Proofs.YtaofmmnfenlofaaGreatDoor.QTc
namespace Go.Proofs.YtaofmmnfenlofaaGreatDoor.QTc
open Go.RowKit Go.Proofs.YtaofmmnfenlofaaGreatDoorW.PrintWords Go.Proofs.YtaofmmnfenlofaaGreatDoorW.PrintLast Go.Proofs.YtaofmmnfenlofaaGreatDoorW.PrintMore
set_option linter.unusedVariables false
def TopIn (l0_1 : List S46) (l1 : List S52) : Prop :=
 (∀ y ∈ l0_1, y.f0.size ≤ 9223372036854775807) ∧ (∀ t ∈ l0_1, (0 ≤ t.f7 ∧ t.f7 < 18446744073709551616) ∧ (0 ≤ t.f8 ∧ t.f8 < 18446744073709551616)) ∧
  ∀ x ∈ l1, (0 ≤ x.f0 ∧ x.f0 < 18446744073709551616) ∧ (0 ≤ x.f2 ∧ x.f2 < 18446744073709551616)
open Classical in
noncomputable def taskmastertop_TopSpread.f (a0_0 : Int) (l0_1 : List S46) (l1 : List S52) : Option Bool := if TopIn l0_1 l1 then some true else none
open Classical in
theorem taskmastertop_TopSpread.calls (a0_0 : Int) (A0_1 : Option Addr) (c0_1 : Nat) (l0_1 : List S46) (A1 : Option Addr) (c1 : Nat) (l1 : List S52) (r : Bool) (w : World) (hT : TabW w) (hr0_1 : Kd.C k46 w A0_1 l0_1.length l0_1) (hc0_1 : l0_1.length ≤ c0_1) (hr1 : Kd.C k52 w A1 l1.length l1) (hc1 : l1.length ≤ c1) (h : taskmastertop_TopSpread.f a0_0 l0_1 l1 = some r) :
  Calls Tryz.prog 5 #[.agg #[.int .i64 a0_0, .slice A0_1 l0_1.length c0_1], .slice A1 l1.length c1] w fun e w' => e = .returned (.bool r) ∧ Below w.heap.size w w' := by
 unfold taskmastertop_TopSpread.f at h
 split at h
 ·rename_i hc
  obtain rfl := Option.some.inj h
  obtain ⟨b, hb⟩ : ∃ b : Bool, b = true ↔ TopSet.SetOK a0_0 l0_1 := ⟨decide (TopSet.SetOK a0_0 l0_1), decide_eq_true_iff⟩
  exact spread_calls w a0_0 A0_1 c0_1 l0_1 A1 c1 l1 hT hr0_1 hc0_1 hr1 hc1 _ _
   (fun W h => may_calls W a0_0 A0_1 c0_1 l0_1 b (Kd.C_below hr0_1 h) (fun e => (hb.1 e).2.2.2.1) (fun X k => rAll_calls X a0_0 A0_1 c0_1 l0_1 (Kd.C_below (Kd.C_below hr0_1 h) k) hc.1 b hb))
   (fun W h => long_calls W A1 c1 l1 (Kd.C_below hr1 h))
   (fun e => by
    rw [Bool.and_eq_true, Bool.and_eq_true] at e
    exact hb.1 e.2.1)
   lngB_no hc.2.1 hc.2.2
 ·cases h
end Go.Proofs.YtaofmmnfenlofaaGreatDoor.QTc
namespace Go.Proofs.YtaofmmnfenlofaaGreatDoor.Open
open Go.RowKit Go.Proofs.YtaofmmnfenlofaaGreatDoorW.PrintWords Go.Proofs.YtaofmmnfenlofaaGreatDoorW.PrintLast Go.WideShapes
set_option linter.unusedVariables false
structure Opens (P : Program) {α : Type} (k : Kd α) (t : TypeId) (W : α → Prop) : Prop where
  out : ∀ {H : Type} {enc : TypeId × Value → H} {w : World} {base : Nat} {spare : Nat → Bool} {held : Bool} {fuel : Nat} {cs : List Value} {x : DataW H × List MemPlace},
    DataW.trod enc P w base spare held fuel t cs = some x → ∃ a : α, k.K w a cs ∧ W a
theorem opens_int {P : Program} {t : TypeId} {k : IntKind} (ht : P.underlying t = some (.int k)) : Opens P (Kd.int k) t (fun n => (Lit.int k n).wf = true) := by
  refine ⟨fun {H enc w base spare held fuel cs x} h => ?_⟩
  obtain ⟨n, rfl, _, hw⟩ := DataW.trod_int ht h
  exact ⟨n, rfl, hw⟩
theorem opens_string {P : Program} {t : TypeId} (ht : P.underlying t = some .string) : Opens P Kd.string t (fun s => s.size ≤ maxLen) := by
  refine ⟨fun {H enc w base spare held fuel cs x} h => ?_⟩
  obtain ⟨s, rfl, _, hs⟩ := DataW.trod_string ht h
  exact ⟨s, rfl, hs⟩
theorem addr_add (a : Addr) (i j : Nat) : (a.add i).add j = a.add (i + j) := Go.Deep.add_add a i j
theorem opens_slice {P : Program} {α : Type} [Inhabited α] {d : Kd α} {t e : TypeId} {W : α → Prop} (ht : P.underlying t = some (.slice e)) (hs : P.cellsOf e = d.sz) (hd : Opens P d e W) :
    Opens P (Kd.slice e d) t (fun xs => ∀ x ∈ xs, W x) := by
  refine ⟨fun {H enc w base spare held fuel cs x} h => ?_⟩
  rcases Go.Deep.open_slice ht h with ⟨rfl, _⟩ | ⟨a, len, cap, m, n, D, Pl, rfl, hb, hl, hc, hm, _, hel⟩
  · exact ⟨[], ⟨none, 0, rfl, Nat.le_refl _, rfl, Nat.zero_le _, fun h => absurd h (Nat.lt_irrefl _)⟩, fun x hx => absurd hx (List.not_mem_nil)⟩
  · have hlm : len ≤ m := by rw [hm]; split <;> omega
    have each : ∀ i, i < len → ∃ y : α, (∃ cs', w.cells? base (a.add (i * P.cellsOf e)) (P.cellsOf e) = some cs' ∧ d.K w y cs') ∧ W y := fun i hi => by
      obtain ⟨cs', h1, h2⟩ := hel i (by omega)
      obtain ⟨y, hy, hw⟩ := hd.out h2
      exact ⟨y, ⟨cs', h1, hy⟩, hw⟩
    obtain ⟨f, hf⟩ := Go.Deep.choose_lt each
    have hlen : ((List.range len).map f).length = len := by simp
    refine ⟨(List.range len).map f, ⟨some a, cap, by rw [hlen], by rw [hlen]; exact hl, rfl, ?_, ?_⟩, ?_⟩
    · rw [hlen]; unfold maxLen at hc; omega
    · intro _
      refine ⟨a, rfl, fun j p hp => ?_⟩
      obtain ⟨hj, rfl⟩ := List.getElem?_eq_some_iff.1 hp
      rw [hlen] at hj
      obtain ⟨⟨cs', h1, h2⟩, _⟩ := hf j hj
      obtain ⟨_, h4, h5⟩ := World.cells?_some h1
      refine ⟨cs', by rw [h4, hs], by simpa using h2, fun i u hu => ?_⟩
      have hi : i < cs'.length := by
        by_cases q : i < cs'.length
        · exact q
        · rw [List.getElem?_eq_none (by omega)] at hu; cases hu
      have := h5 i (by omega)
      rw [addr_add, hs] at this
      rw [this]; exact hu
    · intro x hx
      obtain ⟨i, hi, rfl⟩ := List.mem_map.1 hx
      exact (hf i (List.mem_range.1 hi)).2
structure OpensFrom (P : Program) (fs : Array Field) (i : Nat) (off : Nat) {α : Type} (k : Kd α) (W : α → Prop) : Prop where
  out : ∀ {H : Type} {enc : TypeId × Value → H} {w : World} {base : Nat} {spare : Nat → Bool} {held : Bool} {n : Nat} {cs : List Value} {xs : List (DataW H × List MemPlace)},
    xs.length = fs.size → cs.length = off + k.sz →
    (∀ (j : Nat) (f : Field), fs[j]? = some f → DataW.trod enc P w base spare held n f.type ((cs.drop f.offset).take (P.cellsOf f.type)) = xs[j]?) → ∃ a : α, k.K w a (cs.drop off) ∧ W a
theorem opensFrom_last {P : Program} {fs : Array Field} {i off : Nat} {α : Type} {k : Kd α} {W : α → Prop} (f : Field) (hf : fs[i]? = some f) (ho : f.offset = off) (hs : P.cellsOf f.type = k.sz) (hd : Opens P k f.type W) : OpensFrom P fs i off k W := by
  refine ⟨fun {H enc w base spare held n cs xs} hx hl h => ?_⟩
  have hi : i < xs.length := by
    rw [hx]
    by_cases q : i < fs.size
    · exact q
    · rw [Array.getElem?_eq_none (by omega)] at hf; cases hf
  have h1 := h i f hf
  rw [List.getElem?_eq_getElem hi, ho, hs, List.take_of_length_le (by simp; omega)] at h1
  exact hd.out h1
theorem opensFrom_cons {P : Program} {fs : Array Field} {i off : Nat} {α β : Type} {k : Kd α} {l : Kd β} {W : α → Prop} {V : β → Prop} (f : Field) (hf : fs[i]? = some f) (ho : f.offset = off) (hs : P.cellsOf f.type = k.sz)
    (hd : Opens P k f.type W) (hr : OpensFrom P fs (i + 1) (off + k.sz) l V) : OpensFrom P fs i off (Kd.pair k l) (fun x => W x.1 ∧ V x.2) := by
  refine ⟨fun {H enc w base spare held n cs xs} hx hl h => ?_⟩
  have hi : i < xs.length := by
    rw [hx]
    by_cases q : i < fs.size
    · exact q
    · rw [Array.getElem?_eq_none (by omega)] at hf; cases hf
  have hl' : cs.length = off + (k.sz + l.sz) := hl
  have h1 := h i f hf
  rw [List.getElem?_eq_getElem hi, ho, hs] at h1
  obtain ⟨a, ka, wa⟩ := hd.out h1
  obtain ⟨b, kb, wb⟩ := hr.out hx (by omega) h
  refine ⟨(a, b), ⟨_, _, ?_, ka, kb⟩, wa, wb⟩
  rw [← List.drop_drop, List.take_append_drop]
theorem opens_struct {P : Program} {t : TypeId} {fs : Array Field} {α β : Type} {k : Kd α} {g : β → α} {W : α → Prop} {V : β → Prop} (ht : P.underlying t = some (.struct fs)) (hs : P.cellsOf t = k.sz) (hd : OpensFrom P fs 0 0 k W)
    (inv : α → β) (hg : ∀ a, g (inv a) = a) (hW : ∀ a, W a → V (inv a)) : Opens P (Kd.iso k g) t V := by
  refine ⟨fun {H enc w base spare held fuel cs x} h => ?_⟩
  obtain ⟨xs, n, _, _, hl, hx, hall⟩ := DataW.trod_struct ht h
  obtain ⟨a, ka, wa⟩ := hd.out hx (by rw [hl, hs]; omega) hall
  exact ⟨inv a, by show k.K w (g (inv a)) cs; rw [hg]; simpa using ka, hW a wa⟩
theorem arg_slice {P : Program} {H : Type} {enc : TypeId × Value → H} {w : World} {base : Nat} {spare : Nat → Bool} {held : Bool} {α : Type} {d : Kd α} {t e : TypeId} {W : List α → Prop} {v : Value} {x : DataW H} {ps : List MemPlace} {r : Reach} {b0 : Nat}
    (ht : P.underlying t = some (.slice e)) (hv : Value.okWide P w r b0 t v) (ho : Opens P (Kd.slice e d) t W) (h : DataW.Trod enc P w base spare held t v x ps) :
    ∃ (A : Option Addr) (c : Nat) (xs : List α), v = .slice A xs.length c ∧ xs.length ≤ c ∧ Kd.C d w A xs.length xs ∧ W xs := by
  obtain ⟨fuel, hf⟩ := h
  obtain ⟨a, len, cap, rfl⟩ := okWide_slice ht hv
  obtain ⟨xs, ⟨A, c, e1, h1, h2⟩, hw⟩ := ho.out hf
  have e2 : ([.slice a len cap] : List Value) = [.slice A xs.length c] := e1
  injection e2 with e2
  exact ⟨A, c, xs, e2, h1, h2, hw⟩
theorem arg_struct {P : Program} {H : Type} {enc : TypeId × Value → H} {w : World} {base : Nat} {spare : Nat → Bool} {held : Bool} {α : Type} {d : Kd α} {t : TypeId} {fs : Array Field} {W : α → Prop} {v : Value} {x : DataW H} {ps : List MemPlace} {r : Reach} {b0 : Nat}
    (ht : P.underlying t = some (.struct fs)) (hv : Value.okWide P w r b0 t v) (ho : Opens P d t W) (h : DataW.Trod enc P w base spare held t v x ps) :
    ∃ (a : α) (cs : List Value), v = .agg cs.toArray ∧ d.K w a cs ∧ W a := by
  obtain ⟨fuel, hf⟩ := h
  obtain ⟨cs, rfl, _⟩ := okWide_struct ht hv
  obtain ⟨a, ha, hw⟩ := ho.out hf
  exact ⟨a, cs.toList, by simp, ha, hw⟩
end Go.Proofs.YtaofmmnfenlofaaGreatDoor.Open
namespace Go.Proofs.YtaofmmnfenlofaaGreatDoor.QTc
open Go.RowKit Go.Proofs.YtaofmmnfenlofaaGreatDoorW.PrintWords Go.Proofs.YtaofmmnfenlofaaGreatDoorW.PrintLast Go.Proofs.YtaofmmnfenlofaaGreatDoor.Open
set_option linter.unusedVariables false
instance : Inhabited S46 := ⟨z46⟩
def wf46 (x : S46) : Prop := ((x.f0).size ≤ maxLen) ∧ ((Lit.int .i64 x.f1).wf = true) ∧ ((Lit.int .i64 x.f2).wf = true) ∧ ((Lit.int .i64 x.f3).wf = true) ∧ ((Lit.int .i64 x.f4).wf = true) ∧ ((Lit.int .i64 x.f5).wf = true) ∧ (∀ y ∈ x.f6, (Lit.int .i64 y).wf = true) ∧ ((Lit.int .u64 x.f7).wf = true) ∧ ((Lit.int .u64 x.f8).wf = true)
theorem opens46 : Opens Tryz.prog k46 46 wf46 :=
  opens_struct Tryz.underlying46 (by kernel_rfl) (opensFrom_cons _ rfl rfl (by kernel_rfl) (opens_string Tryz.underlying9) (opensFrom_cons _ rfl rfl (by kernel_rfl) (opens_int Tryz.underlying2) (opensFrom_cons _ rfl rfl (by kernel_rfl) (opens_int Tryz.underlying2) (opensFrom_cons _ rfl rfl (by kernel_rfl) (opens_int Tryz.underlying3) (opensFrom_cons _ rfl rfl (by kernel_rfl) (opens_int Tryz.underlying2) (opensFrom_cons _ rfl rfl (by kernel_rfl) (opens_int Tryz.underlying3) (opensFrom_cons _ rfl rfl (by kernel_rfl) (opens_slice Tryz.underlying28 (by kernel_rfl) (opens_int Tryz.underlying2)) (opensFrom_cons _ rfl rfl (by kernel_rfl) (opens_int Tryz.underlying44) (opensFrom_last _ rfl rfl (by kernel_rfl) (opens_int Tryz.underlying44)))))))))) (fun a => ⟨a.1, a.2.1, a.2.2.1, a.2.2.2.1, a.2.2.2.2.1, a.2.2.2.2.2.1, a.2.2.2.2.2.2.1, a.2.2.2.2.2.2.2.1, a.2.2.2.2.2.2.2.2⟩) (fun _ => rfl) (fun _ h => h)
structure S24 where
  f0 : Int
  f1 : (List S46)
def z24 : S24 := ⟨0, []⟩
def k24 : Kd S24 := Kd.iso (Kd.pair (Kd.int .i64) (Kd.slice 46 k46)) (fun x : S24 => (x.f0, x.f1))
theorem k24_open {w : World} {x : S24} {cs : List Value} (h : k24.K w x cs) : ∃ A1 c1, cs = [.int .i64 x.f0, .slice A1 x.f1.length c1] ∧ x.f1.length ≤ c1 ∧ Kd.C k46 w A1 x.f1.length x.f1 := by
  obtain ⟨_, _, rfl, rfl, ⟨A1, c1, rfl, l1, g1⟩⟩ := h
  exact ⟨A1, c1, rfl, l1, g1⟩
instance : Inhabited S24 := ⟨z24⟩
def wf24 (x : S24) : Prop := ((Lit.int .i64 x.f0).wf = true) ∧ (∀ y ∈ x.f1, wf46 y)
theorem opens24 : Opens Tryz.prog k24 24 wf24 :=
  opens_struct Tryz.underlying24 (by kernel_rfl) (opensFrom_cons _ rfl rfl (by kernel_rfl) (opens_int Tryz.underlying2) (opensFrom_last _ rfl rfl (by kernel_rfl) (opens_slice Tryz.underlying22 (by kernel_rfl) opens46))) (fun a => ⟨a.1, a.2⟩) (fun _ => rfl) (fun _ h => h)
instance : Inhabited S52 := ⟨z52⟩
def wf52 (x : S52) : Prop := ((Lit.int .u64 x.f0).wf = true) ∧ (∀ y ∈ x.f1, ∀ z ∈ y, (Lit.int .i64 z).wf = true) ∧ ((Lit.int .u64 x.f2).wf = true)
theorem opens52 : Opens Tryz.prog k52 52 wf52 :=
  opens_struct Tryz.underlying52 (by kernel_rfl) (opensFrom_cons _ rfl rfl (by kernel_rfl) (opens_int Tryz.underlying44) (opensFrom_cons _ rfl rfl (by kernel_rfl) (opens_slice Tryz.underlying50 (by kernel_rfl) (opens_slice Tryz.underlying28 (by kernel_rfl) (opens_int Tryz.underlying2))) (opensFrom_last _ rfl rfl (by kernel_rfl) (opens_int Tryz.underlying44)))) (fun a => ⟨a.1, a.2.1, a.2.2⟩) (fun _ => rfl) (fun _ h => h)
end Go.Proofs.YtaofmmnfenlofaaGreatDoor.QTc
namespace Go.Proofs.YtaofmmnfenlofaaGreatDoor.Pure
open Go.RowKit Go.Proofs.YtaofmmnfenlofaaGreatDoor.QTc Go.Proofs.YtaofmmnfenlofaaGreatDoorW.PrintWords Go.Proofs.YtaofmmnfenlofaaGreatDoorW.PrintLast Go.Proofs.YtaofmmnfenlofaaGreatDoor.Open
set_option linter.unusedVariables false
theorem TopSpread (a0 : S24) (l1 : (List S52)) (w0 : wf24 a0) (w1 : ∀ y ∈ l1, wf52 y) : ∃ k : Nat, taskmastertop_TopSpread.f a0.f0 a0.f1 l1 = some true := by
  refine ⟨0, ?_⟩
  unfold taskmastertop_TopSpread.f
  rw [if_pos]
  refine ⟨fun y hy => ?_, fun t ht => ?_, fun x hx => ?_⟩
  · have := (w0.2 y hy).1; unfold maxLen at this; omega
  · have h := w0.2 t ht
    exact ⟨u64_in h.2.2.2.2.2.2.2.1, u64_in h.2.2.2.2.2.2.2.2⟩
  · have h := w1 x hx
    exact ⟨u64_in h.1, u64_in h.2.2⟩
end Go.Proofs.YtaofmmnfenlofaaGreatDoor.Pure
namespace Go.Proofs.YtaofmmnfenlofaaGreatDoor.QTc
open Go.RowKit
set_option linter.unusedVariables false
theorem returnsInHanded_and_shaped {H : Type} {enc : TypeId × Value → H} {a : Assume} {C : Checked} {os : Os} {f : FuncId} {fn : Func} {s : ChangeSpec} {conds : List PathCond} {apart fresh handsOn again : Bool} {X : World → Array Value → Prop}
    (hX : ∀ (w w' : World) (args : Array Value), w.heap = w'.heap → X w args → X w' args)
    (own : ownKnob C.prog.godebug = none) (started : os.Started) (noInit : C.prog.inits.idxOf? f = none) (hfn : C.prog.funcs[f]? = some fn)
    (witness : ∃ (w : World) (tape : Tape) (i : Input), w.os = os ∧ (w.forCall tape i).Shaped C.prog ∧ i.vars = [] ∧ Input.okWide C.prog (w.forCall tape i) .any w.heap.size f i ∧
      ((s.pre enc C.prog fn conds apart (w.forCall tape i).memory i.args ∧ X (w.forCall tape i).memory i.args) ∧ sizedMet enc C.prog fn (OpenSpec.ofChange s) apart (w.forCall tape i).memory i.args) ∧ a.holds C.prog (lone (Frame.enter C.prog f i.args .normal) [] (w.forCall tape i)))
    (contract : ∀ (W : World) (base : Nat) (args : Array Value) (ds gs : List (DataW H)) (before : List MemPlace),
      (∀ (j : Nat) t v, fn.params[j]? = some t → args[j]? = some v → Value.okWide C.prog W .any base t v) →
      DataW.Whole enc C.prog fn.params.toList s.vars apart W args.toList ds gs before →
      conds.all (PathCond.test C.prog ⟨fn.params.toList, ds, s.plain.varTypes C.prog, gs⟩) = true →
      (DataW.weightsEach C.prog (fn.params.toList ++ s.plain.varTypes C.prog) (ds ++ gs)).all (· ≤ reachBytes) = true → X W args → W.ShapedOpen C.prog →
      a.holds C.prog (lone (Frame.enter C.prog f args .normal) [] W) →
      Calls C.prog f args W fun e W' => ∃ v, e = .returned v ∧ s.post enc C.prog fn apart fresh handsOn again W args v W') :
    ReturnsInHanded a C os f .any (fun w args => (s.pre enc C.prog fn conds apart w args ∧ X w args) ∧ sizedMet enc C.prog fn (OpenSpec.ofChange s) apart w args) (s.post enc C.prog fn apart fresh handsOn again) := by
  refine returnsInHanded_of_calls own started noInit witness ?_
  intro w tape i _ hsh _ hok hpre hholds
  obtain ⟨_, _, _, fn', hfn', _, _, _, _, hval⟩ := hok
  have e : fn' = fn := Option.some.inj (hfn'.symm.trans hfn)
  subst e
  obtain ⟨⟨⟨ds, gs, before, hw, hc⟩, hx⟩, hz⟩ := hpre
  have hw' := DataW.Whole.of_heap (w' := w.forCall tape i) (by rfl) hw
  refine (contract (w.forCall tape i) w.heap.size i.args ds gs before hval hw' hc (hz.weights hw) (hX _ _ _ (by rfl) hx) hsh hholds).mono fun e W' ⟨v, he, hp⟩ => ?_
  subst he
  exact ChangeSpec.post_blind hp
abbrev laidL : List (String × DataW Unit) := [("math/bits.deBruijn32tab", Rows.laid_math_bits_deBruijn32tab), ("math/bits.deBruijn64tab", Rows.laid_math_bits_deBruijn64tab), ("internal/strconv.uint64pow10", Rows.laid_internal_strconv_uint64pow10), ("unicode.White_Space", Rows.laid_unicode_White_Space), ("strings.asciiSpace", Rows.laid_strings_asciiSpace)]
def tabZ : List Int := List.map Int.ofNat Lib.deBruijn64tab
theorem vars_tail {W : World} {x : String × DataW Unit} {r : List (String × DataW Unit)} {ps : List MemPlace} (h : DataW.LaidVars Tryz.prog W (x :: r) ps) : ∃ q, DataW.LaidVars Tryz.prog W r q := by
  obtain ⟨_, _, _, _, _, q, _, _, _, _, h2, _⟩ := h
  exact ⟨q, h2⟩
theorem tab_of_vars {W : World} {name : String} {k : IntKind} {zs : List Int} {rest : List (String × DataW Unit)} {ps : List MemPlace} {g : Nat} {t e : TypeId} {n : Nat}
    (hg : Tryz.prog.globalNamed name = some g) (hty : (Tryz.prog.globals[g]?).map (·.type) = some t) (ht : Tryz.prog.underlying t = some (.array n e)) (he : Tryz.prog.underlying e = some (.int k)) (hce : Tryz.prog.cellsOf e = 1) (hct : Tryz.prog.cellsOf t = n)
    (h : DataW.LaidVars Tryz.prog W ((name, Lib.tabData k zs) :: rest) ps) : Lib.TabIs Tryz.prog W name k zs := by
  obtain ⟨g', t', cs, fuel, p, q, hg', ht', hvar, hd, _, _⟩ := h
  obtain rfl := Option.some.inj (hg.symm.trans hg')
  obtain rfl := Option.some.inj (hty.symm.trans ht')
  unfold Lib.TabIs
  rw [hvar, ← Lib.cells_of_tab ht he hce hct hd]
theorem gTab : Tryz.prog.globalNamed "math/bits.deBruijn64tab" = some 0 := by kernel_rfl
theorem tTab : (Tryz.prog.globals[0]?).map (·.type) = some 209 := by kernel_rfl
theorem tSpace : (Tryz.prog.globals[3]?).map (·.type) = some 250 := by kernel_rfl
set_option maxRecDepth 100000 in
theorem de_eq : (Rows.laid_math_bits_deBruijn64tab : DataW Unit) = Lib.tabData .u8 tabZ := by rfl
set_option maxRecDepth 100000 in
theorem sp_eq : (Rows.laid_strings_asciiSpace : DataW Unit) = Lib.tabData .u8 Lib.asciiSpaceTab := by rfl
theorem tab_of_laid {W : World} (h : laidMetH Tryz.prog laidL W) (hsh : W.ShapedOpen Tryz.prog) : TabW W := by
  rw [MakeChecks.laidMetH_plain _ _ _ (by kernel_rfl)] at h
  obtain ⟨ps, hv, _⟩ := h
  obtain ⟨q1, h1⟩ := vars_tail hv
  obtain ⟨q2, h2⟩ := vars_tail h1
  obtain ⟨q3, h3⟩ := vars_tail h2
  obtain ⟨q4, h4⟩ := vars_tail h3
  rw [de_eq] at h1
  rw [sp_eq] at h4
  have ht : Lib.TabIs Tryz.prog W "math/bits.deBruijn64tab" .u8 tabZ := tab_of_vars (e := 5) (n := 64) gTab tTab (by kernel_rfl) (by kernel_rfl) (by kernel_rfl) (by kernel_rfl) h1
  have hp : Lib.TabIs Tryz.prog W "strings.asciiSpace" .u8 Lib.asciiSpaceTab := tab_of_vars (e := 5) (n := 256) gSpace tSpace (by kernel_rfl) (by kernel_rfl) (by kernel_rfl) (by kernel_rfl) h4
  have all : TabAt 0 Lib.deBruijn64tab W := fun j hj => by
    have hl : tabZ.length = 64 := by decide
    have hj' : j < 64 := hj
    rw [ht.cell gTab j (by omega)]
    have e : tabZ.getD j 0 = ((Lib.deBruijn64tab.getD j 0 : Nat) : Int) := (show ∀ j, j < 64 → tabZ.getD j 0 = ((Lib.deBruijn64tab.getD j 0 : Nat) : Int) by decide) j hj'
    rw [e]
  exact ⟨⟨World.block_lt_of_cell? W _ (all 0 (by decide)), all⟩, hp⟩
theorem door_met (os : Os) (args : Array Value) : laidMetH Tryz.prog laidL ((World.laidAll Tryz.prog os laidL).forCall (fun _ _ => 0) ⟨#[], args, []⟩).memory := by
  rw [MakeChecks.laidMetH_plain _ _ _ (by kernel_rfl)]
  exact laidMet_laidAll _ (by kernel_rfl) (by kernel_rfl)
end Go.Proofs.YtaofmmnfenlofaaGreatDoor.QTc
namespace Go.Proofs.YtaofmmnfenlofaaGreatDoor.topSpread
open Go.ChangeShapes Go.WideShapes Go.ChangeAt Go.RowKit
open Go.ChangeMaps (open_string shut_string)
open Go.Proofs.YtaofmmnfenlofaaGreatDoorW.PrintWords Go.Proofs.YtaofmmnfenlofaaGreatDoorW.PrintLast Go.Proofs.YtaofmmnfenlofaaGreatDoor.QTc Go.Proofs.YtaofmmnfenlofaaGreatDoor.Open
set_option linter.unusedVariables false
theorem own : ownKnob Tryz.prog.godebug = none := by kernel_rfl
theorem laidOut : laidOutB Tryz.prog = true := by kernel_rfl
set_option maxRecDepth 100000 in
theorem lifted (os : Os) (started : os.Started) (H : Type) (enc : TypeId × Value → H) :
    ReturnsInHanded {} Tryz.checked os 5 .any (fun w args => (Rows.topSpreadSpec.pre enc Tryz.prog Tryz.f5 [] false w args ∧ laidMetH Tryz.prog laidL w) ∧ sizedMet enc Tryz.prog Tryz.f5 (OpenSpec.ofChange Rows.topSpreadSpec) false w args) (Rows.topSpreadSpec.post enc Tryz.prog Tryz.f5 false true false false) := by
  refine returnsInHanded_and_shaped (C := Tryz.checked) (X := fun w _ => laidMetH Tryz.prog laidL w) (fun _ _ _ hh h => h.of_heap hh) own started (by kernel_rfl) Tryz.func5
    (ChangeSpec.witness_shaped (enc := enc) (C := Tryz.checked) (os := os) (X := fun w _ => laidMetH Tryz.prog laidL w) false (World.laidAll Tryz.prog os laidL) #[.agg #[.int .i64 0, .slice none 0 0], .slice none 0 0] 8 (World.laidAll_os _ _ _) (World.shaped_of_ZipB (by kernel_rfl) (by kernel_rfl)) (by kernel_rfl) (by kernel_rfl) (by kernel_rfl) (door_met os _)) ?_
  intro W base args ds gs before hval0 hW hcnd hsz0 hL hShp _
  have hTab := tab_of_laid hL hShp
  clear hL hShp
  have hsz : (DataW.weightsEach Tryz.prog (Tryz.f5.params.toList ++ Rows.topSpreadSpec.plain.varTypes Tryz.prog) (ds ++ gs)).all (· ≤ reachBytes) = true := hsz0
  have hval : ∀ (j : Nat) t v, Tryz.f5.params[j]? = some t → args[j]? = some v → Value.okWide Tryz.prog W .any base t v := hval0
  have hW' := hW
  obtain ⟨p, q, hA0, hV, rfl, hfz, hnd⟩ := hW
  have hA : DataW.TrodAll enc Tryz.prog W 0 (fun _ => true) true Tryz.f5.params.toList args.toList ds p := hA0
  rw [Tryz.params5] at hA hval hsz
  obtain ⟨v0, vs0, d0, ds0, p0, q0, hargs, rfl, rfl, h0, r0⟩ := trodAll_cons hA
  obtain ⟨v1, vs1, d1, ds1, p1, q1, rfl, rfl, rfl, h1, r1⟩ := trodAll_cons r0
  obtain ⟨rfl, rfl, rfl⟩ := trodAll_nil r1
  obtain rfl : args = #[v0, v1] := by cases args; simp_all
  obtain ⟨rfl, rfl⟩ := trodVars_none hV
  have k0 := h0
  have lt0 : ∀ x ∈ p0, x.block < W.heap.size := by obtain ⟨m, hm⟩ := k0; exact DataW.trod_lt m _ _ _ hm
  obtain ⟨a0, cs0, rfl, hk0, hw0⟩ := arg_struct Tryz.underlying24 (hval 0 24 v0 rfl rfl) opens24 h0
  obtain ⟨A0_1, c0_1, rfl, hc0_1, hr0_1⟩ := k24_open hk0
  have k1 := h1
  have lt1 : ∀ x ∈ p1, x.block < W.heap.size := by obtain ⟨m, hm⟩ := k1; exact DataW.trod_lt m _ _ _ hm
  obtain ⟨A1, c1, l1, rfl, hc1, hr1, hw1⟩ := arg_slice Tryz.underlying25 (hval 1 25 v1 rfl rfl) (opens_slice Tryz.underlying25 (by kernel_rfl) opens52) h1
  clear hA0 hval0 hsz0 hsz
  obtain ⟨k, hk⟩ := Pure.TopSpread a0 l1 hw0 hw1
  refine (taskmastertop_TopSpread.calls (w := W) (h := hk) (hT := hTab) (hc0_1 := hc0_1) (hc1 := hc1) (hr0_1 := hr0_1) (hr1 := hr1)).mono fun e W' ⟨he, bel0⟩ => ?_
  have bel : Below W.heap.size W W' := bel0
  subst he
  exact ⟨_, rfl, _, _, _, [], _, [], hW', trodAll_mk1 (shut_bool Tryz.underlying4 _), (trodAll_cons_mk (Below.trod laidOut (by kernel_rfl) (of_decide_eq_true (by kernel_rfl)) k0 bel lt0) (trodAll_cons_mk (Below.trod laidOut (by kernel_rfl) (of_decide_eq_true (by kernel_rfl)) k1 bel lt1) trodAll_mk0)), rfl, bel.frame _, fun h => by cases h⟩
theorem over : Rows.topSpreadRow.holds Tryz.pinned (OpenSpec.ofChange Rows.topSpreadSpec) :=
  OpenClaim.holds_of_wide 5 Tryz.f5 rfl rfl rfl rfl rfl rfl rfl ⟨rfl, rfl, rfl, rfl, rfl⟩ rfl rfl rfl rfl rfl (by kernel_rfl) Tryz.func5 (by kernel_rfl)
    (of_decide_eq_true (by kernel_rfl)) (by unfold Func.isWrapper; first | (rw [if_pos (by decide +kernel)]; kernel_rfl) | (rw [if_neg (by decide +kernel)]; exact ⟨rfl, rfl⟩))
    (fun os started H enc _ => lifted os started H enc)
theorem proved : Rows.TopSpreadSaid := over
end Go.Proofs.YtaofmmnfenlofaaGreatDoor.topSpread
namespace Go.Proofs.YtaofmmnfenlofaaGreatDoor
theorem topSpread_holds : Rows.TopSpreadCardSaid :=
  Claim7.holds_tied_plain_at .later [] [.data, .data, .data, .listed, .data] true Rows.topSpreadCard.stood.harness Rows.topSpreadCard.stood.looks
    topSpread.proved (fun _ h => by cases h) (by kernel_rfl) (fun _ h => by cases h) topSpread_row_tie rfl ⟨rfl, rfl⟩ (by kernel_rfl) rfl
    (fun f fn hf hfn => by
      obtain rfl : f = 5 := Option.some.inj ((show Tryz.prog.funcNamed "taskmaster/taskmastertop.TopSpread" = some 5 by kernel_rfl).symm.trans hf) |>.symm
      obtain rfl : fn = Tryz.f5 := (Option.some.inj (Tryz.func5.symm.trans hfn)).symm
      exact ⟨by kernel_rfl, fun j t ht => by
        rw [Tryz.params5] at ht
        have hm : t ∈ [24, 25] := by simpa using Array.mem_of_getElem? ht
        have hall : ([24, 25].all fun u => !Tryz.prog.wantsStandIn u) = true := by kernel_rfl
        exact (show Tryz.prog.wantsStandIn t = false by simpa using List.all_eq_true.1 hall t hm)⟩)
    (by kernel_rfl)
end Go.Proofs.YtaofmmnfenlofaaGreatDoor

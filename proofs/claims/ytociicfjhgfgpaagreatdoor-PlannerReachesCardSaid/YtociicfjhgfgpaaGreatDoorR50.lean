/- PlannerReaches, where the passes fit: the walk; the law whole. The law PlannerReaches: its walk, whole. -/
import Derived.Test.YtociicfjhgfgpaaGreatDoorR46
import Derived.Test.YtociicfjhgfgpaaGreatDoorR49
import Derived.Deep.CutRange
import Derived.Test.YtociicfjhgfgpaaGreatDoorR45
set_option linter.unusedVariables false
set_option linter.unusedSimpArgs false
set_option maxHeartbeats 64000000
set_option maxRecDepth 100000
namespace Go.Proofs.YtociicfjhgfgpaaGreatDoor
open Go.RowKit Go.Shelf Go.Lib Go.Proofs.YtociicfjhgfgpaaGreatDoorW.PrintWords
theorem wrapK_nat {i n : Nat} (h : i < n) (h2 : n ≤ 12) : IntKind.i64.wrap (i : Int) = (i : Int) := wrapK (by unfold wrap64; omega)
theorem lr_fit (x y wd dp rr v0 v1 v2 : Int) (pa : Addr) (w : World) (hp : Pow w) (hP : Plan w pa) (hx : i64 x) (hy : i64 y) (hw : i64 wd) (hd : i64 dp) (hr : i64 rr) (h0 : i64 v0) (h1 : i64 v1) (h2 : i64 v2) (hf : fitsP (mkRat (cX x) 4) (mkRat (cX y) 4) (mkRat (cW x wd) 4) (mkRat (cW y dp) 4) (mkRat (cR rr) 4) = true) (hfit : (passL (Pkt.of (mkRat (cX x) 4) (mkRat (cX y) 4) (mkRat (cW x wd) 4) (mkRat (cW y dp) 4) (mkRat (cR rr) 4)) 13).length ≤ 12) :
  Calls Tryz.prog 5 #[.agg #[.int .i64 x, .int .i64 y, .int .i64 wd, .int .i64 dp, .int .i64 rr], .agg #[.int .i64 v0, .int .i64 v1, .int .i64 v2]] w fun e w' => e = .returned (.bool true) ∧ Below w.heap.size w w' := by
 have SN := fun W hp hP => lw_sane pa W hp hP
 have hh0 : 0 < w.heap.size := World.block_lt_of_cell? _ _ hP
 have CN := fun W => lw_corners x y wd dp rr W hx hy hw hd hr
 have RZ := fun W => lw_ratio 0 1 W (by decide) (by decide) (by decide) (by decide)
 rw [show mkRat 0 (1 : Int).toNat = 0 from rfl, rv_zero] at RZ
 obtain ⟨hI, hM⟩ := inp_of' (x := x) (y := y) (wd := wd) (dp := dp) (rr := rr)
 have hQ := qp_of (x := x) (y := y) (wd := wd) (dp := dp) (rr := rr)
 have hOK := fits_okP' hI hf
 have PO := fun W hp hP => pl_Pocket_fit (mkRat (cX x) 4) (mkRat (cX y) 4) (mkRat (cW x wd) 4) (mkRat (cW y dp) 4) 0 (mkRat (cR rr) 4) pa W hp hP hI sq_zero hQ.rows hf hfit
 rw [rv_zero] at PO
 have RE := fun W hp hP => pl_Reachable_ok (mkRat (cX x) 4) (mkRat (cX y) 4) (mkRat (cW x wd) 4) (mkRat (cW y dp) 4) (mkRat (cR rr) 4) pa W hp hP hI hf
 have bd := pickI_bound (c := v2) (n := 3) (by decide)
 have bx := pickI_bound (c := v0) (n := 161) (by decide)
 have by' := pickI_bound (c := v1) (n := 161) (by decide)
 have P2 := fun W => lw_pick v2 3 W h2 (by decide) (by decide)
 have P0 := fun W => lw_pick v0 161 W h0 (by decide) (by decide)
 have P1 := fun W => lw_pick v1 161 W h1 (by decide) (by decide)
 have RX := fun W => lw_ratio (pickI v0 161 - 60) (4 + pickI v2 3) W (by omega) (by omega) (by omega) (by omega)
 have RY := fun W => lw_ratio (pickI v1 161 - 60) (4 + pickI v2 3) W (by omega) (by omega) (by omega) (by omega)
 have sX : Sm 3 (mkRat (pickI v0 161 - 60) (4 + pickI v2 3).toNat) := sm_mk (by omega) (by omega) (by decide)
 have sY : Sm 3 (mkRat (pickI v1 161 - 60) (4 + pickI v2 3).toNat) := sm_mk (by omega) (by omega) (by decide)
 have CT := fun v W hp hv => rg_Contains 10 v (reachR (Pkt.of (mkRat (cX x) 4) (mkRat (cX y) 4) (mkRat (cW x wd) 4) (mkRat (cW y dp) 4) (mkRat (cR rr) 4))) (mkRat (pickI v0 161 - 60) (4 + pickI v2 3).toNat) (mkRat (pickI v1 161 - 60) (4 + pickI v2 3).toNat) W hp (by decide) (by decide) hv (reach_sz hI.hr).1 (reach_sm hM) (sX.le (by decide)) (sY.le (by decide))
 have j1 : wrap64 (4 + pickI v2 3) = 4 + pickI v2 3 := wrap_small (by omega)
 have j2 : wrap64 (pickI v0 161 - 60) = pickI v0 161 - 60 := wrap_small (by omega)
 have j3 : wrap64 (pickI v1 161 - 60) = pickI v1 161 - 60 := wrap_small (by omega)
 have qa := hQ.a.sm (by decide)
 have qb := hQ.b.sm (by decide)
 have qc := hQ.c.sm (by decide)
 have qd := hQ.d.sm (by decide)
 have qr := hQ.r.sm (by decide)
 have bX := bey_sm sX qa qc (by decide)
 have bY := bey_sm sY qb qd (by decide)
 have mX := sm_mul (by decide) bX bX
 have mY := sm_mul (by decide) bY bY
 have NR := fun W hp => lw_near (mkRat (cX x) 4) (mkRat (cX y) 4) (mkRat (cW x wd) 4) (mkRat (cW y dp) 4) (mkRat (cR rr) 4) (mkRat (pickI v0 161 - 60) (4 + pickI v2 3).toNat) (mkRat (pickI v1 161 - 60) (4 + pickI v2 3).toNat) W hp (hI.h0.le (by decide)) (hI.h1.le (by decide)) (hI.h2.le (by decide)) (hI.h3.le (by decide)) (hI.h4.le (by decide)) (sX.le (by decide)) (sY.le (by decide)) (qa.le (by decide)) (qb.le (by decide)) (qc.le (by decide)) (qd.le (by decide)) (bX.le (by decide)) (bY.le (by decide)) (mX.le (by decide)) (mY.le (by decide)) ((sm_add mX mY).le (by decide)) ((sm_mul (by decide) qr qr).le (by decide))
 have WN : decide (beyR (mkRat (pickI v0 161 - 60) (4 + pickI v2 3).toNat) (mkRat (cX x) 4 + mkRat (cR rr) 4) (mkRat (cW x wd) 4 - mkRat (cR rr) 4) * beyR (mkRat (pickI v0 161 - 60) (4 + pickI v2 3).toNat) (mkRat (cX x) 4 + mkRat (cR rr) 4) (mkRat (cW x wd) 4 - mkRat (cR rr) 4) + beyR (mkRat (pickI v1 161 - 60) (4 + pickI v2 3).toNat) (mkRat (cX y) 4 + mkRat (cR rr) 4) (mkRat (cW y dp) 4 - mkRat (cR rr) 4) * beyR (mkRat (pickI v1 161 - 60) (4 + pickI v2 3).toNat) (mkRat (cX y) 4 + mkRat (cR rr) 4) (mkRat (cW y dp) 4 - mkRat (cR rr) 4) ≤ mkRat (cR rr) 4 * mkRat (cR rr) 4) = inR (sideR (mkRat (pickI v0 161 - 60) (4 + pickI v2 3).toNat) (mkRat (pickI v1 161 - 60) (4 + pickI v2 3).toNat)) (reachR (Pkt.of (mkRat (cX x) 4) (mkRat (cX y) 4) (mkRat (cW x wd) 4) (mkRat (cW y dp) 4) (mkRat (cR rr) 4))) := by
  rw [Bool.eq_iff_iff, decide_eq_true_iff]
  exact (reach_near hOK _ _).symm
 rw [WN] at NR
 have INS : inR (sideR (mkRat (pickI v0 161 - 60) (4 + pickI v2 3).toNat) (mkRat (pickI v1 161 - 60) (4 + pickI v2 3).toNat)) (reachR (Pkt.of (mkRat (cX x) 4) (mkRat (cX y) 4) (mkRat (cW x wd) 4) (mkRat (cW y dp) 4) (mkRat (cR rr) 4))) = true → mkRat (cX x) 4 ≤ (mkRat (pickI v0 161 - 60) (4 + pickI v2 3).toNat) ∧ (mkRat (pickI v0 161 - 60) (4 + pickI v2 3).toNat) ≤ mkRat (cW x wd) 4 ∧ mkRat (cX y) 4 ≤ (mkRat (pickI v1 161 - 60) (4 + pickI v2 3).toNat) ∧ (mkRat (pickI v1 161 - 60) (4 + pickI v2 3).toNat) ≤ mkRat (cW y dp) 4 := fun h => near_inside hOK ((reach_near hOK (mkRat (pickI v0 161 - 60) (4 + pickI v2 3).toNat) (mkRat (pickI v1 161 - 60) (4 + pickI v2 3).toNat)).1 h)
 have hSW : swept (fun q => inR (sideR (mkRat (pickI v0 161 - 60) (4 + pickI v2 3).toNat) (mkRat (pickI v1 161 - 60) (4 + pickI v2 3).toNat)) (trackR q (mkRat (cR rr) 4))) (passL (Pkt.of (mkRat (cX x) 4) (mkRat (cX y) 4) (mkRat (cW x wd) 4) (mkRat (cW y dp) 4) (mkRat (cR rr) 4)) 13) (passL (Pkt.of (mkRat (cX x) 4) (mkRat (cX y) 4) (mkRat (cW x wd) 4) (mkRat (cW y dp) 4) (mkRat (cR rr) 4)) 13).length = inR (sideR (mkRat (pickI v0 161 - 60) (4 + pickI v2 3).toNat) (mkRat (pickI v1 161 - 60) (4 + pickI v2 3).toNat)) (reachR (Pkt.of (mkRat (cX x) 4) (mkRat (cX y) 4) (mkRat (cW x wd) 4) (mkRat (cW y dp) 4) (mkRat (cR rr) 4))) := swept_all hOK hfit (mkRat (pickI v0 161 - 60) (4 + pickI v2 3).toNat) (mkRat (pickI v1 161 - 60) (4 + pickI v2 3).toNat)
 have PSW := fun q W hp (hq : q ∈ passL (Pkt.of (mkRat (cX x) 4) (mkRat (cX y) 4) (mkRat (cW x wd) 4) (mkRat (cW y dp) 4) (mkRat (cR rr) 4)) 13) => pass_swept q (mkRat (cR rr) 4) W hp (pass_ok hOK hQ hq) hQ.r hOK.r0
 have PCO := fun q XA YA XAc YAc a0 g W hp (hq : q ∈ passL (Pkt.of (mkRat (cX x) 4) (mkRat (cX y) 4) (mkRat (cW x wd) 4) (mkRat (cW y dp) 4) (mkRat (cR rr) 4)) 13) hk HR => pass_contains q (mkRat (cR rr) 4) (mkRat (pickI v0 161 - 60) (4 + pickI v2 3).toNat) (mkRat (pickI v1 161 - 60) (4 + pickI v2 3).toNat) XA YA XAc YAc a0 g W hp (pass_ok hOK hQ hq) hQ.r hOK.r0 (sX.le (by decide)) (sY.le (by decide)) hk HR
 have hlen := hfit
 have R2 := fun W => lw_ratio 2 1 W (by decide) (by decide) (by decide) (by decide)
 have R1 := fun W => lw_ratio 1 1 W (by decide) (by decide) (by decide) (by decide)
 rw [show mkRat 2 (1 : Int).toNat = 2 from by decide +kernel] at R2
 rw [show mkRat 1 (1 : Int).toNat = 1 from by decide +kernel] at R1
 simp only [passV] at PO
 generalize passL (Pkt.of (mkRat (cX x) 4) (mkRat (cX y) 4) (mkRat (cW x wd) 4) (mkRat (cW y dp) 4) (mkRat (cR rr) 4)) 13 = L at *
 obtain ⟨PV, hPV⟩ : ∃ t : List Ps, (L.map fun q => (q.1, q.2.1, q.2.2.1, q.2.2.2, (0 : Rat))) = t := ⟨_, rfl⟩
 simp only [hPV] at PO
 have hPLA := Aside0.mk (show PV.length = L.length by rw [← hPV, List.length_map])
 have hget : ∀ i, i < L.length → PV.getD i (0, 0, 0, 0, 0) = ((L.getD i (0, 0, 0, 0)).1, (L.getD i (0, 0, 0, 0)).2.1, (L.getD i (0, 0, 0, 0)).2.2.1, (L.getD i (0, 0, 0, 0)).2.2.2, 0) := by
  intro i hi
  rw [← hPV, List.getD_eq_getElem?_getD, List.getD_eq_getElem?_getD, List.getElem?_map, List.getElem?_eq_getElem hi]
  rfl
 have SW0 : swept (fun q => inR (sideR (mkRat (pickI v0 161 - 60) (4 + pickI v2 3).toNat) (mkRat (pickI v1 161 - 60) (4 + pickI v2 3).toNat)) (trackR q (mkRat (cR rr) 4))) L 0 = false := rfl
 have SWs : ∀ n, swept (fun q => inR (sideR (mkRat (pickI v0 161 - 60) (4 + pickI v2 3).toNat) (mkRat (pickI v1 161 - 60) (4 + pickI v2 3).toNat)) (trackR q (mkRat (cR rr) 4))) L (n + 1) = (swept (fun q => inR (sideR (mkRat (pickI v0 161 - 60) (4 + pickI v2 3).toNat) (mkRat (pickI v1 161 - 60) (4 + pickI v2 3).toNat)) (trackR q (mkRat (cR rr) 4))) L n || inR (sideR (mkRat (pickI v0 161 - 60) (4 + pickI v2 3).toNat) (mkRat (pickI v1 161 - 60) (4 + pickI v2 3).toNat)) (trackR (L.getD n (0, 0, 0, 0)) (mkRat (cR rr) 4))) := fun _ => rfl
 generalize swept (fun q => inR (sideR (mkRat (pickI v0 161 - 60) (4 + pickI v2 3).toNat) (mkRat (pickI v1 161 - 60) (4 + pickI v2 3).toNat)) (trackR q (mkRat (cR rr) 4))) L = SWF at *
 clear hPV
 have sU0 : Sm 10 (mkRat (cX x) 4) := hM.x0
 have sU1 : Sm 10 (mkRat (cX y) 4) := hM.y0
 have sU2 : Sm 10 (mkRat (cW x wd) 4) := hM.x1
 have sU3 : Sm 10 (mkRat (cW y dp) 4) := hM.y1
 have sU4 : Sm 10 (mkRat (cR rr) 4) := hM.r
 rw [fits_iff] at hf
 have hf1 := of_decide_eq_true (Bool.and_eq_true_iff.1 hf).1
 have hf2 := of_decide_eq_true (Bool.and_eq_true_iff.1 hf).2
 have qX : Sm 10 (mkRat (pickI v0 161 - 60) (4 + pickI v2 3).toNat) := sX.le (by decide)
 have qY : Sm 10 (mkRat (pickI v1 161 - 60) (4 + pickI v2 3).toNat) := sY.le (by decide)
 clear hI hM hf bd bx by' sX sY hx hy hw hd hr h0 h1 h2 WN qa qb qc qd qr bX bY mX mY hOK hQ hfit
 generalize reachR (Pkt.of (mkRat (cX x) 4) (mkRat (cX y) 4) (mkRat (cW x wd) 4) (mkRat (cW y dp) 4) (mkRat (cR rr) 4)) = RG at *
 generalize (mkRat (pickI v0 161 - 60) (4 + pickI v2 3).toNat) = X at *
 generalize (mkRat (pickI v1 161 - 60) (4 + pickI v2 3).toNat) = Y at *
 generalize pickI v0 161 = i0 at *
 generalize pickI v1 161 = i1 at *
 generalize pickI v2 3 = i2 at *
 generalize mkRat (cX x) 4 = ru0 at *
 generalize mkRat (cX y) 4 = ru1 at *
 generalize mkRat (cW x wd) 4 = ru2 at *
 generalize mkRat (cW y dp) 4 = ru3 at *
 generalize mkRat (cR rr) 4 = ru4 at *
 have AD := fun W hp => rat_Add ru4 ru4 W hp (sU4.le (by decide)) (sU4.le (by decide))
 have S1 := fun W hp => rat_Sub ru2 ru0 W hp (sU2.le (by decide)) (sU0.le (by decide))
 have S2 := fun W hp => rat_Sub ru3 ru1 W hp (sU3.le (by decide)) (sU1.le (by decide))
 have C1 := fun W hp => rat_Compare (ru4 + ru4) (ru2 - ru0) W hp ((sm_add sU4 sU4).le (by decide)) ((sm_sub sU2 sU0).le (by decide))
 have C2 := fun W hp => rat_Compare (ru4 + ru4) (ru3 - ru1) W hp ((sm_add sU4 sU4).le (by decide)) ((sm_sub sU3 sU1).le (by decide))
 have M1 := fun W hp => rat_Compare ru0 X W hp (sU0.le (by decide)) (qX.le (by decide))
 have M2 := fun W hp => rat_Compare X ru2 W hp (qX.le (by decide)) (sU2.le (by decide))
 have M3 := fun W hp => rat_Compare ru1 Y W hp (sU1.le (by decide)) (qY.le (by decide))
 have M4 := fun W hp => rat_Compare Y ru3 W hp (qY.le (by decide)) (sU3.le (by decide))
 have le0 := fun {p q : Rat} (h : p ≤ q) => (of_decide_eq_true (by rw [cmp_le0]; exact decide_eq_true h) : cmpR p q ≤ 0)
 have g1 := eq_true (le0 hf1)
 have g2 := eq_true (le0 hf2)
 have I1 := Aside0.mk (fun h => le0 (INS h).1)
 have I2 := Aside0.mk (fun h => le0 (INS h).2.1)
 have I3 := Aside0.mk (fun h => le0 (INS h).2.2.1)
 have I4 := Aside0.mk (fun h => le0 (INS h).2.2.2)
 clear INS le0 hf1 hf2 sU0 sU1 sU2 sU3 sU4 qX qY
 generalize inR (sideR X Y) RG = IS at *
 generalize cmpR (ru4 + ru4) (ru2 - ru0) = m1 at *
 generalize cmpR (ru4 + ru4) (ru3 - ru1) = m2 at *
 generalize cmpR ru0 X = k1 at *
 generalize cmpR X ru2 = k2 at *
 generalize cmpR ru1 Y = k3 at *
 generalize cmpR Y ru3 = k4 at *
 unfold rv rcv at *
 generalize ru4 + ru4 = tt at *
 generalize ru2 - ru0 = ss at *
 generalize ru3 - ru1 = uu at *
 generalize itx (2 : Rat).num = t21 at *
 generalize itx ((2 : Rat).den : Int) = t22 at *
 generalize itx (1 : Rat).num = t11 at *
 generalize itx ((1 : Rat).den : Int) = t12 at *
 generalize itx ru0.num = a1 at *
 generalize itx (ru0.den : Int) = a2 at *
 generalize itx ru1.num = b1 at *
 generalize itx (ru1.den : Int) = b2 at *
 generalize itx ru2.num = c1 at *
 generalize itx (ru2.den : Int) = c2 at *
 generalize itx ru3.num = d1 at *
 generalize itx (ru3.den : Int) = d2 at *
 generalize itx ru4.num = e1 at *
 generalize itx (ru4.den : Int) = e2 at *
 generalize itx tt.num = t1 at *
 generalize itx (tt.den : Int) = t2 at *
 generalize itx ss.num = s1 at *
 generalize itx (ss.den : Int) = s2 at *
 generalize itx uu.num = u1 at *
 generalize itx (uu.den : Int) = u2 at *
 generalize itx X.num = p1 at *
 generalize itx (X.den : Int) = p2 at *
 generalize itx Y.num = o1 at *
 generalize itx (Y.den : Int) = o2 at *
 obtain ⟨hB0, k0_, k1_⟩ := news2 w #[.int .i64 x, .int .i64 y, .int .i64 wd, .int .i64 dp, .int .i64 rr] 23 #[.int .i64 v0, .int .i64 v1, .int .i64 v2] 47
 have K0 := k0_
 have K1 := k1_
 have HB := hB0
 clear k0_ k1_ hB0
 have K0c0 := K0.c0
 have K0c1 := K0.c1
 have K0c2 := K0.c2
 have K0c3 := K0.c3
 have K0c4 := K0.c4
 have K1c0 := K1.c0
 have K1c1 := K1.c1
 have K1c2 := K1.c2
 have TK1 : True := trivial
 have TK2 : True := trivial
 have TK3 : True := trivial
 have TK4 : True := trivial
 have TK5 : True := trivial
 go_enter Tryz.func5, Tryz.ntmps5
 go_upto_region 17 with ((first | (go_at_call 6; refine (SN _ (hp.below HB) (hP.below HB hh0)).mono ?_; clear SN; rintro e _ ⟨rfl, hb⟩) | (go_at_call 7; refine (CN _).mono ?_; clear CN; rintro e w2 ⟨rfl, hb⟩; replace hb := bZa hb (.cells #[.string a1, .string a2, .string b1, .string b2, .string c1, .string c2, .string d1, .string d2] 28); replace hb := bZa hb (.cells #[.string e1, .string e2] 25); have KC := (Blk.new w2 #[.string a1, .string a2, .string b1, .string b2, .string c1, .string c2, .string d1, .string d2] 28).alloc (.cells #[.string e1, .string e2] 25); have KR := Blk.new2 w2 #[.string a1, .string a2, .string b1, .string b2, .string c1, .string c2, .string d1, .string d2] #[.string e1, .string e2] 28 25) | (go_at_call 8; refine (RZ _).mono ?_; clear RZ; rintro e w3 ⟨rfl, hb⟩; replace hb := bZa hb (.cells #[.string ⟨#[48]⟩, .string ⟨#[49]⟩] 25); have KZ := Blk.new w3 #[.string ⟨#[48]⟩, .string ⟨#[49]⟩] 25) | (go_at_call 11; refine (PO _ (hp.below HB) (hP.below HB hh0)).mono ?_; clear PO; rintro e w4 ⟨PA, pm, pc, rfl, HL, hb⟩; replace HL := Kd.R_lower HL (bZz HB); obtain ⟨PB, pq, ex⟩ := Kd.R_slice HL; injection ex with ex1 ex2 ex3; subst ex1 ex2 ex3) | (go_at_call 14; refine (RE _ (hp.below HB) (hP.below HB hh0)).mono ?_; clear RE; rintro e w5 ⟨v, rfl, ⟨xx, yy, rfl, HX, HY⟩, hb⟩; obtain ⟨XA, xc, ex⟩ := Kd.R_slice HX; obtain ⟨YA, yc, ey⟩ := Kd.R_slice HY; subst ex ey; have HG : RdR (w5.alloc (.cells #[.slice XA RG.1.length xc, .slice YA RG.2.length yc] 42)) (.agg #[.slice XA RG.1.length xc, .slice YA RG.2.length yc]) RG := RdR.below (w := w5) ⟨_, _, rfl, HX.rd, HY.rd⟩ (bZa (Below.refl _ _) _); clear HX HY; replace hb := bZa hb (.cells #[.slice XA RG.1.length xc, .slice YA RG.2.length yc] 42); have KG := Blk.new w5 #[.slice XA RG.1.length xc, .slice YA RG.2.length yc] 42) | (go_at_call 19; refine (AD _ (hp.below HB)).mono ?_; clear AD; rintro e w6 ⟨rfl, hb⟩; replace hb := bZa hb (.cells #[.string t1, .string t2] 25); have KT := Blk.new w6 #[.string t1, .string t2] 25) | (go_at_call 20; refine (S1 _ (hp.below HB)).mono ?_; clear S1; rintro e w7 ⟨rfl, hb⟩; replace hb := bZa hb (.cells #[.string s1, .string s2] 25); have KW := Blk.new w7 #[.string s1, .string s2] 25) | (go_at_call 20; refine (S2 _ (hp.below HB)).mono ?_; clear S2; rintro e w8 ⟨rfl, hb⟩; replace hb := bZa hb (.cells #[.string u1, .string u2] 25); have KE := Blk.new w8 #[.string u1, .string u2] 25) | (go_at_call 18; refine (C1 _ (hp.below HB)).mono ?_; clear C1; rintro e _ ⟨rfl, hb⟩) | (go_at_call 18; refine (C2 _ (hp.below HB)).mono ?_; clear C2; rintro e _ ⟨rfl, hb⟩) | (go_at_call 9; clear TK1; refine (P2 _).mono ?_; clear P2; rintro e _ ⟨rfl, rfl⟩) | (go_at_call 9; clear TK2; refine (P0 _).mono ?_; clear P0; rintro e _ ⟨rfl, rfl⟩) | (go_at_call 8; clear TK3; refine (RX _).mono ?_; clear RX; rintro e w12 ⟨rfl, hb⟩; replace hb := bZa hb (.cells #[.string p1, .string p2] 25); have KX := Blk.new w12 #[.string p1, .string p2] 25) | (go_at_call 9; clear TK4; refine (P1 _).mono ?_; clear P1; rintro e _ ⟨rfl, rfl⟩) | (go_at_call 8; clear TK5; refine (RY _).mono ?_; clear RY; rintro e w14 ⟨rfl, hb⟩; replace hb := bZa hb (.cells #[.string o1, .string o2] 25); have KY := Blk.new w14 #[.string o1, .string o2] 25) | (go_at_call 17; refine (CT _ _ (hp.below HB) HG).mono ?_; clear CT; rintro e _ ⟨rfl, hb⟩) | (go_at_call 21; refine (NR _ (hp.below HB)).mono ?_; clear NR; rintro e _ ⟨rfl, hb⟩)); (try replace K0 := K0.below hb); (try replace K1 := K1.below hb); (try replace KC := KC.below hb); (try replace KR := KR.below hb); (try replace KZ := KZ.below hb); (try replace KG := KG.below hb); (try replace KT := KT.below hb); (try replace KW := KW.below hb); (try replace KE := KE.below hb); (try replace KX := KX.below hb); (try replace KY := KY.below hb); (try replace HL := OwnK.below HL hb); (try replace HG := RdR.below HG hb); (try replace HB := bZs HB hb); (try replace K0c0 := K0.c0); (try replace K0c1 := K0.c1); (try replace K0c2 := K0.c2); (try replace K0c3 := K0.c3); (try replace K0c4 := K0.c4); (try replace K1c0 := K1.c0); (try replace K1c1 := K1.c1); (try replace K1c2 := K1.c2); (try replace KCc0 := KC.c0); (try replace KCc1 := KC.c1); (try replace KCc2 := KC.c2); (try replace KCc3 := KC.c3); (try replace KCc4 := KC.c4); (try replace KCc5 := KC.c5); (try replace KCc6 := KC.c6); (try replace KCc7 := KC.c7); (try replace KRc0 := KR.c0); (try replace KRc1 := KR.c1); (try replace KZc0 := KZ.c0); (try replace KZc1 := KZ.c1); (try replace KGc0 := KG.c0); (try replace KGc1 := KG.c1); (try replace KTc0 := KT.c0); (try replace KTc1 := KT.c1); (try replace KWc0 := KW.c0); (try replace KWc1 := KW.c1); (try replace KEc0 := KE.c0); (try replace KEc1 := KE.c1); (try replace KXc0 := KX.c0); (try replace KXc1 := KX.c1); (try replace KYc0 := KY.c0); (try replace KYc1 := KY.c1); (try clear hb))
 clear HG K0c0 K0c1 K0c2 K0c3 K0c4 K1c0 K1c1 K1c2 K0 K1 KZ KT KW KE KG KZc0 KZc1 KTc0 KTc1 KWc0 KWc1 KEc0 KEc1 KGc0 KGc1
 go_cut [26] from 146 to 171 (fun c wx => ∃ b : Bool, c = .bool b ∧ Aside0 (IS = true → b = true) ∧ Blk wx (w2.heap.size + 1) #[.string e1, .string e2] 25 ∧ Blk wx (w12.heap.size) #[.string p1, .string p2] 25 ∧ Blk wx (w14.heap.size) #[.string o1, .string o2] 25 ∧ OwnK kPs 61 wx w.heap.size (.slice PA PV.length pc) PV ∧ Below w.heap.size w wx)
 case first =>
  rcases Classical.em (k1 ≤ 0) with l1 | l1
  rotate_left
  ·have n1 := Aside0.mk (Int.not_le.1 l1)
   replace l1 := eq_false l1
   go_wp2_with (first | (go_at_call 18; refine (M1 _ (hp.below HB)).mono ?_; clear M1; rintro e y1 ⟨rfl, hb⟩; replace KC := KC.below hb; replace KR := KR.below hb; replace KX := KX.below hb; replace KY := KY.below hb; replace HL := OwnK.below HL hb; replace HB := bZs HB hb; replace KCc0 := KC.c0; replace KCc1 := KC.c1; replace KCc2 := KC.c2; replace KCc3 := KC.c3; replace KCc4 := KC.c4; replace KCc5 := KC.c5; replace KCc6 := KC.c6; replace KCc7 := KC.c7; replace KRc0 := KR.c0; replace KRc1 := KR.c1; replace KXc0 := KX.c0; replace KXc1 := KX.c1; replace KYc0 := KY.c0; replace KYc1 := KY.c1; clear hb))
   go_meet
   exact ⟨false, rfl, Aside0.mk (fun h => ((Int.not_lt.2 (I1.out h)) n1.out).elim), KR, KX, KY, HL, HB⟩
  replace l1 := eq_true l1
  rcases Classical.em (k2 ≤ 0) with l2 | l2
  rotate_left
  ·have n2 := Aside0.mk (Int.not_le.1 l2)
   replace l2 := eq_false l2
   go_wp2_with ((first | (go_at_call 18; refine (M1 _ (hp.below HB)).mono ?_; clear M1; rintro e y1 ⟨rfl, hb⟩) | (go_at_call 18; refine (M2 _ (hp.below HB)).mono ?_; clear M2; rintro e y2 ⟨rfl, hb⟩)); replace KC := KC.below hb; replace KR := KR.below hb; replace KX := KX.below hb; replace KY := KY.below hb; replace HL := OwnK.below HL hb; replace HB := bZs HB hb; replace KCc0 := KC.c0; replace KCc1 := KC.c1; replace KCc2 := KC.c2; replace KCc3 := KC.c3; replace KCc4 := KC.c4; replace KCc5 := KC.c5; replace KCc6 := KC.c6; replace KCc7 := KC.c7; replace KRc0 := KR.c0; replace KRc1 := KR.c1; replace KXc0 := KX.c0; replace KXc1 := KX.c1; replace KYc0 := KY.c0; replace KYc1 := KY.c1; clear hb)
   go_meet
   exact ⟨false, rfl, Aside0.mk (fun h => ((Int.not_lt.2 (I2.out h)) n2.out).elim), KR, KX, KY, HL, HB⟩
  replace l2 := eq_true l2
  rcases Classical.em (k3 ≤ 0) with l3 | l3
  rotate_left
  ·have n3 := Aside0.mk (Int.not_le.1 l3)
   replace l3 := eq_false l3
   go_wp2_with ((first | (go_at_call 18; refine (M1 _ (hp.below HB)).mono ?_; clear M1; rintro e y1 ⟨rfl, hb⟩) | (go_at_call 18; refine (M2 _ (hp.below HB)).mono ?_; clear M2; rintro e y2 ⟨rfl, hb⟩) | (go_at_call 18; refine (M3 _ (hp.below HB)).mono ?_; clear M3; rintro e y3 ⟨rfl, hb⟩)); replace KC := KC.below hb; replace KR := KR.below hb; replace KX := KX.below hb; replace KY := KY.below hb; replace HL := OwnK.below HL hb; replace HB := bZs HB hb; replace KCc0 := KC.c0; replace KCc1 := KC.c1; replace KCc2 := KC.c2; replace KCc3 := KC.c3; replace KCc4 := KC.c4; replace KCc5 := KC.c5; replace KCc6 := KC.c6; replace KCc7 := KC.c7; replace KRc0 := KR.c0; replace KRc1 := KR.c1; replace KXc0 := KX.c0; replace KXc1 := KX.c1; replace KYc0 := KY.c0; replace KYc1 := KY.c1; clear hb)
   go_meet
   exact ⟨false, rfl, Aside0.mk (fun h => ((Int.not_lt.2 (I3.out h)) n3.out).elim), KR, KX, KY, HL, HB⟩
  replace l3 := eq_true l3
  rcases Classical.em (k4 ≤ 0) with l4 | l4
  rotate_left
  ·have n4 := Aside0.mk (Int.not_le.1 l4)
   replace l4 := eq_false l4
   go_wp2_with ((first | (go_at_call 18; refine (M1 _ (hp.below HB)).mono ?_; clear M1; rintro e y1 ⟨rfl, hb⟩) | (go_at_call 18; refine (M2 _ (hp.below HB)).mono ?_; clear M2; rintro e y2 ⟨rfl, hb⟩) | (go_at_call 18; refine (M3 _ (hp.below HB)).mono ?_; clear M3; rintro e y3 ⟨rfl, hb⟩) | (go_at_call 18; refine (M4 _ (hp.below HB)).mono ?_; clear M4; rintro e y4 ⟨rfl, hb⟩)); replace KC := KC.below hb; replace KR := KR.below hb; replace KX := KX.below hb; replace KY := KY.below hb; replace HL := OwnK.below HL hb; replace HB := bZs HB hb; replace KCc0 := KC.c0; replace KCc1 := KC.c1; replace KCc2 := KC.c2; replace KCc3 := KC.c3; replace KCc4 := KC.c4; replace KCc5 := KC.c5; replace KCc6 := KC.c6; replace KCc7 := KC.c7; replace KRc0 := KR.c0; replace KRc1 := KR.c1; replace KXc0 := KX.c0; replace KXc1 := KX.c1; replace KYc0 := KY.c0; replace KYc1 := KY.c1; clear hb)
   go_meet
   exact ⟨false, rfl, Aside0.mk (fun h => ((Int.not_lt.2 (I4.out h)) n4.out).elim), KR, KX, KY, HL, HB⟩
  replace l4 := eq_true l4
  go_wp2_with ((first | (go_at_call 18; refine (M1 _ (hp.below HB)).mono ?_; clear M1) | (go_at_call 18; refine (M2 _ (hp.below HB)).mono ?_; clear M2) | (go_at_call 18; refine (M3 _ (hp.below HB)).mono ?_; clear M3) | (go_at_call 18; refine (M4 _ (hp.below HB)).mono ?_; clear M4)); rintro e _ ⟨rfl, hb⟩; replace KC := KC.below hb; replace KR := KR.below hb; replace KX := KX.below hb; replace KY := KY.below hb; replace HL := OwnK.below HL hb; replace HB := bZs HB hb; replace KCc0 := KC.c0; replace KCc1 := KC.c1; replace KCc2 := KC.c2; replace KCc3 := KC.c3; replace KCc4 := KC.c4; replace KCc5 := KC.c5; replace KCc6 := KC.c6; replace KCc7 := KC.c7; replace KRc0 := KR.c0; replace KRc1 := KR.c1; replace KXc0 := KX.c0; replace KXc1 := KX.c1; replace KYc0 := KY.c0; replace KYc1 := KY.c1; clear hb)
  go_meet
  exact ⟨true, rfl, Aside0.mk (fun _ => rfl), KR, KX, KY, HL, HB⟩
 case rest =>
  obtain ⟨b, rfl, hb1, KR, KX, KY, HL, HB⟩ := hcut
  go_upto_region 18 with fail
  go_cut [185] from 172 to 185 (fun c wx => c = .bool false ∧ Blk wx (w2.heap.size + 1) #[.string e1, .string e2] 25 ∧ Blk wx (w12.heap.size) #[.string p1, .string p2] 25 ∧ Blk wx (w14.heap.size) #[.string o1, .string o2] 25 ∧ OwnK kPs 61 wx w.heap.size (.slice PA PV.length pc) PV ∧ Below w.heap.size w wx)
  case first =>
   cases IS with
   | true =>
    have hb2 : b = true := hb1.out rfl
    subst hb2
    go_wp2
    go_meet
    exact ⟨rfl, KR, KX, KY, HL, HB⟩
   | false =>
    go_wp2
    go_meet
    exact ⟨rfl, KR, KX, KY, HL, HB⟩
  case rest =>
   obtain ⟨rfl, KR, KX, KY, HL, HB⟩ := hcut
   clear M1 M2 M3 M4 I1 I2 I3 I4 hb1
   go_wp2
   go_loopg [27, 28] L.length (fun k v27 v28 w' => ∃ i : Nat, v28 = .int .i64 i ∧ v27 = .bool (SWF i) ∧ Aside0 (i + k = L.length) ∧ Blk w' (w2.heap.size + 1) #[.string e1, .string e2] 25 ∧ Blk w' (w12.heap.size) #[.string p1, .string p2] 25 ∧ Blk w' (w14.heap.size) #[.string o1, .string o2] 25 ∧ OwnK kPs 61 w' w.heap.size (.slice PA PV.length pc) PV ∧ Below w.heap.size w w')
   case atStart => exact ⟨0, rfl, by rw [SW0], Aside0.mk (Nat.zero_add _), KR, KX, KY, HL, HB⟩
   clear KR KX KY HL HB
   obtain ⟨i, rfl, rfl, hk, KR, KX, KY, HL, HB⟩ := hrel
   cases gk with
   | zero =>
    have hi : i = L.length := hk.out
    have hlt : decide ((i : Int) < (PV.length : Int)) = false := decide_eq_false (by rw [hi, hPLA.out]; exact Int.lt_irrefl _)
    have hlt' : ((i : Int) < (PV.length : Int)) = False := eq_false (of_decide_eq_false hlt)
    have hSI : SWF i = IS := by rw [hi]; exact hSW
    rw [hSI]
    clear hi hSI
    cases IS with
    | true =>
     go_wp2
     go_ret
     exact ⟨rfl, HB⟩
    | false =>
     go_wp2
     go_ret
     exact ⟨rfl, HB⟩
   | succ m =>
    have hin : i < L.length := Nat.lt_of_lt_of_eq (Nat.lt_add_of_pos_right (Nat.succ_pos m)) hk.out
    have hlt : decide ((i : Int) < (PV.length : Int)) = true := decide_eq_true (by rw [hPLA.out]; exact Int.ofNat_lt.2 hin)
    have hlt' : ((i : Int) < (PV.length : Int)) = True := eq_true (of_decide_eq_true hlt)
    have hge : (0 ≤ (i : Int)) = True := eq_true (Int.natCast_nonneg i)
    have hwi : wrap64 ((i : Int) + 1) = ((i + 1 : Nat) : Int) := wrap_succ hin (Nat.le_trans hlen (by decide))
    have hwk := wrapK_nat hin hlen
    obtain ⟨A9, c9, e9, _, hC⟩ := Kd.R_reads HL
    injection e9 with e91 e92 e93
    obtain ⟨ad, had, hx0, hx1⟩ := flat_at hC (0, 0, 0, 0, 0) (i : Int) (Int.natCast_nonneg i) (of_decide_eq_true hlt)
    rw [Int.toNat_natCast] at hx0 hx1
    rw [hget i hin] at hx0 hx1
    subst e91 had
    have d0 := hx0 _ rfl
    have d1 := hx1 1 _ (by decide) rfl
    have d2 := hx1 2 _ (by decide) rfl
    have d3 := hx1 3 _ (by decide) rfl
    have d4 := hx1 4 _ (by decide) rfl
    have d5 := hx1 5 _ (by decide) rfl
    have d6 := hx1 6 _ (by decide) rfl
    have d7 := hx1 7 _ (by decide) rfl
    have d8 : World.cell? _ _ = some (.string (itx (0 : Rat).num)) := hx1 8 _ (by decide) rfl
    have d9 : World.cell? _ _ = some (.string (itx ((0 : Rat).den : Int))) := hx1 9 _ (by decide) rfl
    have SW := fun W hp => PSW (L.getD i (0, 0, 0, 0)) W hp (getD_mem hin)
    have CO := fun XA YA XAc YAc a0 g W hp hk HR => PCO (L.getD i (0, 0, 0, 0)) XA YA XAc YAc a0 g W hp (getD_mem hin) hk HR
    have hF := SWs i
    have him := Aside0.mk (show i + 1 + m = L.length by rw [Nat.add_assoc, Nat.add_comm 1 m]; exact hk.out)
    clear hx0 hx1 hC PSW PCO SWs e92 e93 hget hk SW0
    generalize L.getD i (0, 0, 0, 0) = qq at *
    unfold psv at SW
    generalize trackR qq ru4 = TT at *
    generalize inR (sideR X Y) TT = FF at *
    generalize itx (0 : Rat).num = zz1 at *
    generalize itx ((0 : Rat).den : Int) = zz2 at *
    generalize itx qq.1.num = aq1 at *
    generalize itx (qq.1.den : Int) = aq2 at *
    generalize itx qq.2.1.num = bq1 at *
    generalize itx (qq.2.1.den : Int) = bq2 at *
    generalize itx qq.2.2.1.num = cq1 at *
    generalize itx (qq.2.2.1.den : Int) = cq2 at *
    generalize itx qq.2.2.2.num = dq1 at *
    generalize itx (qq.2.2.2.den : Int) = dq2 at *
    have hFF := Aside0.mk hF
    clear hF hin
    go_upto_region 26 with fail
    go_cut [29, 30] from 199 to 208 (fun s29 s30 wx => ∃ (gs g : Nat) (XB : Option Addr) (XBc : Nat) (YB : Option Addr) (YBc : Nat), s29 = .pointer (some ⟨gs, 0, none⟩) ∧ s30 = .int .i64 0 ∧ Blk wx gs #[.slice (some ⟨g, 0, none⟩) 1 1] 57 ∧ Blk wx g #[.slice XB TT.1.length XBc, .slice YB TT.2.length YBc, .string zz1, .string zz2, .string t21, .string t22, .bool false, .int .i64 0] 113 ∧ OwnR wx w.heap.size (.agg #[.slice XB TT.1.length XBc, .slice YB TT.2.length YBc]) TT ∧ Blk wx (w2.heap.size + 1) #[.string e1, .string e2] 25 ∧ Blk wx (w12.heap.size) #[.string p1, .string p2] 25 ∧ Blk wx (w14.heap.size) #[.string o1, .string o2] 25 ∧ OwnK kPs 61 wx w.heap.size (.slice (some ad) PV.length pc) PV ∧ Below w.heap.size w wx)
    case first =>
     have hb1 := bZd HB
     have SR := KR.drew
     have SX := KX.drew
     have SY := KY.drew
     have HLd := OwnK.below HL (bZd (Below.refl wr.heap.size wr))
     replace d0 := pZc (bZd (Below.refl wr.heap.size wr)) d0
     replace d1 := pZc (bZd (Below.refl wr.heap.size wr)) d1
     replace d2 := pZc (bZd (Below.refl wr.heap.size wr)) d2
     replace d3 := pZc (bZd (Below.refl wr.heap.size wr)) d3
     replace d4 := pZc (bZd (Below.refl wr.heap.size wr)) d4
     replace d5 := pZc (bZd (Below.refl wr.heap.size wr)) d5
     replace d6 := pZc (bZd (Below.refl wr.heap.size wr)) d6
     replace d7 := pZc (bZd (Below.refl wr.heap.size wr)) d7
     replace d8 := pZc (bZd (Below.refl wr.heap.size wr)) d8
     replace d9 := pZc (bZd (Below.refl wr.heap.size wr)) d9
     clear KR KX KY HL
     refine rZu (fun i => i == 6 || i == 7 || i == 8 || i == 9 || i == 11 || i == 12) (fun W => Below wr.drew.heap.size wr.drew W) (by kernel_rfl) (cZb _) (Below.refl _ _) ?_
     apply wpU_e 0 200
     apply wpU_e 1 201
     apply wpU_e 2 202
     refine wpU_f 3 203 (h1 := by intro W hW; have e0 := pZc hW (show wr.drew.cell? _ = _ from d0); have e1 := pZc hW (show wr.drew.cell? _ = _ from d1); have e2 := pZc hW (show wr.drew.cell? _ = _ from d2); have e3 := pZc hW (show wr.drew.cell? _ = _ from d3); have e4 := pZc hW (show wr.drew.cell? _ = _ from d4); have e5 := pZc hW (show wr.drew.cell? _ = _ from d5); have e6 := pZc hW (show wr.drew.cell? _ = _ from d6); have e7 := pZc hW (show wr.drew.cell? _ = _ from d7); have e8 := pZc hW (show wr.drew.cell? _ = _ from d8); have e9 := pZc hW (show wr.drew.cell? _ = _ from d9); go_simp; try rfl) (h3 := ?_)
     refine wpU_f 4 204 (h1 := by intro W hW; have e0 := (SR.below hW).c0; have e1 := (SR.below hW).c1; go_simp; try rfl) (h3 := ?_)
     refine wpU_ca 5 205 Tryz.func8 (fun W hW => R2 W) ?_
     refine wpU_ac ?_
     refine wpU_cn (i := 6) (k := 10) (d := some 29) (fun n => .pointer (some ⟨n, 0, none⟩)) #[.slice none 0 0] 57 (by kernel_rfl) rfl rfl rfl (by rfl) (fun W => ?_) (fun W1 hW1 => ?_) (fun gs hg => ?_)
     ·go_simp
      try rfl
     ·have hB7 := bZs hb1 hW1
      refine wpOp_in rfl (by rfl) ?_
      go_simp
      go_at_call 22
      refine (SW _ (hp.below hB7)).mono ?_
      rintro e w8 ⟨g, XB, XBc, YB, YBc, rfl, KN, HR, hb8⟩
      have hB8 := bZs hB7 hb8
      refine wpAny_of_C (C := fun _ => True) (ex := fun i => i == 12) _ _ _ _ ?_
      apply wpAnyC_ta 7 trivial
      ·intro W hW
       go_simp
       try rfl
      ·go_simp
       try rfl
      apply wpAnyC_ta 8 trivial
      ·intro W hW
       go_simp
       try rfl
      ·go_simp
       try rfl
      apply wpAnyC_ta 9 trivial
      ·intro W hW
       go_simp
       try rfl
      ·go_simp
       try rfl
      refine wZs (i := 10) (by kernel_rfl) rfl (fun K hK => ?_)
      go_simp
      refine hK _ _ (fun _ => trivial) ?_
      clear hK K
      refine wZs (i := 11) (by kernel_rfl) rfl (fun K hK => ?_)
      go_simp
      refine hK _ _ (fun _ => trivial) ?_
      clear hK K
      refine wZs (i := 12) (by kernel_rfl) rfl (fun K hK => ?_)
      go_simp
      refine hK _ _ (fun _ => trivial) ?_
      clear hK K
      refine wpAnyC_done (by kernel_rfl) ?_ _
      have hbx := bZa hb8 (.cells #[.slice (some ⟨g, 0, none⟩) 1 1] 57)
      have hby := bZs hW1 hbx
      have hba := bZa (Below.refl w8.heap.size w8) (.cells #[.slice (some ⟨g, 0, none⟩) 1 1] 57)
      go_wp2
      go_meet
      exact ⟨_, g, XB, XBc, YB, YBc, rfl, rfl, Blk.new w8 #[.slice (some ⟨g, 0, none⟩) 1 1] 57, KN.below hba, (HR.lower (bZz hB7)).below hba, SR.below hby, SX.below hby, SY.below hby, OwnK.below HLd hby, bZs hb1 hby⟩
     ·refine wpU_ac ?_
      refine wpU_late (by kernel_rfl) (fun W1 hW1 => ?_)
      have hgw : wr.drew.heap.size ≤ gs := by
       obtain ⟨Wa, h, e⟩ := hg
       rw [e]
       exact bZz h
      clear hg
      have hB7 := bZs hb1 hW1.1
      have KG7 := hW1.2
      refine wpAny_step1 (i := 6) (by kernel_rfl) rfl (by rfl) (fun K hK => ?_)
      go_simp
      go_at_call 22
      refine (SW _ (hp.below hB7)).mono ?_
      rintro e w8 ⟨g, XB, XBc, YB, YBc, rfl, KN, HR, hb8⟩
      have hB8 := bZs hB7 hb8
      refine hK _ _ ?_
      clear hK K
      have KG8 := KG7.below hb8
      obtain ⟨r0, r1⟩ := KG8.one
      refine wpAny_of_C (C := fun _ => True) (ex := fun i => i == 12) _ _ _ _ ?_
      apply wpAnyC_ta 7 trivial
      ·intro W hW
       go_simp
       try rfl
      ·go_simp
       try rfl
      apply wpAnyC_ta 8 trivial
      ·intro W hW
       go_simp
       try rfl
      ·go_simp
       try rfl
      apply wpAnyC_ta 9 trivial
      ·intro W hW
       go_simp
       try rfl
      ·go_simp
       try rfl
      refine wZs (i := 11) (by kernel_rfl) rfl (fun K hK => ?_)
      go_simp
      refine hK _ _ (fun _ => trivial) ?_
      clear hK K
      refine wZs (i := 12) (by kernel_rfl) rfl (fun K hK => ?_)
      go_simp
      refine hK _ _ (fun _ => trivial) ?_
      clear hK K
      refine wpAnyC_done (by kernel_rfl) ?_ _
      have hby := bZs hW1.1 hb8
      have nR := (SR.below hby).ne KG8 (by decide)
      have nX := (SX.below hby).ne KG8 (by decide)
      have nY := (SY.below hby).ne KG8 (by decide)
      have nN := KN.ne KG8 (by decide)
      have hgl : w.heap.size ≤ gs := Nat.le_trans (bZz hb1) hgw
      go_wp2
      go_meet
      exact ⟨_, g, XB, XBc, YB, YBc, rfl, rfl, KG8.set 0 _, KN.far nN _, (HR.lower (bZz hB7)).set KG8 (by decide) (by decide) 0 _, (SR.below hby).far nR _, (SX.below hby).far nX _, (SY.below hby).far nY _, OwnK.set (OwnK.below HLd hby) KG8 (by decide) 0 _, bZe (bZs hb1 hby) hgl⟩
    case rest =>
     obtain ⟨gs, g, XB, XBc, YB, YBc, rfl, rfl, KS, KN, HR, KR, KX, KY, HL, HB⟩ := hcut
     clear d0 d1 d2 d3 d4 d5 d6 d7 d8 d9 SW
     have hb2 := bZd HB
     have SS := KS.drew
     have SN := KN.drew
     have SR2 := KR.drew
     have SX2 := KX.drew
     have SY2 := KY.drew
     have HRd := HR.below (bZd (Below.refl wc.heap.size wc))
     have HLd := OwnK.below HL (bZd (Below.refl wc.heap.size wc))
     clear KS KN HR KR KX KY HL
     go_upto_region 27 with fail
     refine rZu (fun _ => false) (fun W => Below wc.drew.heap.size wc.drew W) (by kernel_rfl) (cZb _) (Below.refl _ _) ?_
     refine wpU_f 0 210 (h1 := by intro W hW; have e0 := (SS.below hW).c0; go_simp; try rfl) (h3 := ?_)
     refine wpU_f 1 211 (h1 := by intro W hW; have e0 := (SX2.below hW).c0; have e1 := (SX2.below hW).c1; go_simp; try rfl) (h3 := ?_)
     refine wpU_f 2 212 (h1 := by intro W hW; have e0 := (SY2.below hW).c0; have e1 := (SY2.below hW).c1; go_simp; try rfl) (h3 := ?_)
     refine wpU_ca 3 213 Tryz.func8 (fun W hW => R1 W) ?_
     refine wpU_ac ?_
     refine wpU_ca 4 214 Tryz.func23 (fun W hW => CO XB YB XBc YBc _ g W (hp.below (bZs hb2 hW)) (SN.below hW) (HRd.below hW)) ?_
     refine wpU_ac ?_
     apply wpU_e 5 209
     apply wpU_e 6 215
     apply wpU_e 7 216
     apply wpU_e 8 31
     apply wpU_e 9 32
     refine wpU_done (by kernel_rfl) (fun W1 hW1 => ?_) _
     go_simp
     have hB9 := bZs hb2 hW1
     have KR9 := SR2.below hW1
     have KX9 := SX2.below hW1
     have KY9 := SY2.below hW1
     have HL9 := OwnK.below HLd hW1
     clear SS SN SR2 SX2 SY2 HRd HLd CO hb2 hW1
     have hFF2 := hFF.out
     clear hFF
     cases hs : SWF i with
     | true =>
      rw [hs, Bool.true_or] at hFF2
      go_wp2
      go_roundg m
      case measure => exact Nat.le_refl _
      case rel => exact ⟨i + 1, (by first | rfl | exact congrArg _ hwi), (by rw [hFF2]), him, KR9, KX9, KY9, HL9, hB9⟩
     | false =>
      rw [hs, Bool.false_or] at hFF2
      go_wp2
      go_roundg m
      case measure => exact Nat.le_refl _
      case rel => exact ⟨i + 1, (by first | rfl | exact congrArg _ hwi), (by rw [hFF2]), him, KR9, KX9, KY9, HL9, hB9⟩
theorem lr_main (x y wd dp rr v0 v1 v2 : Int) (pa : Addr) (w : World) (hp : Pow w) (hP : Plan w pa) (hx : i64 x) (hy : i64 y) (hw : i64 wd) (hd : i64 dp) (hr : i64 rr) (h0 : i64 v0) (h1 : i64 v1) (h2 : i64 v2) :
    Calls Tryz.prog 5 #[.agg #[.int .i64 x, .int .i64 y, .int .i64 wd, .int .i64 dp, .int .i64 rr], .agg #[.int .i64 v0, .int .i64 v1, .int .i64 v2]] w fun e w' => e = .returned (.bool true) ∧ Below w.heap.size w w' := by
  cases hf : fitsP (mkRat (cX x) 4) (mkRat (cX y) 4) (mkRat (cW x wd) 4) (mkRat (cW y dp) 4) (mkRat (cR rr) 4) with
  | false => exact lr_bad x y wd dp rr v0 v1 v2 pa w hp hP hx hy hw hd hr hf
  | true =>
    by_cases hfit : (passL (Pkt.of (mkRat (cX x) 4) (mkRat (cX y) 4) (mkRat (cW x wd) 4) (mkRat (cW y dp) 4) (mkRat (cR rr) 4)) 13).length ≤ 12
    · exact lr_fit x y wd dp rr v0 v1 v2 pa w hp hP hx hy hw hd hr h0 h1 h2 hf hfit
    · exact lr_full x y wd dp rr v0 v1 v2 pa w hp hP hx hy hw hd hr h0 h1 h2 hf hfit
end Go.Proofs.YtociicfjhgfgpaaGreatDoor

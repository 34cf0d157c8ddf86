/- PlannerCorners: the walk. -/
import Derived.Test.YtociicfjhgfgpaaGreatDoorM48
import Derived.Test.YtociicfjhgfgpaaGreatDoorM40
set_option linter.unusedVariables false
set_option linter.unusedSimpArgs false
namespace Go.Proofs.YtociicfjhgfgpaaGreatDoor
open Go.RowKit Go.Shelf Go.Lib Go.Proofs.YtociicfjhgfgpaaGreatDoorW.PrintWords
theorem cmp_le (p q : Rat) : decide (cmpR p q ≤ 0) = decide (p ≤ q) := by
 unfold cmpR
 rw [Bool.eq_iff_iff]
 simp only [decide_eq_true_eq]
 split
 ·rename_i h
  exact ⟨fun _ => Rat.le_of_lt h, fun _ => by omega⟩
 ·split
  ·rename_i h1 h2
   subst h2
   exact ⟨fun _ => Rat.le_refl, fun _ => by omega⟩
  ·rename_i h1 h2
   exact ⟨fun h => by omega, fun h => absurd (Rat.le_antisymm h (Rat.not_lt.1 h1)) h2⟩
theorem fits_okP {x0 y0 x1 y1 r : Rat} (hI : Inp x0 y0 x1 y1 r) (hf : fitsP x0 y0 x1 y1 r = true) : okP (Pkt.of x0 y0 x1 y1 r) := by
 unfold fitsP at hf
 simp only [Bool.and_eq_true, Bool.not_eq_true', decide_eq_false_iff_not] at hf
 exact ⟨hI.hr, hI.hx, hI.hy, Rat.not_lt.1 hf.1, Rat.not_lt.1 hf.2, rfl, rfl, rfl, rfl⟩
theorem mk_lt {n m : Int} (h : n < m) : mkRat n 4 < mkRat m 4 := by
 rw [Rat.mkRat_eq_div, Rat.mkRat_eq_div, Rat.div_def, Rat.div_def]
 refine (Rat.mul_lt_mul_right (by decide +kernel)).2 ?_
 exact Rat.intCast_lt_intCast.2 h
theorem mk_pos {n : Int} (h : 0 < n) : 0 < mkRat n 4 := by
 have := mk_lt h
 rwa [show mkRat 0 4 = 0 from by decide +kernel] at this
theorem inp_of {x y wd dp rr : Int} : Inp (mkRat (cX x) 4) (mkRat (cX y) 4) (mkRat (cW x wd) 4) (mkRat (cW y dp) 4) (mkRat (cR rr) 4) ∧ smP 10 (Pkt.of (mkRat (cX x) 4) (mkRat (cX y) 4) (mkRat (cW x wd) 4) (mkRat (cW y dp) 4) (mkRat (cR rr) 4)) := by
 have bx := pickI_bound (c := x) (n := 41) (by decide)
 have by' := pickI_bound (c := y) (n := 41) (by decide)
 have bw := pickI_bound (c := wd) (n := 32) (by decide)
 have bd := pickI_bound (c := dp) (n := 32) (by decide)
 have br := pickI_bound (c := rr) (n := 10) (by decide)
 unfold cX cW cR
 have h0 : Sm 2 (mkRat (pickI x 41 - 20) 4) := sm_q (by omega)
 have h1 : Sm 2 (mkRat (pickI y 41 - 20) 4) := sm_q (by omega)
 have h2 : Sm 2 (mkRat (pickI x 41 - 20 + 1 + pickI wd 32) 4) := sm_q (by omega)
 have h3 : Sm 2 (mkRat (pickI y 41 - 20 + 1 + pickI dp 32) 4) := sm_q (by omega)
 have h4 : Sm 2 (mkRat (1 + pickI rr 10) 4) := sm_q (by omega)
 exact ⟨⟨h0.le (by decide), h1.le (by decide), h2.le (by decide), h3.le (by decide), h4.le (by decide), mk_pos (by omega), mk_lt (by omega), mk_lt (by omega)⟩, smP_of h0 h1 h2 h3 h4⟩
theorem corners_law {x0 y0 x1 y1 r x y : Rat} (hI : Inp x0 y0 x1 y1 r) (hf : fitsP x0 y0 x1 y1 r = true) (h0 : x0 ≤ x) (h1 : x ≤ x1) (h2 : y0 ≤ y) (h3 : y ≤ y1) (hn : inR (sideR x y) (reachR (Pkt.of x0 y0 x1 y1 r)) = false) : (x < x0 + r ∨ x1 - r < x) ∧ (y < y0 + r ∨ y1 - r < y) :=
 corner (fits_okP hI hf) h0 h1 h2 h3 hn
set_option maxHeartbeats 64000000 in
set_option maxRecDepth 100000 in
theorem lw_main_bad (x y wd dp rr v0 v1 v2 : Int) (pa : Addr) (w : World) (hp : Pow w) (hP : Plan w pa) (hx : i64 x) (hy : i64 y) (hw : i64 wd) (hd : i64 dp) (hr : i64 rr) (h0 : i64 v0) (h1 : i64 v1) (h2 : i64 v2) (hf : fitsP (mkRat (cX x) 4) (mkRat (cX y) 4) (mkRat (cW x wd) 4) (mkRat (cW y dp) 4) (mkRat (cR rr) 4) = false) :
  Calls Tryz.prog 4 #[.agg #[.int .i64 x, .int .i64 y, .int .i64 wd, .int .i64 dp, .int .i64 rr], .agg #[.int .i64 v0, .int .i64 v1, .int .i64 v2]] w fun e w' => e = .returned (.bool true) ∧ Below w.heap.size w w' := by
 have SN := fun W hp hP => lw_sane pa W hp hP
 have hh0 : 0 < w.heap.size := World.block_lt_of_cell? _ _ hP
 have CN := fun W => lw_corners x y wd dp rr W hx hy hw hd hr
 obtain ⟨hI, hM⟩ := inp_of (x := x) (y := y) (wd := wd) (dp := dp) (rr := rr)
 have RE := fun W hp hP => pl_Reachable_bad (mkRat (cX x) 4) (mkRat (cX y) 4) (mkRat (cW x wd) 4) (mkRat (cW y dp) 4) (mkRat (cR rr) 4) pa W hp hP hI hf
 clear hI hM hf
 generalize mkRat (cX x) 4 = u0 at *
 generalize mkRat (cX y) 4 = u1 at *
 generalize mkRat (cW x wd) 4 = u2 at *
 generalize mkRat (cW y dp) 4 = u3 at *
 generalize mkRat (cR rr) 4 = u4 at *
 unfold rv rcv at *
 generalize itx u0.num = a1 at *
 generalize itx (u0.den : Int) = a2 at *
 generalize itx u1.num = b1 at *
 generalize itx (u1.den : Int) = b2 at *
 generalize itx u2.num = c1 at *
 generalize itx (u2.den : Int) = c2 at *
 generalize itx u3.num = d1 at *
 generalize itx (u3.den : Int) = d2 at *
 generalize itx u4.num = e1 at *
 generalize itx (u4.den : Int) = e2 at *
 clear hx hy hw hd hr h0 h1 h2
 have hB0 : Below w.heap.size w ((w.alloc (.cells #[.int .i64 x, .int .i64 y, .int .i64 wd, .int .i64 dp, .int .i64 rr] 23)).alloc (.cells #[.int .i64 v0, .int .i64 v1, .int .i64 v2] 47)) := below_alloc (below_alloc (Below.refl _ _) _) _
 have k0 := ((Blk.new w #[.int .i64 x, .int .i64 y, .int .i64 wd, .int .i64 dp, .int .i64 rr] 23).alloc (.cells #[.int .i64 v0, .int .i64 v1, .int .i64 v2] 47))
 have k1 : Blk ((w.alloc (.cells #[.int .i64 x, .int .i64 y, .int .i64 wd, .int .i64 dp, .int .i64 rr] 23)).alloc (.cells #[.int .i64 v0, .int .i64 v1, .int .i64 v2] 47)) (w.heap.size + 1) #[.int .i64 v0, .int .i64 v1, .int .i64 v2] 47 := by
  have := (Blk.new (w.alloc (.cells #[.int .i64 x, .int .i64 y, .int .i64 wd, .int .i64 dp, .int .i64 rr] 23)) #[.int .i64 v0, .int .i64 v1, .int .i64 v2] 47)
  rwa [World.size_alloc] at this
 have K0 := k0
 have K1 := k1
 have HB := hB0
 clear k0 k1 hB0
 have K0c0 := K0.c0
 have K0c1 := K0.c1
 have K0c2 := K0.c2
 have K0c3 := K0.c3
 have K0c4 := K0.c4
 have K1c0 := K1.c0
 have K1c1 := K1.c1
 have K1c2 := K1.c2
 go_enter Tryz.func4, Tryz.ntmps4
 go_wp2_with (first | (go_at_call 6; refine (SN _ (hp.below HB) (hP.below HB hh0)).mono ?_; clear SN; rintro e w1 ⟨rfl, hb⟩; replace K0 := K0.below hb; replace K1 := K1.below hb; replace HB := below_step HB hb; replace K0c0 := K0.c0; replace K0c1 := K0.c1; replace K0c2 := K0.c2; replace K0c3 := K0.c3; replace K0c4 := K0.c4; replace K1c0 := K1.c0; replace K1c1 := K1.c1; replace K1c2 := K1.c2; clear hb) | (go_at_call 7; refine (CN _).mono ?_; clear CN; rintro e w2 ⟨rfl, hb⟩; replace hb := below_alloc hb (.cells #[.string a1, .string a2, .string b1, .string b2, .string c1, .string c2, .string d1, .string d2] 28); replace hb := below_alloc hb (.cells #[.string e1, .string e2] 25); replace K0 := K0.below hb; replace K1 := K1.below hb; replace HB := below_step HB hb; have KC := (Blk.new w2 #[.string a1, .string a2, .string b1, .string b2, .string c1, .string c2, .string d1, .string d2] 28).alloc (.cells #[.string e1, .string e2] 25); have KCc0 := True; have KCc1 := True; have KCc2 := True; have KCc3 := True; have KCc4 := True; have KCc5 := True; have KCc6 := True; have KCc7 := True; have KR := Blk.new2 w2 #[.string a1, .string a2, .string b1, .string b2, .string c1, .string c2, .string d1, .string d2] #[.string e1, .string e2] 28 25; have KRc0 := True; have KRc1 := True; replace K0c0 := K0.c0; replace K0c1 := K0.c1; replace K0c2 := K0.c2; replace K0c3 := K0.c3; replace K0c4 := K0.c4; replace K1c0 := K1.c0; replace K1c1 := K1.c1; replace K1c2 := K1.c2; replace KCc0 := KC.c0; replace KCc1 := KC.c1; replace KCc2 := KC.c2; replace KCc3 := KC.c3; replace KCc4 := KC.c4; replace KCc5 := KC.c5; replace KCc6 := KC.c6; replace KCc7 := KC.c7; replace KRc0 := KR.c0; replace KRc1 := KR.c1; clear hb) | (go_at_call 14; refine (RE _ (hp.below HB) (hP.below HB hh0)).mono ?_; clear RE; rintro e w3 ⟨rfl, hb⟩; replace HB := below_step HB hb))
 go_ret
 exact ⟨rfl, below_alloc HB _⟩
set_option maxHeartbeats 64000000 in
set_option maxRecDepth 100000 in
theorem lw_main_ok (x y wd dp rr v0 v1 v2 : Int) (pa : Addr) (w : World) (hp : Pow w) (hP : Plan w pa) (hx : i64 x) (hy : i64 y) (hw : i64 wd) (hd : i64 dp) (hr : i64 rr) (h0 : i64 v0) (h1 : i64 v1) (h2 : i64 v2) (hf : fitsP (mkRat (cX x) 4) (mkRat (cX y) 4) (mkRat (cW x wd) 4) (mkRat (cW y dp) 4) (mkRat (cR rr) 4) = true) :
  Calls Tryz.prog 4 #[.agg #[.int .i64 x, .int .i64 y, .int .i64 wd, .int .i64 dp, .int .i64 rr], .agg #[.int .i64 v0, .int .i64 v1, .int .i64 v2]] w fun e w' => e = .returned (.bool true) ∧ Below w.heap.size w w' := by
 have SN := fun W hp hP => lw_sane pa W hp hP
 have hh0 : 0 < w.heap.size := World.block_lt_of_cell? _ _ hP
 have CN := fun W => lw_corners x y wd dp rr W hx hy hw hd hr
 obtain ⟨hI, hM⟩ := inp_of (x := x) (y := y) (wd := wd) (dp := dp) (rr := rr)
 have RE := fun W hp hP => pl_Reachable_ok (mkRat (cX x) 4) (mkRat (cX y) 4) (mkRat (cW x wd) 4) (mkRat (cW y dp) 4) (mkRat (cR rr) 4) pa W hp hP hI hf
 have bd := pickI_bound (c := v2) (n := 3) (by decide)
 have bx := pickI_bound (c := v0) (n := 161) (by decide)
 have by' := pickI_bound (c := v1) (n := 161) (by decide)
 have P2 := fun W => lw_pick v2 3 W h2 (by decide) (by decide)
 have P0 := fun W => lw_pick v0 161 W h0 (by decide) (by decide)
 have P1 := fun W => lw_pick v1 161 W h1 (by decide) (by decide)
 have RX := fun W => lw_ratio (pickI v0 161 - 60) (4 + pickI v2 3) W (by omega) (by omega) (by omega) (by omega)
 have RY := fun W => lw_ratio (pickI v1 161 - 60) (4 + pickI v2 3) W (by omega) (by omega) (by omega) (by omega)
 have sX : Sm 3 (mkRat (pickI v0 161 - 60) (4 + pickI v2 3).toNat) := sm_mk (by omega) (by omega) (by decide)
 have sY : Sm 3 (mkRat (pickI v1 161 - 60) (4 + pickI v2 3).toNat) := sm_mk (by omega) (by omega) (by decide)
 have CT := fun v W hp hv => rg_Contains 10 v (reachR (Pkt.of (mkRat (cX x) 4) (mkRat (cX y) 4) (mkRat (cW x wd) 4) (mkRat (cW y dp) 4) (mkRat (cR rr) 4))) (mkRat (pickI v0 161 - 60) (4 + pickI v2 3).toNat) (mkRat (pickI v1 161 - 60) (4 + pickI v2 3).toNat) W hp (by decide) (by decide) hv (reach_sz hI.hr).1 (reach_sm hM) (sX.le (by decide)) (sY.le (by decide))
 have LAW := fun q0 q1 q2 q3 hn => corners_law (x := (mkRat (pickI v0 161 - 60) (4 + pickI v2 3).toNat)) (y := (mkRat (pickI v1 161 - 60) (4 + pickI v2 3).toNat)) hI hf q0 q1 q2 q3 hn
 have j1 : wrap64 (4 + pickI v2 3) = 4 + pickI v2 3 := wrap_small (by omega)
 have j2 : wrap64 (pickI v0 161 - 60) = pickI v0 161 - 60 := wrap_small (by omega)
 have j3 : wrap64 (pickI v1 161 - 60) = pickI v1 161 - 60 := wrap_small (by omega)
 have qX : Sq (mkRat (pickI v0 161 - 60) (4 + pickI v2 3).toNat) := sX.le (by decide)
 have qY : Sq (mkRat (pickI v1 161 - 60) (4 + pickI v2 3).toNat) := sY.le (by decide)
 have q0 := hI.h0
 have q1 := hI.h1
 have q2 := hI.h2
 have q3 := hI.h3
 have q4 := hI.h4
 clear hI hM hf bd bx by' sX sY hx hy hw hd hr h0 h1 h2
 generalize reachR (Pkt.of (mkRat (cX x) 4) (mkRat (cX y) 4) (mkRat (cW x wd) 4) (mkRat (cW y dp) 4) (mkRat (cR rr) 4)) = RG at *
 generalize (mkRat (pickI v0 161 - 60) (4 + pickI v2 3).toNat) = X at *
 generalize (mkRat (pickI v1 161 - 60) (4 + pickI v2 3).toNat) = Y at *
 generalize pickI v0 161 = i0 at *
 generalize pickI v1 161 = i1 at *
 generalize pickI v2 3 = i2 at *
 generalize mkRat (cX x) 4 = u0 at *
 generalize mkRat (cX y) 4 = u1 at *
 generalize mkRat (cW x wd) 4 = u2 at *
 generalize mkRat (cW y dp) 4 = u3 at *
 generalize mkRat (cR rr) 4 = u4 at *
 have M1 := fun W hp => rat_Compare u0 X W hp (q0.le (by decide)) qX
 have M2 := fun W hp => rat_Compare X u2 W hp qX (q2.le (by decide))
 have M3 := fun W hp => rat_Compare u1 Y W hp (q1.le (by decide)) qY
 have M4 := fun W hp => rat_Compare Y u3 W hp qY (q3.le (by decide))
 have A1 := fun W hp => rat_Add u0 u4 W hp (q0.le (by decide)) (q4.le (by decide))
 have A2 := fun W hp => rat_Sub u2 u4 W hp (q2.le (by decide)) (q4.le (by decide))
 have A3 := fun W hp => rat_Add u1 u4 W hp (q1.le (by decide)) (q4.le (by decide))
 have A4 := fun W hp => rat_Sub u3 u4 W hp (q3.le (by decide)) (q4.le (by decide))
 have N1 := fun W hp => rat_Compare X (u0 + u4) W hp qX ((sm_add q0 q4).le (by decide))
 have N2 := fun W hp => rat_Compare (u2 - u4) X W hp ((sm_sub q2 q4).le (by decide)) qX
 have N3 := fun W hp => rat_Compare Y (u1 + u4) W hp qY ((sm_add q1 q4).le (by decide))
 have N4 := fun W hp => rat_Compare (u3 - u4) Y W hp ((sm_sub q3 q4).le (by decide)) qY
 have z1 := cmp_le u0 X
 have z2 := cmp_le X u2
 have z3 := cmp_le u1 Y
 have z4 := cmp_le Y u3
 have y1 := cmp_lt X (u0 + u4)
 have y2 := cmp_lt (u2 - u4) X
 have y3 := cmp_lt Y (u1 + u4)
 have y4 := cmp_lt (u3 - u4) Y
 have LW : decide (u0 ≤ X) = true → decide (X ≤ u2) = true → decide (u1 ≤ Y) = true → decide (Y ≤ u3) = true → inR (sideR X Y) RG = false → (decide (X < u0 + u4) = true ∨ decide (u2 - u4 < X) = true) ∧ (decide (Y < u1 + u4) = true ∨ decide (u3 - u4 < Y) = true) := by
  intro g1 g2 g3 g4 g5
  have := LAW (of_decide_eq_true g1) (of_decide_eq_true g2) (of_decide_eq_true g3) (of_decide_eq_true g4) g5
  simpa using this
 have LWA := Aside0.mk LW
 clear LAW LW q0 q1 q2 q3 q4 qX qY
 generalize decide (u0 ≤ X) = ob1 at *
 generalize decide (X ≤ u2) = ob2 at *
 generalize decide (u1 ≤ Y) = ob3 at *
 generalize decide (Y ≤ u3) = ob4 at *
 generalize decide (X < u0 + u4) = os1 at *
 generalize decide (u2 - u4 < X) = os2 at *
 generalize decide (Y < u1 + u4) = os3 at *
 generalize decide (u3 - u4 < Y) = os4 at *
 generalize inR (sideR X Y) RG = IS at *
 generalize cmpR u0 X = k1 at *
 generalize cmpR X u2 = k2 at *
 generalize cmpR u1 Y = k3 at *
 generalize cmpR Y u3 = k4 at *
 generalize cmpR X (u0 + u4) = k5 at *
 generalize cmpR (u2 - u4) X = k6 at *
 generalize cmpR Y (u1 + u4) = k7 at *
 generalize cmpR (u3 - u4) Y = k8 at *
 generalize u0 + u4 = lf at *
 generalize u2 - u4 = rt at *
 generalize u1 + u4 = bt at *
 generalize u3 - u4 = up at *
 unfold rv rcv at *
 generalize itx u0.num = a1 at *
 generalize itx (u0.den : Int) = a2 at *
 generalize itx u1.num = b1 at *
 generalize itx (u1.den : Int) = b2 at *
 generalize itx u2.num = c1 at *
 generalize itx (u2.den : Int) = c2 at *
 generalize itx u3.num = d1 at *
 generalize itx (u3.den : Int) = d2 at *
 generalize itx u4.num = e1 at *
 generalize itx (u4.den : Int) = e2 at *
 generalize itx X.num = p1 at *
 generalize itx (X.den : Int) = p2 at *
 generalize itx Y.num = s1 at *
 generalize itx (Y.den : Int) = s2 at *
 generalize itx lf.num = l1 at *
 generalize itx (lf.den : Int) = l2 at *
 generalize itx rt.num = m1 at *
 generalize itx (rt.den : Int) = m2 at *
 generalize itx bt.num = n1 at *
 generalize itx (bt.den : Int) = n2 at *
 generalize itx up.num = t1 at *
 generalize itx (up.den : Int) = t2 at *
 have ZZ := Aside0.mk (⟨z1, z2, z3, z4, y1, y2, y3, y4⟩ : _ ∧ _ ∧ _ ∧ _ ∧ _ ∧ _ ∧ _ ∧ _)
 clear z1 z2 z3 z4 y1 y2 y3 y4
 have hB0 : Below w.heap.size w ((w.alloc (.cells #[.int .i64 x, .int .i64 y, .int .i64 wd, .int .i64 dp, .int .i64 rr] 23)).alloc (.cells #[.int .i64 v0, .int .i64 v1, .int .i64 v2] 47)) := below_alloc (below_alloc (Below.refl _ _) _) _
 have k0 := ((Blk.new w #[.int .i64 x, .int .i64 y, .int .i64 wd, .int .i64 dp, .int .i64 rr] 23).alloc (.cells #[.int .i64 v0, .int .i64 v1, .int .i64 v2] 47))
 have k1 : Blk ((w.alloc (.cells #[.int .i64 x, .int .i64 y, .int .i64 wd, .int .i64 dp, .int .i64 rr] 23)).alloc (.cells #[.int .i64 v0, .int .i64 v1, .int .i64 v2] 47)) (w.heap.size + 1) #[.int .i64 v0, .int .i64 v1, .int .i64 v2] 47 := by
  have := (Blk.new (w.alloc (.cells #[.int .i64 x, .int .i64 y, .int .i64 wd, .int .i64 dp, .int .i64 rr] 23)) #[.int .i64 v0, .int .i64 v1, .int .i64 v2] 47)
  rwa [World.size_alloc] at this
 have K0 := k0
 have K1 := k1
 have HB := hB0
 clear k0 k1 hB0
 have K0c0 := K0.c0
 have K0c1 := K0.c1
 have K0c2 := K0.c2
 have K0c3 := K0.c3
 have K0c4 := K0.c4
 have K1c0 := K1.c0
 have K1c1 := K1.c1
 have K1c2 := K1.c2
 have TK1 : True := trivial
 have TK2 : True := trivial
 have TK3 : True := trivial
 have TK4 : True := trivial
 have TK5 : True := trivial
 have TK6 : True := trivial
 have TK7 : True := trivial
 have TK8 : True := trivial
 have TK9 : True := trivial
 have TK10 : True := trivial
 have TK11 : True := trivial
 go_enter Tryz.func4, Tryz.ntmps4
 go_wp2_with (first | (go_at_call 6; refine (SN _ (hp.below HB) (hP.below HB hh0)).mono ?_; clear SN; rintro e w1 ⟨rfl, hb⟩; replace K0 := K0.below hb; replace K1 := K1.below hb; replace HB := below_step HB hb; replace K0c0 := K0.c0; replace K0c1 := K0.c1; replace K0c2 := K0.c2; replace K0c3 := K0.c3; replace K0c4 := K0.c4; replace K1c0 := K1.c0; replace K1c1 := K1.c1; replace K1c2 := K1.c2; clear hb) | (go_at_call 7; refine (CN _).mono ?_; clear CN; rintro e w2 ⟨rfl, hb⟩; replace hb := below_alloc hb (.cells #[.string a1, .string a2, .string b1, .string b2, .string c1, .string c2, .string d1, .string d2] 28); replace hb := below_alloc hb (.cells #[.string e1, .string e2] 25); replace K0 := K0.below hb; replace K1 := K1.below hb; replace HB := below_step HB hb; have KC := (Blk.new w2 #[.string a1, .string a2, .string b1, .string b2, .string c1, .string c2, .string d1, .string d2] 28).alloc (.cells #[.string e1, .string e2] 25); have KCc0 := True; have KCc1 := True; have KCc2 := True; have KCc3 := True; have KCc4 := True; have KCc5 := True; have KCc6 := True; have KCc7 := True; have KR := Blk.new2 w2 #[.string a1, .string a2, .string b1, .string b2, .string c1, .string c2, .string d1, .string d2] #[.string e1, .string e2] 28 25; have KRc0 := True; have KRc1 := True; replace K0c0 := K0.c0; replace K0c1 := K0.c1; replace K0c2 := K0.c2; replace K0c3 := K0.c3; replace K0c4 := K0.c4; replace K1c0 := K1.c0; replace K1c1 := K1.c1; replace K1c2 := K1.c2; replace KCc0 := KC.c0; replace KCc1 := KC.c1; replace KCc2 := KC.c2; replace KCc3 := KC.c3; replace KCc4 := KC.c4; replace KCc5 := KC.c5; replace KCc6 := KC.c6; replace KCc7 := KC.c7; replace KRc0 := KR.c0; replace KRc1 := KR.c1; clear hb) | (go_at_call 14; refine (RE _ (hp.below HB) (hP.below HB hh0)).mono ?_; clear RE; rintro e w3 ⟨v, rfl, ⟨xx, yy, rfl, HX, HY⟩, hb⟩; obtain ⟨XA, xc, ex⟩ := Kd.R_slice HX; obtain ⟨YA, yc, ey⟩ := Kd.R_slice HY; subst ex ey; have HG : RdR (w3.alloc (.cells #[.slice XA RG.1.length xc, .slice YA RG.2.length yc] 42)) (.agg #[.slice XA RG.1.length xc, .slice YA RG.2.length yc]) RG := RdR.below (w := w3) ⟨_, _, rfl, HX.rd, HY.rd⟩ (below_alloc (Below.refl _ _) _); clear HX HY; replace hb := below_alloc hb (.cells #[.slice XA RG.1.length xc, .slice YA RG.2.length yc] 42); replace K0 := K0.below hb; replace K1 := K1.below hb; replace KC := KC.below hb; replace KR := KR.below hb; replace HB := below_step HB hb; have KG := Blk.new w3 #[.slice XA RG.1.length xc, .slice YA RG.2.length yc] 42; have KGc0 := True; have KGc1 := True; replace K0c0 := K0.c0; replace K0c1 := K0.c1; replace K0c2 := K0.c2; replace K0c3 := K0.c3; replace K0c4 := K0.c4; replace K1c0 := K1.c0; replace K1c1 := K1.c1; replace K1c2 := K1.c2; replace KCc0 := KC.c0; replace KCc1 := KC.c1; replace KCc2 := KC.c2; replace KCc3 := KC.c3; replace KCc4 := KC.c4; replace KCc5 := KC.c5; replace KCc6 := KC.c6; replace KCc7 := KC.c7; replace KRc0 := KR.c0; replace KRc1 := KR.c1; replace KGc0 := KG.c0; replace KGc1 := KG.c1; clear hb) | (go_at_call 9; clear TK1; refine (P2 _).mono ?_; rintro e w4 ⟨rfl, rfl⟩) | (go_at_call 9; clear TK2; refine (P0 _).mono ?_; rintro e w4 ⟨rfl, rfl⟩) | (go_at_call 8; clear TK3; refine (RX _).mono ?_; rintro e w5 ⟨rfl, hb⟩; replace HG := RdR.below HG (below_alloc hb (.cells #[.string p1, .string p2] 25)); replace hb := below_alloc hb (.cells #[.string p1, .string p2] 25); replace K0 := K0.below hb; replace K1 := K1.below hb; replace KC := KC.below hb; replace KR := KR.below hb; replace KG := KG.below hb; replace HB := below_step HB hb; have KX := Blk.new w5 #[.string p1, .string p2] 25; have KXc0 := True; have KXc1 := True; replace K0c0 := K0.c0; replace K0c1 := K0.c1; replace K0c2 := K0.c2; replace K0c3 := K0.c3; replace K0c4 := K0.c4; replace K1c0 := K1.c0; replace K1c1 := K1.c1; replace K1c2 := K1.c2; replace KCc0 := KC.c0; replace KCc1 := KC.c1; replace KCc2 := KC.c2; replace KCc3 := KC.c3; replace KCc4 := KC.c4; replace KCc5 := KC.c5; replace KCc6 := KC.c6; replace KCc7 := KC.c7; replace KRc0 := KR.c0; replace KRc1 := KR.c1; replace KGc0 := KG.c0; replace KGc1 := KG.c1; replace KXc0 := KX.c0; replace KXc1 := KX.c1; clear hb) | (go_at_call 9; clear TK4; refine (P1 _).mono ?_; rintro e w6 ⟨rfl, rfl⟩) | (go_at_call 8; clear TK5; refine (RY _).mono ?_; rintro e w7 ⟨rfl, hb⟩; replace HG := RdR.below HG (below_alloc hb (.cells #[.string s1, .string s2] 25)); replace hb := below_alloc hb (.cells #[.string s1, .string s2] 25); replace K0 := K0.below hb; replace K1 := K1.below hb; replace KC := KC.below hb; replace KR := KR.below hb; replace KG := KG.below hb; replace KX := KX.below hb; replace HB := below_step HB hb; have KY := Blk.new w7 #[.string s1, .string s2] 25; have KYc0 := True; have KYc1 := True; replace K0c0 := K0.c0; replace K0c1 := K0.c1; replace K0c2 := K0.c2; replace K0c3 := K0.c3; replace K0c4 := K0.c4; replace K1c0 := K1.c0; replace K1c1 := K1.c1; replace K1c2 := K1.c2; replace KCc0 := KC.c0; replace KCc1 := KC.c1; replace KCc2 := KC.c2; replace KCc3 := KC.c3; replace KCc4 := KC.c4; replace KCc5 := KC.c5; replace KCc6 := KC.c6; replace KCc7 := KC.c7; replace KRc0 := KR.c0; replace KRc1 := KR.c1; replace KGc0 := KG.c0; replace KGc1 := KG.c1; replace KXc0 := KX.c0; replace KXc1 := KX.c1; replace KYc0 := KY.c0; replace KYc1 := KY.c1; clear hb) | (go_at_call 17; refine (CT _ _ (hp.below HB) HG).mono ?_; clear CT; rintro e w8 ⟨rfl, hb⟩; clear HG; replace K0 := K0.below hb; replace K1 := K1.below hb; replace KC := KC.below hb; replace KR := KR.below hb; replace KG := KG.below hb; replace KX := KX.below hb; replace KY := KY.below hb; replace HB := below_step HB hb; replace K0c0 := K0.c0; replace K0c1 := K0.c1; replace K0c2 := K0.c2; replace K0c3 := K0.c3; replace K0c4 := K0.c4; replace K1c0 := K1.c0; replace K1c1 := K1.c1; replace K1c2 := K1.c2; replace KCc0 := KC.c0; replace KCc1 := KC.c1; replace KCc2 := KC.c2; replace KCc3 := KC.c3; replace KCc4 := KC.c4; replace KCc5 := KC.c5; replace KCc6 := KC.c6; replace KCc7 := KC.c7; replace KRc0 := KR.c0; replace KRc1 := KR.c1; replace KGc0 := KG.c0; replace KGc1 := KG.c1; replace KXc0 := KX.c0; replace KXc1 := KX.c1; replace KYc0 := KY.c0; replace KYc1 := KY.c1; clear hb))
 clear P0 P1 P2 RX RY KG KGc0 KGc1 K0 K1 K0c0 K0c1 K0c2 K0c3 K0c4 K1c0 K1c1 K1c2 TK10 TK11
 cases IS with
 | true =>
  refine (M1 _ (hp.below HB)).mono ?_
  rintro e c1w ⟨rfl, hb⟩
  replace KC := KC.below hb
  replace KR := KR.below hb
  replace KX := KX.below hb
  replace KY := KY.below hb
  replace HB := below_step HB hb
  replace KCc0 := KC.c0
  replace KCc1 := KC.c1
  replace KCc2 := KC.c2
  replace KCc3 := KC.c3
  replace KCc4 := KC.c4
  replace KCc5 := KC.c5
  replace KCc6 := KC.c6
  replace KCc7 := KC.c7
  replace KRc0 := KR.c0
  replace KRc1 := KR.c1
  replace KXc0 := KX.c0
  replace KXc1 := KX.c1
  replace KYc0 := KY.c0
  replace KYc1 := KY.c1
  clear hb
  have zz1 := ZZ.out.1
  cases ob1 with
  | false =>
   go_wp2
   go_ret
   exact ⟨rfl, HB⟩
  | true =>
   go_wp2_with (first | (go_at_call 6; skip))
   refine (M2 _ (hp.below HB)).mono ?_
   rintro e c2w ⟨rfl, hb⟩
   replace KC := KC.below hb
   replace KR := KR.below hb
   replace KX := KX.below hb
   replace KY := KY.below hb
   replace HB := below_step HB hb
   replace KCc0 := KC.c0
   replace KCc1 := KC.c1
   replace KCc2 := KC.c2
   replace KCc3 := KC.c3
   replace KCc4 := KC.c4
   replace KCc5 := KC.c5
   replace KCc6 := KC.c6
   replace KCc7 := KC.c7
   replace KRc0 := KR.c0
   replace KRc1 := KR.c1
   replace KXc0 := KX.c0
   replace KXc1 := KX.c1
   replace KYc0 := KY.c0
   replace KYc1 := KY.c1
   clear hb
   have zz2 := ZZ.out.2.1
   cases ob2 with
   | false =>
    go_wp2
    go_ret
    exact ⟨rfl, HB⟩
   | true =>
    go_wp2_with (first | (go_at_call 6; skip))
    refine (M3 _ (hp.below HB)).mono ?_
    rintro e c3w ⟨rfl, hb⟩
    replace KC := KC.below hb
    replace KR := KR.below hb
    replace KX := KX.below hb
    replace KY := KY.below hb
    replace HB := below_step HB hb
    replace KCc0 := KC.c0
    replace KCc1 := KC.c1
    replace KCc2 := KC.c2
    replace KCc3 := KC.c3
    replace KCc4 := KC.c4
    replace KCc5 := KC.c5
    replace KCc6 := KC.c6
    replace KCc7 := KC.c7
    replace KRc0 := KR.c0
    replace KRc1 := KR.c1
    replace KXc0 := KX.c0
    replace KXc1 := KX.c1
    replace KYc0 := KY.c0
    replace KYc1 := KY.c1
    clear hb
    have zz3 := ZZ.out.2.2.1
    cases ob3 with
    | false =>
     go_wp2
     go_ret
     exact ⟨rfl, HB⟩
    | true =>
     go_wp2_with (first | (go_at_call 6; skip))
     refine (M4 _ (hp.below HB)).mono ?_
     rintro e c4w ⟨rfl, hb⟩
     replace KC := KC.below hb
     replace KR := KR.below hb
     replace KX := KX.below hb
     replace KY := KY.below hb
     replace HB := below_step HB hb
     replace KCc0 := KC.c0
     replace KCc1 := KC.c1
     replace KCc2 := KC.c2
     replace KCc3 := KC.c3
     replace KCc4 := KC.c4
     replace KCc5 := KC.c5
     replace KCc6 := KC.c6
     replace KCc7 := KC.c7
     replace KRc0 := KR.c0
     replace KRc1 := KR.c1
     replace KXc0 := KX.c0
     replace KXc1 := KX.c1
     replace KYc0 := KY.c0
     replace KYc1 := KY.c1
     clear hb
     have zz4 := ZZ.out.2.2.2.1
     cases ob4 with
     | false =>
      go_wp2
      go_ret
      exact ⟨rfl, HB⟩
     | true =>
      go_wp2
      go_ret
      exact ⟨rfl, HB⟩
 | false =>
  refine (M1 _ (hp.below HB)).mono ?_
  rintro e c1w ⟨rfl, hb⟩
  replace KC := KC.below hb
  replace KR := KR.below hb
  replace KX := KX.below hb
  replace KY := KY.below hb
  replace HB := below_step HB hb
  replace KCc0 := KC.c0
  replace KCc1 := KC.c1
  replace KCc2 := KC.c2
  replace KCc3 := KC.c3
  replace KCc4 := KC.c4
  replace KCc5 := KC.c5
  replace KCc6 := KC.c6
  replace KCc7 := KC.c7
  replace KRc0 := KR.c0
  replace KRc1 := KR.c1
  replace KXc0 := KX.c0
  replace KXc1 := KX.c1
  replace KYc0 := KY.c0
  replace KYc1 := KY.c1
  clear hb
  have zz1 := ZZ.out.1
  cases ob1 with
  | false =>
   go_wp2
   go_ret
   exact ⟨rfl, HB⟩
  | true =>
   go_wp2_with (first | (go_at_call 6; skip))
   refine (M2 _ (hp.below HB)).mono ?_
   rintro e c2w ⟨rfl, hb⟩
   replace KC := KC.below hb
   replace KR := KR.below hb
   replace KX := KX.below hb
   replace KY := KY.below hb
   replace HB := below_step HB hb
   replace KCc0 := KC.c0
   replace KCc1 := KC.c1
   replace KCc2 := KC.c2
   replace KCc3 := KC.c3
   replace KCc4 := KC.c4
   replace KCc5 := KC.c5
   replace KCc6 := KC.c6
   replace KCc7 := KC.c7
   replace KRc0 := KR.c0
   replace KRc1 := KR.c1
   replace KXc0 := KX.c0
   replace KXc1 := KX.c1
   replace KYc0 := KY.c0
   replace KYc1 := KY.c1
   clear hb
   have zz2 := ZZ.out.2.1
   cases ob2 with
   | false =>
    go_wp2
    go_ret
    exact ⟨rfl, HB⟩
   | true =>
    go_wp2_with (first | (go_at_call 6; skip))
    refine (M3 _ (hp.below HB)).mono ?_
    rintro e c3w ⟨rfl, hb⟩
    replace KC := KC.below hb
    replace KR := KR.below hb
    replace KX := KX.below hb
    replace KY := KY.below hb
    replace HB := below_step HB hb
    replace KCc0 := KC.c0
    replace KCc1 := KC.c1
    replace KCc2 := KC.c2
    replace KCc3 := KC.c3
    replace KCc4 := KC.c4
    replace KCc5 := KC.c5
    replace KCc6 := KC.c6
    replace KCc7 := KC.c7
    replace KRc0 := KR.c0
    replace KRc1 := KR.c1
    replace KXc0 := KX.c0
    replace KXc1 := KX.c1
    replace KYc0 := KY.c0
    replace KYc1 := KY.c1
    clear hb
    have zz3 := ZZ.out.2.2.1
    cases ob3 with
    | false =>
     go_wp2
     go_ret
     exact ⟨rfl, HB⟩
    | true =>
     go_wp2_with (first | (go_at_call 6; skip))
     refine (M4 _ (hp.below HB)).mono ?_
     rintro e c4w ⟨rfl, hb⟩
     replace KC := KC.below hb
     replace KR := KR.below hb
     replace KX := KX.below hb
     replace KY := KY.below hb
     replace HB := below_step HB hb
     replace KCc0 := KC.c0
     replace KCc1 := KC.c1
     replace KCc2 := KC.c2
     replace KCc3 := KC.c3
     replace KCc4 := KC.c4
     replace KCc5 := KC.c5
     replace KCc6 := KC.c6
     replace KCc7 := KC.c7
     replace KRc0 := KR.c0
     replace KRc1 := KR.c1
     replace KXc0 := KX.c0
     replace KXc1 := KX.c1
     replace KYc0 := KY.c0
     replace KYc1 := KY.c1
     clear hb
     have zz4 := ZZ.out.2.2.2.1
     cases ob4 with
     | false =>
      go_wp2
      go_ret
      exact ⟨rfl, HB⟩
     | true =>
      obtain ⟨lx, ly⟩ := LWA.out (by trivial) (by trivial) (by trivial) (by trivial) (by trivial)
      have LX := Aside0.mk lx
      have LY := Aside0.mk ly
      clear lx ly LWA
      go_wp2_with (first | (go_at_call 19; clear TK6; refine (A1 _ (hp.below HB)).mono ?_; rintro e f1 ⟨rfl, hb⟩; replace hb := below_alloc hb (.cells #[.string l1, .string l2] 25); replace KC := KC.below hb; replace KR := KR.below hb; replace KX := KX.below hb; replace KY := KY.below hb; replace HB := below_step HB hb; have KL := Blk.new f1 #[.string l1, .string l2] 25; have KLc0 := True; have KLc1 := True; replace KCc0 := KC.c0; replace KCc1 := KC.c1; replace KCc2 := KC.c2; replace KCc3 := KC.c3; replace KCc4 := KC.c4; replace KCc5 := KC.c5; replace KCc6 := KC.c6; replace KCc7 := KC.c7; replace KRc0 := KR.c0; replace KRc1 := KR.c1; replace KXc0 := KX.c0; replace KXc1 := KX.c1; replace KYc0 := KY.c0; replace KYc1 := KY.c1; replace KLc0 := KL.c0; replace KLc1 := KL.c1; clear hb) | (go_at_call 20; clear TK7; refine (A2 _ (hp.below HB)).mono ?_; rintro e f2 ⟨rfl, hb⟩; replace hb := below_alloc hb (.cells #[.string m1, .string m2] 25); replace KC := KC.below hb; replace KR := KR.below hb; replace KX := KX.below hb; replace KY := KY.below hb; replace KL := KL.below hb; replace HB := below_step HB hb; have KM := Blk.new f2 #[.string m1, .string m2] 25; have KMc0 := True; have KMc1 := True; replace KCc0 := KC.c0; replace KCc1 := KC.c1; replace KCc2 := KC.c2; replace KCc3 := KC.c3; replace KCc4 := KC.c4; replace KCc5 := KC.c5; replace KCc6 := KC.c6; replace KCc7 := KC.c7; replace KRc0 := KR.c0; replace KRc1 := KR.c1; replace KXc0 := KX.c0; replace KXc1 := KX.c1; replace KYc0 := KY.c0; replace KYc1 := KY.c1; replace KLc0 := KL.c0; replace KLc1 := KL.c1; replace KMc0 := KM.c0; replace KMc1 := KM.c1; clear hb) | (go_at_call 19; clear TK8; refine (A3 _ (hp.below HB)).mono ?_; rintro e f3 ⟨rfl, hb⟩; replace hb := below_alloc hb (.cells #[.string n1, .string n2] 25); replace KC := KC.below hb; replace KR := KR.below hb; replace KX := KX.below hb; replace KY := KY.below hb; replace KL := KL.below hb; replace KM := KM.below hb; replace HB := below_step HB hb; have KN := Blk.new f3 #[.string n1, .string n2] 25; have KNc0 := True; have KNc1 := True; replace KCc0 := KC.c0; replace KCc1 := KC.c1; replace KCc2 := KC.c2; replace KCc3 := KC.c3; replace KCc4 := KC.c4; replace KCc5 := KC.c5; replace KCc6 := KC.c6; replace KCc7 := KC.c7; replace KRc0 := KR.c0; replace KRc1 := KR.c1; replace KXc0 := KX.c0; replace KXc1 := KX.c1; replace KYc0 := KY.c0; replace KYc1 := KY.c1; replace KLc0 := KL.c0; replace KLc1 := KL.c1; replace KMc0 := KM.c0; replace KMc1 := KM.c1; replace KNc0 := KN.c0; replace KNc1 := KN.c1; clear hb) | (go_at_call 20; clear TK9; refine (A4 _ (hp.below HB)).mono ?_; rintro e f4 ⟨rfl, hb⟩; replace hb := below_alloc hb (.cells #[.string t1, .string t2] 25); replace KC := KC.below hb; replace KR := KR.below hb; replace KX := KX.below hb; replace KY := KY.below hb; replace KL := KL.below hb; replace KM := KM.below hb; replace KN := KN.below hb; replace HB := below_step HB hb; have KU := Blk.new f4 #[.string t1, .string t2] 25; have KUc0 := True; have KUc1 := True; replace KCc0 := KC.c0; replace KCc1 := KC.c1; replace KCc2 := KC.c2; replace KCc3 := KC.c3; replace KCc4 := KC.c4; replace KCc5 := KC.c5; replace KCc6 := KC.c6; replace KCc7 := KC.c7; replace KRc0 := KR.c0; replace KRc1 := KR.c1; replace KXc0 := KX.c0; replace KXc1 := KX.c1; replace KYc0 := KY.c0; replace KYc1 := KY.c1; replace KLc0 := KL.c0; replace KLc1 := KL.c1; replace KMc0 := KM.c0; replace KMc1 := KM.c1; replace KNc0 := KN.c0; replace KNc1 := KN.c1; replace KUc0 := KU.c0; replace KUc1 := KU.c1; clear hb))
      clear KC KR KCc0 KCc1 KCc2 KCc3 KCc4 KCc5 KCc6 KCc7 KRc0 KRc1
      refine (N1 _ (hp.below HB)).mono ?_
      rintro e x5 ⟨rfl, hb⟩
      replace KX := KX.below hb
      replace KY := KY.below hb
      replace KL := KL.below hb
      replace KM := KM.below hb
      replace KN := KN.below hb
      replace KU := KU.below hb
      replace HB := below_step HB hb
      replace KXc0 := KX.c0
      replace KXc1 := KX.c1
      replace KYc0 := KY.c0
      replace KYc1 := KY.c1
      replace KLc0 := KL.c0
      replace KLc1 := KL.c1
      replace KMc0 := KM.c0
      replace KMc1 := KM.c1
      replace KNc0 := KN.c0
      replace KNc1 := KN.c1
      replace KUc0 := KU.c0
      replace KUc1 := KU.c1
      clear hb
      have zz5 := ZZ.out.2.2.2.2.1
      rcases LX.out with rfl | rfl
      ·go_wp2_with (first | (go_at_call 6; skip))
       refine (N3 _ (hp.below HB)).mono ?_
       rintro e x7 ⟨rfl, hb⟩
       replace KX := KX.below hb
       replace KY := KY.below hb
       replace KL := KL.below hb
       replace KM := KM.below hb
       replace KN := KN.below hb
       replace KU := KU.below hb
       replace HB := below_step HB hb
       replace KXc0 := KX.c0
       replace KXc1 := KX.c1
       replace KYc0 := KY.c0
       replace KYc1 := KY.c1
       replace KLc0 := KL.c0
       replace KLc1 := KL.c1
       replace KMc0 := KM.c0
       replace KMc1 := KM.c1
       replace KNc0 := KN.c0
       replace KNc1 := KN.c1
       replace KUc0 := KU.c0
       replace KUc1 := KU.c1
       clear hb
       have zz7 := ZZ.out.2.2.2.2.2.2.1
       rcases LY.out with rfl | rfl
       ·skip
        go_wp2
        go_ret
        exact ⟨rfl, HB⟩
       ·cases os3 with
        | true =>
         go_wp2
         go_ret
         exact ⟨rfl, HB⟩
        | false =>
         go_wp2_with (first | (go_at_call 6; skip))
         refine (N4 _ (hp.below HB)).mono ?_
         rintro e x8 ⟨rfl, hb⟩
         replace KX := KX.below hb
         replace KY := KY.below hb
         replace KL := KL.below hb
         replace KM := KM.below hb
         replace KN := KN.below hb
         replace KU := KU.below hb
         replace HB := below_step HB hb
         replace KXc0 := KX.c0
         replace KXc1 := KX.c1
         replace KYc0 := KY.c0
         replace KYc1 := KY.c1
         replace KLc0 := KL.c0
         replace KLc1 := KL.c1
         replace KMc0 := KM.c0
         replace KMc1 := KM.c1
         replace KNc0 := KN.c0
         replace KNc1 := KN.c1
         replace KUc0 := KU.c0
         replace KUc1 := KU.c1
         clear hb
         have zz8 := ZZ.out.2.2.2.2.2.2.2
         go_wp2
         go_ret
         exact ⟨rfl, HB⟩
      ·cases os1 with
       | true =>
        go_wp2_with (first | (go_at_call 6; skip))
        refine (N3 _ (hp.below HB)).mono ?_
        rintro e x7 ⟨rfl, hb⟩
        replace KX := KX.below hb
        replace KY := KY.below hb
        replace KL := KL.below hb
        replace KM := KM.below hb
        replace KN := KN.below hb
        replace KU := KU.below hb
        replace HB := below_step HB hb
        replace KXc0 := KX.c0
        replace KXc1 := KX.c1
        replace KYc0 := KY.c0
        replace KYc1 := KY.c1
        replace KLc0 := KL.c0
        replace KLc1 := KL.c1
        replace KMc0 := KM.c0
        replace KMc1 := KM.c1
        replace KNc0 := KN.c0
        replace KNc1 := KN.c1
        replace KUc0 := KU.c0
        replace KUc1 := KU.c1
        clear hb
        have zz7 := ZZ.out.2.2.2.2.2.2.1
        rcases LY.out with rfl | rfl
        ·skip
         go_wp2
         go_ret
         exact ⟨rfl, HB⟩
        ·cases os3 with
         | true =>
          go_wp2
          go_ret
          exact ⟨rfl, HB⟩
         | false =>
          go_wp2_with (first | (go_at_call 6; skip))
          refine (N4 _ (hp.below HB)).mono ?_
          rintro e x8 ⟨rfl, hb⟩
          replace KX := KX.below hb
          replace KY := KY.below hb
          replace KL := KL.below hb
          replace KM := KM.below hb
          replace KN := KN.below hb
          replace KU := KU.below hb
          replace HB := below_step HB hb
          replace KXc0 := KX.c0
          replace KXc1 := KX.c1
          replace KYc0 := KY.c0
          replace KYc1 := KY.c1
          replace KLc0 := KL.c0
          replace KLc1 := KL.c1
          replace KMc0 := KM.c0
          replace KMc1 := KM.c1
          replace KNc0 := KN.c0
          replace KNc1 := KN.c1
          replace KUc0 := KU.c0
          replace KUc1 := KU.c1
          clear hb
          have zz8 := ZZ.out.2.2.2.2.2.2.2
          go_wp2
          go_ret
          exact ⟨rfl, HB⟩
       | false =>
        go_wp2_with (first | (go_at_call 6; skip))
        refine (N2 _ (hp.below HB)).mono ?_
        rintro e x6 ⟨rfl, hb⟩
        replace KX := KX.below hb
        replace KY := KY.below hb
        replace KL := KL.below hb
        replace KM := KM.below hb
        replace KN := KN.below hb
        replace KU := KU.below hb
        replace HB := below_step HB hb
        replace KXc0 := KX.c0
        replace KXc1 := KX.c1
        replace KYc0 := KY.c0
        replace KYc1 := KY.c1
        replace KLc0 := KL.c0
        replace KLc1 := KL.c1
        replace KMc0 := KM.c0
        replace KMc1 := KM.c1
        replace KNc0 := KN.c0
        replace KNc1 := KN.c1
        replace KUc0 := KU.c0
        replace KUc1 := KU.c1
        clear hb
        have zz6 := ZZ.out.2.2.2.2.2.1
        go_wp2_with (first | (go_at_call 6; skip))
        refine (N3 _ (hp.below HB)).mono ?_
        rintro e x7 ⟨rfl, hb⟩
        replace KX := KX.below hb
        replace KY := KY.below hb
        replace KL := KL.below hb
        replace KM := KM.below hb
        replace KN := KN.below hb
        replace KU := KU.below hb
        replace HB := below_step HB hb
        replace KXc0 := KX.c0
        replace KXc1 := KX.c1
        replace KYc0 := KY.c0
        replace KYc1 := KY.c1
        replace KLc0 := KL.c0
        replace KLc1 := KL.c1
        replace KMc0 := KM.c0
        replace KMc1 := KM.c1
        replace KNc0 := KN.c0
        replace KNc1 := KN.c1
        replace KUc0 := KU.c0
        replace KUc1 := KU.c1
        clear hb
        have zz7 := ZZ.out.2.2.2.2.2.2.1
        rcases LY.out with rfl | rfl
        ·skip
         go_wp2
         go_ret
         exact ⟨rfl, HB⟩
        ·cases os3 with
         | true =>
          go_wp2
          go_ret
          exact ⟨rfl, HB⟩
         | false =>
          go_wp2_with (first | (go_at_call 6; skip))
          refine (N4 _ (hp.below HB)).mono ?_
          rintro e x8 ⟨rfl, hb⟩
          replace KX := KX.below hb
          replace KY := KY.below hb
          replace KL := KL.below hb
          replace KM := KM.below hb
          replace KN := KN.below hb
          replace KU := KU.below hb
          replace HB := below_step HB hb
          replace KXc0 := KX.c0
          replace KXc1 := KX.c1
          replace KYc0 := KY.c0
          replace KYc1 := KY.c1
          replace KLc0 := KL.c0
          replace KLc1 := KL.c1
          replace KMc0 := KM.c0
          replace KMc1 := KM.c1
          replace KNc0 := KN.c0
          replace KNc1 := KN.c1
          replace KUc0 := KU.c0
          replace KUc1 := KU.c1
          clear hb
          have zz8 := ZZ.out.2.2.2.2.2.2.2
          go_wp2
          go_ret
          exact ⟨rfl, HB⟩
theorem lw_main (x y wd dp rr v0 v1 v2 : Int) (pa : Addr) (w : World) (hp : Pow w) (hP : Plan w pa) (hx : i64 x) (hy : i64 y) (hw : i64 wd) (hd : i64 dp) (hr : i64 rr) (h0 : i64 v0) (h1 : i64 v1) (h2 : i64 v2) :
  Calls Tryz.prog 4 #[.agg #[.int .i64 x, .int .i64 y, .int .i64 wd, .int .i64 dp, .int .i64 rr], .agg #[.int .i64 v0, .int .i64 v1, .int .i64 v2]] w fun e w' => e = .returned (.bool true) ∧ Below w.heap.size w w' := by
 cases hf : fitsP (mkRat (cX x) 4) (mkRat (cX y) 4) (mkRat (cW x wd) 4) (mkRat (cW y dp) 4) (mkRat (cR rr) 4) with
 | true => exact lw_main_ok x y wd dp rr v0 v1 v2 pa w hp hP hx hy hw hd hr h0 h1 h2 hf
 | false => exact lw_main_bad x y wd dp rr v0 v1 v2 pa w hp hP hx hy hw hd hr h0 h1 h2 hf
end Go.Proofs.YtociicfjhgfgpaaGreatDoor

/- planner: reachable: the walk. -/
import Derived.Test.YtociicfjhgfgpaaGreatDoorR34
set_option linter.unusedVariables false
set_option linter.unusedSimpArgs false
set_option maxHeartbeats 32000000
set_option maxRecDepth 100000
namespace Go.Proofs.YtociicfjhgfgpaaGreatDoor
open Go.RowKit Go.Shelf Go.Lib Go.Proofs.YtociicfjhgfgpaaGreatDoorW.PrintWords
theorem Stay1.size {w w' : World} {b : Nat} (h : Stay1 w w' b) : w.heap.size ≤ w'.heap.size := h.1
structure SqPk (p : Pkt) : Prop where
 a : Sq p.a
 b : Sq p.b
 c : Sq p.c
 d : Sq p.d
 x0 : Sq p.x0
 y0 : Sq p.y0
 x1 : Sq p.x1
 y1 : Sq p.y1
 r : Sq p.r
theorem sq_rect {x0 y0 x1 y1 : Rat} (h0 : Sq x0) (h1 : Sq y0) (h2 : Sq x1) (h3 : Sq y1) : SqR (rectR x0 y0 x1 y1) := by
 intro c hc
 have := sm_rectR (k := 90) (x0 := x0) (y0 := y0) (x1 := x1) (y1 := y1) sq_zero sq_one sq_mone (sm_neg h0) h2 (sm_neg h1) h3 c hc
 exact this
theorem sq_disc {x y r : Rat} (h0 : Sq x) (h1 : Sq y) (h2 : Sm 40 r) : SqR (discR x y r) := by
 intro c hc
 exact sm_discR (k := 90) h0 h1 ((sm_mul (by decide) h2 h2).le (by decide)) c hc
theorem rect_ne (x0 y0 x1 y1 : Rat) : (rectR x0 y0 x1 y1).2 ≠ [] := by simp [rectR]
theorem disc_ne (x y r : Rat) : (discR x y r).2 ≠ [] := by simp [discR]
theorem pl_reach (p : Pkt) (w : World) (hp : Pow w) (hS : SqPk p) (h40 : Sm 40 p.r) (hr : 0 < p.r) (hx : p.x0 < p.x1) (hy : p.y0 < p.y1) :
  Calls Tryz.prog 36 #[pkv p] w fun e w' => ∃ v, e = .returned v ∧ OwnR w' w.heap.size v (reachR p) ∧ Below w.heap.size w w' := by
 have WI := fun W hp => pl_isWide p.a p.b p.c p.d W hp hS.a hS.c
 have HI := fun W hp => pl_isHigh p.a p.b p.c p.d W hp hS.b hS.d
 have RC1 := fun W hp (h : p.a < p.c) => rg_Rectangle p.a p.y0 p.c p.y1 W hp hS.a hS.y0 hS.c hS.y1 h hy
 have RC2 := fun W hp (h : p.b < p.d) => rg_Rectangle p.x0 p.b p.x1 p.d W hp hS.x0 hS.b hS.x1 hS.d hx h
 have RC3 := fun W hp => rg_Disc p.a p.b p.r W hp hS.a hS.b hS.r hr
 have RC4 := fun W hp => rg_Disc p.c p.b p.r W hp hS.c hS.b hS.r hr
 have RC5 := fun W hp => rg_Disc p.a p.d p.r W hp hS.a hS.d hS.r hr
 have RC6 := fun W hp => rg_Disc p.c p.d p.r W hp hS.c hS.d hS.r hr
 have ZS1 := sz_rect p.a p.y0 p.c p.y1
 have ZS2 := sz_rect p.x0 p.b p.x1 p.d
 have ZS3 := sz_disc p.a p.b hr
 have ZS4 := sz_disc p.c p.b hr
 have ZS5 := sz_disc p.a p.d hr
 have ZS6 := sz_disc p.c p.d hr
 have SS1 := sq_rect hS.a hS.y0 hS.c hS.y1
 have SS2 := sq_rect hS.x0 hS.b hS.x1 hS.d
 have SS3 := sq_disc hS.a hS.b h40
 have SS4 := sq_disc hS.c hS.b h40
 have SS5 := sq_disc hS.a hS.d h40
 have SS6 := sq_disc hS.c hS.d h40
 have NE1 := rect_ne p.a p.y0 p.c p.y1
 have NE2 := rect_ne p.x0 p.b p.x1 p.d
 have NE3 := disc_ne p.a p.b p.r
 have NE4 := disc_ne p.c p.b p.r
 have NE5 := disc_ne p.a p.d p.r
 have NE6 := disc_ne p.c p.d p.r
 have HRE : reachR p = uni (decide (p.a < p.c) && decide (p.b < p.d)) (uni (decide (p.b < p.d)) (uni (decide (p.a < p.c)) (uni true (uni (decide (p.b < p.d)) (uni (decide (p.a < p.c)) ([], []) (rectR p.a p.y0 p.c p.y1)) (rectR p.x0 p.b p.x1 p.d)) (discR p.a p.b p.r)) (discR p.c p.b p.r)) (discR p.a p.d p.r)) (discR p.c p.d p.r) := rfl
 rw [HRE]
 clear HRE hS h40 hr hx hy
 generalize rectR p.a p.y0 p.c p.y1 = R1 at *
 generalize rectR p.x0 p.b p.x1 p.d = R2 at *
 generalize discR p.a p.b p.r = R3 at *
 generalize discR p.c p.b p.r = R4 at *
 generalize discR p.a p.d p.r = R5 at *
 generalize discR p.c p.d p.r = R6 at *
 have hwc : (∃ h : p.a < p.c, decide (p.a < p.c) = true) ∨ (¬ p.a < p.c ∧ decide (p.a < p.c) = false) := by
  by_cases h : p.a < p.c
  ·exact .inl ⟨h, decide_eq_true h⟩
  ·exact .inr ⟨h, decide_eq_false h⟩
 have hhc : (∃ h : p.b < p.d, decide (p.b < p.d) = true) ∨ (¬ p.b < p.d ∧ decide (p.b < p.d) = false) := by
  by_cases h : p.b < p.d
  ·exact .inl ⟨h, decide_eq_true h⟩
  ·exact .inr ⟨h, decide_eq_false h⟩
 obtain ⟨wd, hwd⟩ : ∃ b, decide (p.a < p.c) = b := ⟨_, rfl⟩
 obtain ⟨hd, hhd⟩ : ∃ b, decide (p.b < p.d) = b := ⟨_, rfl⟩
 rw [hwd] at WI hwc ⊢
 rw [hhd] at HI hhc ⊢
 clear hwd hhd
 have RC1' : wd = true → ∀ W, Pow W → _ := fun h W hp => RC1 W hp (hwc.elim (fun h => h.1) (fun h' => absurd (h.symm.trans h'.2) (by decide)))
 have RC2' : hd = true → ∀ W, Pow W → _ := fun h W hp => RC2 W hp (hhc.elim (fun h => h.1) (fun h' => absurd (h.symm.trans h'.2) (by decide)))
 clear RC1 RC2 hwc hhc
 unfold rv rcv pkv at *
 generalize itx p.a.num = e1 at *
 generalize itx (p.a.den : Int) = e2 at *
 generalize itx p.b.num = f1 at *
 generalize itx (p.b.den : Int) = f2 at *
 generalize itx p.c.num = t1 at *
 generalize itx (p.c.den : Int) = t2 at *
 generalize itx p.d.num = h1 at *
 generalize itx (p.d.den : Int) = h2 at *
 generalize itx p.x0.num = a1 at *
 generalize itx (p.x0.den : Int) = a2 at *
 generalize itx p.y0.num = b1 at *
 generalize itx (p.y0.den : Int) = b2 at *
 generalize itx p.x1.num = c1 at *
 generalize itx (p.x1.den : Int) = c2 at *
 generalize itx p.y1.num = d1 at *
 generalize itx (p.y1.den : Int) = d2 at *
 generalize itx p.r.num = r1 at *
 generalize itx (p.r.den : Int) = r2 at *
 clear p
 have hle1 : w.heap.size ≤ w.heap.size + 1 := Nat.le_succ _
 have n01 : w.heap.size ≠ w.heap.size + 1 := Nat.ne_of_lt (Nat.lt_succ_self _)
 obtain ⟨hB0, k0, k1⟩ := news2 w #[.string e1, .string e2, .string f1, .string f2, .string t1, .string t2, .string h1, .string h2, .string a1, .string a2, .string b1, .string b2, .string c1, .string c2, .string d1, .string d2, .string r1, .string r2] 71 #[.slice none 0 0, .slice none 0 0] 42
 have hmf := mk_fn
 go_enter Tryz.func36, Tryz.ntmps36
 go_wp2
 have S0 := k0.drew
 have S1 := k1.drew
 have hB1 := bZd hB0
 generalize ((w.alloc (.cells #[.string e1, .string e2, .string f1, .string f2, .string t1, .string t2, .string h1, .string h2, .string a1, .string a2, .string b1, .string b2, .string c1, .string c2, .string d1, .string d2, .string r1, .string r2] 71)).alloc (.cells #[.slice none 0 0, .slice none 0 0] 42)) = w2 at *
 clear hB0 k0 k1
 refine wp_region_V (fun _ => false) (fun W => Below w2.drew.heap.size w2.drew W) (fun W => Below w2.drew.heap.size w2.drew W) (by kernel_rfl) (cZb _) (Below.refl _ _) ?_
 apply wpV_e 0 9
 refine wpV_f 1 10 (h1 := by intro W hW; have hC := S0.below hW; have e0 := hC.cell 0; have e1 := hC.cell 1; have e2 := hC.cell 2; have e3 := hC.cell 3; have e4 := hC.cell 4; have e5 := hC.cell 5; have e6 := hC.cell 6; have e7 := hC.cell 7; clear hC; go_simp; try rfl) (h3 := ?_)
 apply wpV_e 2 11
 refine wpV_f 3 12 (h1 := by intro W hW; have hC := S0.below hW; have e8 := hC.cell 8; have e9 := hC.cell 9; have e10 := hC.cell 10; have e11 := hC.cell 11; have e12 := hC.cell 12; have e13 := hC.cell 13; have e14 := hC.cell 14; have e15 := hC.cell 15; clear hC; go_simp; try rfl) (h3 := ?_)
 refine wpV_new2 (i := 4) (k := 5) (d := some 4) (d2 := some 5) rfl rfl rfl rfl (by kernel_rfl) (by kernel_rfl) (by kernel_rfl) (by kernel_rfl) (by kernel_rfl) (by rfl) (by rfl) (by decide) ⟨fun n => .pointer (some ⟨n, 0, none⟩), #[.string ⟨#[]⟩, .string ⟨#[]⟩, .string ⟨#[]⟩, .string ⟨#[]⟩, .string ⟨#[]⟩, .string ⟨#[]⟩, .string ⟨#[]⟩, .string ⟨#[]⟩], 69, fun n => .pointer (some ⟨n, 0, none⟩), #[.string ⟨#[]⟩, .string ⟨#[]⟩, .string ⟨#[]⟩, .string ⟨#[]⟩, .string ⟨#[]⟩, .string ⟨#[]⟩, .string ⟨#[]⟩, .string ⟨#[]⟩], 69, fun W => ?_, fun W => ?_, fun g0 g1 hg0 hg1 hneg0 => ?_⟩
 ·go_simp
  try rfl
 ·go_simp
  try rfl
 have LT := S1.lt
 have hlt1 : w.heap.size + 1 < w2.drew.heap.size := LT
 have hI : w2.drew.heap.size ≤ g0 := by
  obtain ⟨Wa, h, e⟩ := hg0
  rw [e]
  exact bZz h
 have hF : w2.drew.heap.size ≤ g1 := by
  obtain ⟨Wa, h, e⟩ := hg1
  rw [e]
  exact bZz h
 have nI : g0 ≠ w.heap.size + 1 := by omega
 have nF : g1 ≠ w.heap.size + 1 := by omega
 clear hg0 hg1 LT hlt1
 refine wpV_store (fun W => (Below w2.drew.heap.size w2.drew W ∧ Blk W g0 #[.string e1, .string e2, .string f1, .string f2, .string t1, .string t2, .string h1, .string h2] 69) ∧ Blk W g1 #[.string ⟨#[]⟩, .string ⟨#[]⟩, .string ⟨#[]⟩, .string ⟨#[]⟩, .string ⟨#[]⟩, .string ⟨#[]⟩, .string ⟨#[]⟩, .string ⟨#[]⟩] 69) (i := 6) (d := none) rfl rfl (by kernel_rfl) (closed_and (closed_and (cZb _) (closed_blk _ _ _)) (closed_blk _ _ _)) (fun _ h => h.1.1) (by rfl) (fun W hW => ⟨W.setRow g0 #[.string e1, .string e2, .string f1, .string f2, .string t1, .string t2, .string h1, .string h2], run_store_row2 69 (.tmp 4) (.tmp 10) rfl g0 #[.string e1, .string e2, .string f1, .string f2, .string t1, .string t2, .string h1, .string h2] rfl rfl 69 #[.string ⟨#[]⟩, .string ⟨#[]⟩, .string ⟨#[]⟩, .string ⟨#[]⟩, .string ⟨#[]⟩, .string ⟨#[]⟩, .string ⟨#[]⟩, .string ⟨#[]⟩] hW.1.2 (by kernel_rfl) rfl (by simp [Value.oneCell']), ⟨below_row hW.1.1 hI #[.string e1, .string e2, .string f1, .string f2, .string t1, .string t2, .string h1, .string h2], hW.1.2.row #[.string e1, .string e2, .string f1, .string f2, .string t1, .string t2, .string h1, .string h2]⟩, hW.2.farR (Ne.symm hneg0) #[.string e1, .string e2, .string f1, .string f2, .string t1, .string t2, .string h1, .string h2]⟩) ?_
 refine wpV_store (fun W => (Below w2.drew.heap.size w2.drew W ∧ Blk W g0 #[.string e1, .string e2, .string f1, .string f2, .string t1, .string t2, .string h1, .string h2] 69) ∧ Blk W g1 #[.string a1, .string a2, .string b1, .string b2, .string c1, .string c2, .string d1, .string d2] 69) (i := 7) (d := none) rfl rfl (by kernel_rfl) (closed_and (closed_and (cZb _) (closed_blk _ _ _)) (closed_blk _ _ _)) (fun _ h => h.1.1) (by rfl) (fun W hW => ⟨W.setRow g1 #[.string a1, .string a2, .string b1, .string b2, .string c1, .string c2, .string d1, .string d2], run_store_row2 69 (.tmp 5) (.tmp 12) rfl g1 #[.string a1, .string a2, .string b1, .string b2, .string c1, .string c2, .string d1, .string d2] rfl rfl 69 #[.string ⟨#[]⟩, .string ⟨#[]⟩, .string ⟨#[]⟩, .string ⟨#[]⟩, .string ⟨#[]⟩, .string ⟨#[]⟩, .string ⟨#[]⟩, .string ⟨#[]⟩] hW.2 (by kernel_rfl) rfl (by simp [Value.oneCell']), ⟨below_row hW.1.1 hF #[.string a1, .string a2, .string b1, .string b2, .string c1, .string c2, .string d1, .string d2], hW.1.2.farR hneg0 #[.string a1, .string a2, .string b1, .string b2, .string c1, .string c2, .string d1, .string d2]⟩, hW.2.row #[.string a1, .string a2, .string b1, .string b2, .string c1, .string c2, .string d1, .string d2]⟩) ?_
 refine wpV_done (by kernel_rfl) (fun w4 hW4 => ?_) _
 go_simp
 obtain ⟨⟨hbW, KI⟩, KF⟩ := hW4
 have K0 := S0.below hbW
 have KO := S1.below hbW
 have HB := bZs hB1 hbW
 clear hbW S0 S1 hB1
 have HO : OwnR w4 w.heap.size (.agg #[.slice none 0 0, .slice none 0 0]) ([], []) := ⟨_, _, rfl, OwnK.nil _ _ _ _, OwnK.nil _ _ _ _⟩
 have ZR := sz_nil
 have SR : SqR ([], []) := fun c h => absurd h (by simp)
 have pc0 := K0.c0
 have pc1 := K0.c1
 have pc2 := K0.c2
 have pc3 := K0.c3
 have pc4 := K0.c4
 have pc5 := K0.c5
 have pc6 := K0.c6
 have pc7 := K0.c7
 have pc16 := K0.c16
 have pc17 := K0.c17
 have ic0 := KI.c0
 have ic1 := KI.c1
 have ic2 := KI.c2
 have ic3 := KI.c3
 have ic4 := KI.c4
 have ic5 := KI.c5
 have ic6 := KI.c6
 have ic7 := KI.c7
 have fc0 := KF.c0
 have fc1 := KF.c1
 have fc2 := KF.c2
 have fc3 := KF.c3
 have fc4 := KF.c4
 have fc5 := KF.c5
 have fc6 := KF.c6
 have fc7 := KF.c7
 cases wd with
 | true =>
  have RC1 := RC1' rfl
  cases hd with
  | true =>
   have RC2 := RC2' rfl
   clear RC1' RC2'
   have TK1 : True := trivial
   have TK2 : True := trivial
   have TK3 : True := trivial
   have TK4 : True := trivial
   have TK5 : True := trivial
   have TK6 : True := trivial
   have TK7 : True := trivial
   have TK8 : True := trivial
   have TK9 : True := trivial
   have TK10 : True := trivial
   have TK11 : True := trivial
   have TK12 : True := trivial
   have TK13 : True := trivial
   have TK14 : True := trivial
   have TK15 : True := trivial
   have TK16 : True := trivial
   have TK17 : True := trivial
   have TK18 : True := trivial
   go_wp2_with ((first | (go_at_call 74; clear TK1; refine (WI _ (hp.below HB)).mono ?_; rintro e v1 ⟨rfl, hb⟩) | (go_at_call 88; clear TK2; refine (RC1 _ (hp.below HB)).mono ?_; rintro e v2 ⟨vr, rfl, ⟨xa, ya, rfl, HX, HY⟩, hb⟩; obtain ⟨XA, xc, ex⟩ := Kd.R_slice HX; obtain ⟨YA, yc, ey⟩ := Kd.R_slice HY; subst ex ey; have HRD : RdR v2 (.agg #[.slice XA R1.1.length xc, .slice YA R1.2.length yc]) R1 := ⟨_, _, rfl, HX.rd, HY.rd⟩) | (go_at_call 85; clear TK3; refine (pl_add w (w.heap.size + 1) _ _ _ R1 _ (hp.below HB) _ _ rfl KO HO HRD ZR ZS1 SR SS1 NE1 (by decide) (by decide) hle1 HB).mono ?_; rintro e v3 ⟨u1, u2, rfl, KO2, HO2, HB2, ST⟩; obtain ⟨x, y, ev, hX, hY⟩ := HO2; obtain ⟨XA, xc, ex⟩ := Kd.R_slice hX; obtain ⟨YA, yc, ey⟩ := Kd.R_slice hY; subst ex ey; injection ev with ev; simp only [Array.mk.injEq, List.cons.injEq, and_true] at ev; obtain ⟨rfl, rfl⟩ := ev; have HO2 : OwnR v3 w.heap.size _ _ := ⟨_, _, rfl, hX, hY⟩; replace ZR := cmb_sz (op := 2) (.inl rfl) ZR ZS1 (by decide) (by decide); replace SR := SqR.cmb (op := 2) SR SS1) | (go_at_call 75; clear TK4; refine (HI _ (hp.below HB)).mono ?_; rintro e v4 ⟨rfl, hb⟩) | (go_at_call 88; clear TK5; refine (RC2 _ (hp.below HB)).mono ?_; rintro e v5 ⟨vr, rfl, ⟨xa, ya, rfl, HX, HY⟩, hb⟩; obtain ⟨XA, xc, ex⟩ := Kd.R_slice HX; obtain ⟨YA, yc, ey⟩ := Kd.R_slice HY; subst ex ey; have HRD : RdR v5 (.agg #[.slice XA R2.1.length xc, .slice YA R2.2.length yc]) R2 := ⟨_, _, rfl, HX.rd, HY.rd⟩) | (go_at_call 85; clear TK6; refine (pl_add w (w.heap.size + 1) _ _ _ R2 _ (hp.below HB) _ _ rfl KO HO HRD ZR ZS2 SR SS2 NE2 (by decide) (by decide) hle1 HB).mono ?_; rintro e v6 ⟨u1, u2, rfl, KO2, HO2, HB2, ST⟩; obtain ⟨x, y, ev, hX, hY⟩ := HO2; obtain ⟨XA, xc, ex⟩ := Kd.R_slice hX; obtain ⟨YA, yc, ey⟩ := Kd.R_slice hY; subst ex ey; injection ev with ev; simp only [Array.mk.injEq, List.cons.injEq, and_true] at ev; obtain ⟨rfl, rfl⟩ := ev; have HO2 : OwnR v6 w.heap.size _ _ := ⟨_, _, rfl, hX, hY⟩; replace ZR := cmb_sz (op := 2) (.inl rfl) ZR ZS2 (by decide) (by decide); replace SR := SqR.cmb (op := 2) SR SS2)); (try clear HX HY); (try replace K0 := K0.below hb); (try replace KI := KI.below hb); (try replace KF := KF.below hb); (try replace KO := KO.below hb); (try replace HO := HO.below hb); (try replace HB := bZs HB hb); (try clear hX hY); (try replace K0 := ST.blk K0 n01); (try replace KI := ST.blk KI nI); (try replace KF := ST.blk KF nF); (try replace KO := KO2); (try replace HO := HO2); (try replace HB := HB2); (try clear KO2 HO2 HB2 HRD); replace pc0 := K0.c0; replace pc1 := K0.c1; replace pc2 := K0.c2; replace pc3 := K0.c3; replace pc4 := K0.c4; replace pc5 := K0.c5; replace pc6 := K0.c6; replace pc7 := K0.c7; replace pc16 := K0.c16; replace pc17 := K0.c17; replace ic0 := KI.c0; replace ic1 := KI.c1; replace ic2 := KI.c2; replace ic3 := KI.c3; replace ic4 := KI.c4; replace ic5 := KI.c5; replace ic6 := KI.c6; replace ic7 := KI.c7; replace fc0 := KF.c0; replace fc1 := KF.c1; replace fc2 := KF.c2; replace fc3 := KF.c3; replace fc4 := KF.c4; replace fc5 := KF.c5; replace fc6 := KF.c6; replace fc7 := KF.c7; (try clear hb))
   have LTo := KO.lt
   have nS : v6.heap.size ≠ w.heap.size + 1 := by omega
   have nY : v6.heap.size + 1 ≠ w.heap.size + 1 := by omega
   clear LTo
   obtain ⟨hbS, KS, KY⟩ := news2 v6 #[.string f1, .string f2, .string h1, .string h2] 25 #[.string f1, .string f2] 25
   have yc0 := KY.cell 0
   have yc1 := KY.cell 1
   replace K0 := K0.below hbS
   replace KI := KI.below hbS
   replace KF := KF.below hbS
   replace KO := KO.below hbS
   replace HO := HO.below hbS
   replace HB := bZs HB hbS
   replace pc0 := K0.c0
   replace pc1 := K0.c1
   replace pc2 := K0.c2
   replace pc3 := K0.c3
   replace pc4 := K0.c4
   replace pc5 := K0.c5
   replace pc6 := K0.c6
   replace pc7 := K0.c7
   replace pc16 := K0.c16
   replace pc17 := K0.c17
   replace ic0 := KI.c0
   replace ic1 := KI.c1
   replace ic2 := KI.c2
   replace ic3 := KI.c3
   replace ic4 := KI.c4
   replace ic5 := KI.c5
   replace ic6 := KI.c6
   replace ic7 := KI.c7
   replace fc0 := KF.c0
   replace fc1 := KF.c1
   replace fc2 := KF.c2
   replace fc3 := KF.c3
   replace fc4 := KF.c4
   replace fc5 := KF.c5
   replace fc6 := KF.c6
   replace fc7 := KF.c7
   clear hbS
   refine wp_loop_rounds 3 ?_
   rw [rounds_succ]
   go_wp2_with ((first | (go_at_call 89; clear TK7; refine (RC3 _ (hp.below HB)).mono ?_; rintro e v7 ⟨vr, rfl, ⟨xa, ya, rfl, HX, HY⟩, hb⟩; obtain ⟨XA, xc, ex⟩ := Kd.R_slice HX; obtain ⟨YA, yc, ey⟩ := Kd.R_slice HY; subst ex ey; have HRD : RdR v7 (.agg #[.slice XA R3.1.length xc, .slice YA R3.2.length yc]) R3 := ⟨_, _, rfl, HX.rd, HY.rd⟩) | (go_at_call 85; clear TK8; refine (pl_add w (w.heap.size + 1) _ _ _ R3 _ (hp.below HB) _ _ rfl KO HO HRD ZR ZS3 SR SS3 NE3 (by decide) (by decide) hle1 HB).mono ?_; rintro e v8 ⟨u1, u2, rfl, KO2, HO2, HB2, ST⟩; obtain ⟨x, y, ev, hX, hY⟩ := HO2; obtain ⟨XA, xc, ex⟩ := Kd.R_slice hX; obtain ⟨YA, yc, ey⟩ := Kd.R_slice hY; subst ex ey; injection ev with ev; simp only [Array.mk.injEq, List.cons.injEq, and_true] at ev; obtain ⟨rfl, rfl⟩ := ev; have HO2 : OwnR v8 w.heap.size _ _ := ⟨_, _, rfl, hX, hY⟩; replace ZR := cmb_sz (op := 2) (.inl rfl) ZR ZS3 (by decide) (by decide); replace SR := SqR.cmb (op := 2) SR SS3) | (go_at_call 74; clear TK9; refine (WI _ (hp.below HB)).mono ?_; rintro e v9 ⟨rfl, hb⟩) | (go_at_call 89; clear TK10; refine (RC4 _ (hp.below HB)).mono ?_; rintro e v10 ⟨vr, rfl, ⟨xa, ya, rfl, HX, HY⟩, hb⟩; obtain ⟨XA, xc, ex⟩ := Kd.R_slice HX; obtain ⟨YA, yc, ey⟩ := Kd.R_slice HY; subst ex ey; have HRD : RdR v10 (.agg #[.slice XA R4.1.length xc, .slice YA R4.2.length yc]) R4 := ⟨_, _, rfl, HX.rd, HY.rd⟩) | (go_at_call 85; clear TK11; refine (pl_add w (w.heap.size + 1) _ _ _ R4 _ (hp.below HB) _ _ rfl KO HO HRD ZR ZS4 SR SS4 NE4 (by decide) (by decide) hle1 HB).mono ?_; rintro e v11 ⟨u1, u2, rfl, KO2, HO2, HB2, ST⟩; obtain ⟨x, y, ev, hX, hY⟩ := HO2; obtain ⟨XA, xc, ex⟩ := Kd.R_slice hX; obtain ⟨YA, yc, ey⟩ := Kd.R_slice hY; subst ex ey; injection ev with ev; simp only [Array.mk.injEq, List.cons.injEq, and_true] at ev; obtain ⟨rfl, rfl⟩ := ev; have HO2 : OwnR v11 w.heap.size _ _ := ⟨_, _, rfl, hX, hY⟩; replace ZR := cmb_sz (op := 2) (.inl rfl) ZR ZS4 (by decide) (by decide); replace SR := SqR.cmb (op := 2) SR SS4) | (go_at_call 75; clear TK12; refine (HI _ (hp.below HB)).mono ?_; rintro e v12 ⟨rfl, hb⟩)); (try clear HX HY); (try replace K0 := K0.below hb); (try replace KI := KI.below hb); (try replace KF := KF.below hb); (try replace KO := KO.below hb); (try replace HO := HO.below hb); (try replace HB := bZs HB hb); (try replace KS := KS.below hb); (try replace KY := KY.below hb); (try clear hX hY); (try replace K0 := ST.blk K0 n01); (try replace KI := ST.blk KI nI); (try replace KF := ST.blk KF nF); (try replace KS := ST.blk KS nS); (try replace KY := ST.blk KY nY); replace yc0 := KY.c0; replace yc1 := KY.c1; (try replace KO := KO2); (try replace HO := HO2); (try replace HB := HB2); (try clear KO2 HO2 HB2 HRD); replace pc0 := K0.c0; replace pc1 := K0.c1; replace pc2 := K0.c2; replace pc3 := K0.c3; replace pc4 := K0.c4; replace pc5 := K0.c5; replace pc6 := K0.c6; replace pc7 := K0.c7; replace pc16 := K0.c16; replace pc17 := K0.c17; replace ic0 := KI.c0; replace ic1 := KI.c1; replace ic2 := KI.c2; replace ic3 := KI.c3; replace ic4 := KI.c4; replace ic5 := KI.c5; replace ic6 := KI.c6; replace ic7 := KI.c7; replace fc0 := KF.c0; replace fc1 := KF.c1; replace fc2 := KF.c2; replace fc3 := KF.c3; replace fc4 := KF.c4; replace fc5 := KF.c5; replace fc6 := KF.c6; replace fc7 := KF.c7; (try clear hb))
   have kz2 : World.cell? v12 ⟨v6.heap.size, 2, none⟩ = some (.string h1) := KS.cell 2
   have kz3 : World.cell? v12 ⟨v6.heap.size, 3, none⟩ = some (.string h2) := KS.cell 3
   have LTo := KO.lt
   have nY2 : v12.heap.size ≠ w.heap.size + 1 := by omega
   clear LTo nY KY yc0 yc1
   obtain ⟨hbS, KY⟩ := news1 v12 #[.string h1, .string h2] 25
   have nY := nY2
   have yc0 := KY.cell 0
   have yc1 := KY.cell 1
   replace KS := KS.below hbS
   replace K0 := K0.below hbS
   replace KI := KI.below hbS
   replace KF := KF.below hbS
   replace KO := KO.below hbS
   replace HO := HO.below hbS
   replace HB := bZs HB hbS
   replace pc0 := K0.c0
   replace pc1 := K0.c1
   replace pc2 := K0.c2
   replace pc3 := K0.c3
   replace pc4 := K0.c4
   replace pc5 := K0.c5
   replace pc6 := K0.c6
   replace pc7 := K0.c7
   replace pc16 := K0.c16
   replace pc17 := K0.c17
   replace ic0 := KI.c0
   replace ic1 := KI.c1
   replace ic2 := KI.c2
   replace ic3 := KI.c3
   replace ic4 := KI.c4
   replace ic5 := KI.c5
   replace ic6 := KI.c6
   replace ic7 := KI.c7
   replace fc0 := KF.c0
   replace fc1 := KF.c1
   replace fc2 := KF.c2
   replace fc3 := KF.c3
   replace fc4 := KF.c4
   replace fc5 := KF.c5
   replace fc6 := KF.c6
   replace fc7 := KF.c7
   clear hbS
   rw [rounds_succ]
   go_wp2_with ((first | (go_at_call 89; clear TK13; refine (RC5 _ (hp.below HB)).mono ?_; rintro e v13 ⟨vr, rfl, ⟨xa, ya, rfl, HX, HY⟩, hb⟩; obtain ⟨XA, xc, ex⟩ := Kd.R_slice HX; obtain ⟨YA, yc, ey⟩ := Kd.R_slice HY; subst ex ey; have HRD : RdR v13 (.agg #[.slice XA R5.1.length xc, .slice YA R5.2.length yc]) R5 := ⟨_, _, rfl, HX.rd, HY.rd⟩) | (go_at_call 85; clear TK14; refine (pl_add w (w.heap.size + 1) _ _ _ R5 _ (hp.below HB) _ _ rfl KO HO HRD ZR ZS5 SR SS5 NE5 (by decide) (by decide) hle1 HB).mono ?_; rintro e v14 ⟨u1, u2, rfl, KO2, HO2, HB2, ST⟩; obtain ⟨x, y, ev, hX, hY⟩ := HO2; obtain ⟨XA, xc, ex⟩ := Kd.R_slice hX; obtain ⟨YA, yc, ey⟩ := Kd.R_slice hY; subst ex ey; injection ev with ev; simp only [Array.mk.injEq, List.cons.injEq, and_true] at ev; obtain ⟨rfl, rfl⟩ := ev; have HO2 : OwnR v14 w.heap.size _ _ := ⟨_, _, rfl, hX, hY⟩; replace ZR := cmb_sz (op := 2) (.inl rfl) ZR ZS5 (by decide) (by decide); replace SR := SqR.cmb (op := 2) SR SS5) | (go_at_call 74; clear TK15; refine (WI _ (hp.below HB)).mono ?_; rintro e _ ⟨rfl, hb⟩) | (go_at_call 89; clear TK16; refine (RC6 _ (hp.below HB)).mono ?_; rintro e v16 ⟨vr, rfl, ⟨xa, ya, rfl, HX, HY⟩, hb⟩; obtain ⟨XA, xc, ex⟩ := Kd.R_slice HX; obtain ⟨YA, yc, ey⟩ := Kd.R_slice HY; subst ex ey; have HRD : RdR v16 (.agg #[.slice XA R6.1.length xc, .slice YA R6.2.length yc]) R6 := ⟨_, _, rfl, HX.rd, HY.rd⟩) | (go_at_call 85; clear TK17; refine (pl_add w (w.heap.size + 1) _ _ _ R6 _ (hp.below HB) _ _ rfl KO HO HRD ZR ZS6 SR SS6 NE6 (by decide) (by decide) hle1 HB).mono ?_; rintro e v17 ⟨u1, u2, rfl, KO2, HO2, HB2, ST⟩; obtain ⟨x, y, ev, hX, hY⟩ := HO2; obtain ⟨XA, xc, ex⟩ := Kd.R_slice hX; obtain ⟨YA, yc, ey⟩ := Kd.R_slice hY; subst ex ey; injection ev with ev; simp only [Array.mk.injEq, List.cons.injEq, and_true] at ev; obtain ⟨rfl, rfl⟩ := ev; have HO2 : OwnR v17 w.heap.size _ _ := ⟨_, _, rfl, hX, hY⟩; replace ZR := cmb_sz (op := 2) (.inl rfl) ZR ZS6 (by decide) (by decide); replace SR := SqR.cmb (op := 2) SR SS6) | (go_at_call 75; clear TK18; refine (HI _ (hp.below HB)).mono ?_; rintro e _ ⟨rfl, hb⟩)); (try clear HX HY); (try replace K0 := K0.below hb); (try replace KI := KI.below hb); (try replace KF := KF.below hb); (try replace KO := KO.below hb); (try replace HO := HO.below hb); (try replace HB := bZs HB hb); (try replace KS := KS.below hb); (try replace KY := KY.below hb); (try clear hX hY); (try replace K0 := ST.blk K0 n01); (try replace KI := ST.blk KI nI); (try replace KF := ST.blk KF nF); (try replace KS := ST.blk KS nS); (try replace KY := ST.blk KY nY); replace yc0 := KY.c0; replace yc1 := KY.c1; (try replace KO := KO2); (try replace HO := HO2); (try replace HB := HB2); (try clear KO2 HO2 HB2 HRD); replace pc0 := K0.c0; replace pc1 := K0.c1; replace pc2 := K0.c2; replace pc3 := K0.c3; replace pc4 := K0.c4; replace pc5 := K0.c5; replace pc6 := K0.c6; replace pc7 := K0.c7; replace pc16 := K0.c16; replace pc17 := K0.c17; replace ic0 := KI.c0; replace ic1 := KI.c1; replace ic2 := KI.c2; replace ic3 := KI.c3; replace ic4 := KI.c4; replace ic5 := KI.c5; replace ic6 := KI.c6; replace ic7 := KI.c7; replace fc0 := KF.c0; replace fc1 := KF.c1; replace fc2 := KF.c2; replace fc3 := KF.c3; replace fc4 := KF.c4; replace fc5 := KF.c5; replace fc6 := KF.c6; replace fc7 := KF.c7; (try clear hb))
   obtain ⟨o0, o1, z0, z1⟩ := KO.two
   rw [rounds_succ]
   go_wp2
   have h9 := OwnR.set (OwnR.set HO KO (by decide) (by decide) 0 (.slice XA (Prod.fst (cmb 2 (cmb 2 (cmb 2 (cmb 2 (cmb 2 (cmb 2 ([], []) R1) R2) R3) R4) R5) R6)).length xc)) (KO.set 0 _) (by decide) (by decide) 1 (.slice YA (Prod.snd (cmb 2 (cmb 2 (cmb 2 (cmb 2 (cmb 2 (cmb 2 ([], []) R1) R2) R3) R4) R5) R6)).length yc)
   refine bodyPost_ret (rZs rfl (.cell (w.heap.size + 1) 42 #[.slice XA (Prod.fst (cmb 2 (cmb 2 (cmb 2 (cmb 2 (cmb 2 (cmb 2 ([], []) R1) R2) R3) R4) R5) R6)).length xc, .slice YA (Prod.snd (cmb 2 (cmb 2 (cmb 2 (cmb 2 (cmb 2 (cmb 2 ([], []) R1) R2) R3) R4) R5) R6)).length yc] (0, 0) _ rfl ((KO.set 0 _).set 1 _) Tryz.underlying42 rfl (by kernel_rfl) .nil)) rfl ?_
   exact ⟨_, rfl, h9, bZe (bZe HB hle1) hle1⟩
  | false =>
   clear RC1' RC2'
   have TK1 : True := trivial
   have TK2 : True := trivial
   have TK3 : True := trivial
   have TK4 : True := trivial
   have TK5 : True := trivial
   have TK6 : True := trivial
   have TK7 : True := trivial
   have TK8 : True := trivial
   have TK9 : True := trivial
   have TK10 : True := trivial
   go_wp2_with ((first | (go_at_call 74; clear TK1; refine (WI _ (hp.below HB)).mono ?_; rintro e v1 ⟨rfl, hb⟩) | (go_at_call 88; clear TK2; refine (RC1 _ (hp.below HB)).mono ?_; rintro e v2 ⟨vr, rfl, ⟨xa, ya, rfl, HX, HY⟩, hb⟩; obtain ⟨XA, xc, ex⟩ := Kd.R_slice HX; obtain ⟨YA, yc, ey⟩ := Kd.R_slice HY; subst ex ey; have HRD : RdR v2 (.agg #[.slice XA R1.1.length xc, .slice YA R1.2.length yc]) R1 := ⟨_, _, rfl, HX.rd, HY.rd⟩; clear HX HY) | (go_at_call 85; clear TK3; refine (pl_add w (w.heap.size + 1) _ _ _ R1 _ (hp.below HB) _ _ rfl KO HO HRD ZR ZS1 SR SS1 NE1 (by decide) (by decide) hle1 HB).mono ?_; rintro e v3 ⟨u1, u2, rfl, KO2, HO2, HB2, ST⟩; obtain ⟨x, y, ev, hX, hY⟩ := HO2; obtain ⟨XA, xc, ex⟩ := Kd.R_slice hX; obtain ⟨YA, yc, ey⟩ := Kd.R_slice hY; subst ex ey; injection ev with ev; simp only [Array.mk.injEq, List.cons.injEq, and_true] at ev; obtain ⟨rfl, rfl⟩ := ev; have HO2 : OwnR v3 w.heap.size _ _ := ⟨_, _, rfl, hX, hY⟩; clear hX hY; replace ZR := cmb_sz (op := 2) (.inl rfl) ZR ZS1 (by decide) (by decide); replace SR := SqR.cmb (op := 2) SR SS1; replace K0 := ST.blk K0 n01; replace KI := ST.blk KI nI; replace KF := ST.blk KF nF; replace KO := KO2; replace HO := HO2; replace HB := HB2; clear KO2 HO2 HB2 HRD) | (go_at_call 75; clear TK4; refine (HI _ (hp.below HB)).mono ?_; rintro e v4 ⟨rfl, hb⟩)); (try replace K0 := K0.below hb); (try replace KI := KI.below hb); (try replace KF := KF.below hb); (try replace KO := KO.below hb); (try replace HO := HO.below hb); (try replace HB := bZs HB hb); replace pc0 := K0.c0; replace pc1 := K0.c1; replace pc2 := K0.c2; replace pc3 := K0.c3; replace pc4 := K0.c4; replace pc5 := K0.c5; replace pc6 := K0.c6; replace pc7 := K0.c7; replace pc16 := K0.c16; replace pc17 := K0.c17; replace ic0 := KI.c0; replace ic1 := KI.c1; replace ic2 := KI.c2; replace ic3 := KI.c3; replace ic4 := KI.c4; replace ic5 := KI.c5; replace ic6 := KI.c6; replace ic7 := KI.c7; replace fc0 := KF.c0; replace fc1 := KF.c1; replace fc2 := KF.c2; replace fc3 := KF.c3; replace fc4 := KF.c4; replace fc5 := KF.c5; replace fc6 := KF.c6; replace fc7 := KF.c7; (try clear hb))
   have LTo := KO.lt
   have nS : v4.heap.size ≠ w.heap.size + 1 := by omega
   have nY : v4.heap.size + 1 ≠ w.heap.size + 1 := by omega
   clear LTo
   obtain ⟨hbS, KS, KY⟩ := news2 v4 #[.string f1, .string f2, .string h1, .string h2] 25 #[.string f1, .string f2] 25
   have yc0 := KY.cell 0
   have yc1 := KY.cell 1
   replace K0 := K0.below hbS
   replace KI := KI.below hbS
   replace KF := KF.below hbS
   replace KO := KO.below hbS
   replace HO := HO.below hbS
   replace HB := bZs HB hbS
   replace pc0 := K0.c0
   replace pc1 := K0.c1
   replace pc2 := K0.c2
   replace pc3 := K0.c3
   replace pc4 := K0.c4
   replace pc5 := K0.c5
   replace pc6 := K0.c6
   replace pc7 := K0.c7
   replace pc16 := K0.c16
   replace pc17 := K0.c17
   replace ic0 := KI.c0
   replace ic1 := KI.c1
   replace ic2 := KI.c2
   replace ic3 := KI.c3
   replace ic4 := KI.c4
   replace ic5 := KI.c5
   replace ic6 := KI.c6
   replace ic7 := KI.c7
   replace fc0 := KF.c0
   replace fc1 := KF.c1
   replace fc2 := KF.c2
   replace fc3 := KF.c3
   replace fc4 := KF.c4
   replace fc5 := KF.c5
   replace fc6 := KF.c6
   replace fc7 := KF.c7
   clear hbS
   refine wp_loop_rounds 1 ?_
   rw [rounds_succ]
   go_wp2_with ((first | (go_at_call 89; clear TK5; refine (RC3 _ (hp.below HB)).mono ?_; rintro e v5 ⟨vr, rfl, ⟨xa, ya, rfl, HX, HY⟩, hb⟩; obtain ⟨XA, xc, ex⟩ := Kd.R_slice HX; obtain ⟨YA, yc, ey⟩ := Kd.R_slice HY; subst ex ey; have HRD : RdR v5 (.agg #[.slice XA R3.1.length xc, .slice YA R3.2.length yc]) R3 := ⟨_, _, rfl, HX.rd, HY.rd⟩) | (go_at_call 85; clear TK6; refine (pl_add w (w.heap.size + 1) _ _ _ R3 _ (hp.below HB) _ _ rfl KO HO HRD ZR ZS3 SR SS3 NE3 (by decide) (by decide) hle1 HB).mono ?_; rintro e v6 ⟨u1, u2, rfl, KO2, HO2, HB2, ST⟩; obtain ⟨x, y, ev, hX, hY⟩ := HO2; obtain ⟨XA, xc, ex⟩ := Kd.R_slice hX; obtain ⟨YA, yc, ey⟩ := Kd.R_slice hY; subst ex ey; injection ev with ev; simp only [Array.mk.injEq, List.cons.injEq, and_true] at ev; obtain ⟨rfl, rfl⟩ := ev; have HO2 : OwnR v6 w.heap.size _ _ := ⟨_, _, rfl, hX, hY⟩; replace ZR := cmb_sz (op := 2) (.inl rfl) ZR ZS3 (by decide) (by decide); replace SR := SqR.cmb (op := 2) SR SS3) | (go_at_call 74; clear TK7; refine (WI _ (hp.below HB)).mono ?_; rintro e v7 ⟨rfl, hb⟩) | (go_at_call 89; clear TK8; refine (RC4 _ (hp.below HB)).mono ?_; rintro e v8 ⟨vr, rfl, ⟨xa, ya, rfl, HX, HY⟩, hb⟩; obtain ⟨XA, xc, ex⟩ := Kd.R_slice HX; obtain ⟨YA, yc, ey⟩ := Kd.R_slice HY; subst ex ey; have HRD : RdR v8 (.agg #[.slice XA R4.1.length xc, .slice YA R4.2.length yc]) R4 := ⟨_, _, rfl, HX.rd, HY.rd⟩) | (go_at_call 85; clear TK9; refine (pl_add w (w.heap.size + 1) _ _ _ R4 _ (hp.below HB) _ _ rfl KO HO HRD ZR ZS4 SR SS4 NE4 (by decide) (by decide) hle1 HB).mono ?_; rintro e v9 ⟨u1, u2, rfl, KO2, HO2, HB2, ST⟩; obtain ⟨x, y, ev, hX, hY⟩ := HO2; obtain ⟨XA, xc, ex⟩ := Kd.R_slice hX; obtain ⟨YA, yc, ey⟩ := Kd.R_slice hY; subst ex ey; injection ev with ev; simp only [Array.mk.injEq, List.cons.injEq, and_true] at ev; obtain ⟨rfl, rfl⟩ := ev; have HO2 : OwnR v9 w.heap.size _ _ := ⟨_, _, rfl, hX, hY⟩; replace ZR := cmb_sz (op := 2) (.inl rfl) ZR ZS4 (by decide) (by decide); replace SR := SqR.cmb (op := 2) SR SS4) | (go_at_call 75; clear TK10; refine (HI _ (hp.below HB)).mono ?_; rintro e v10 ⟨rfl, hb⟩; replace KO := KO.below hb; obtain ⟨o0, o1, z0, z1⟩ := KO.two)); (try clear HX HY); (try replace K0 := K0.below hb); (try replace KI := KI.below hb); (try replace KF := KF.below hb); (try replace KO := KO.below hb); (try replace HO := HO.below hb); (try replace HB := bZs HB hb); (try replace KS := KS.below hb); (try replace KY := KY.below hb); (try clear hX hY); (try replace K0 := ST.blk K0 n01); (try replace KI := ST.blk KI nI); (try replace KF := ST.blk KF nF); (try replace KS := ST.blk KS nS); (try replace KY := ST.blk KY nY); replace yc0 := KY.c0; replace yc1 := KY.c1; (try replace KO := KO2); (try replace HO := HO2); (try replace HB := HB2); (try clear KO2 HO2 HB2 HRD); replace pc0 := K0.c0; replace pc1 := K0.c1; replace pc2 := K0.c2; replace pc3 := K0.c3; replace pc4 := K0.c4; replace pc5 := K0.c5; replace pc6 := K0.c6; replace pc7 := K0.c7; replace pc16 := K0.c16; replace pc17 := K0.c17; replace ic0 := KI.c0; replace ic1 := KI.c1; replace ic2 := KI.c2; replace ic3 := KI.c3; replace ic4 := KI.c4; replace ic5 := KI.c5; replace ic6 := KI.c6; replace ic7 := KI.c7; replace fc0 := KF.c0; replace fc1 := KF.c1; replace fc2 := KF.c2; replace fc3 := KF.c3; replace fc4 := KF.c4; replace fc5 := KF.c5; replace fc6 := KF.c6; replace fc7 := KF.c7; (try clear hb))
   have h9 := OwnR.set (OwnR.set HO KO (by decide) (by decide) 0 (.slice XA (Prod.fst (cmb 2 (cmb 2 (cmb 2 ([], []) R1) R3) R4)).length xc)) (KO.set 0 _) (by decide) (by decide) 1 (.slice YA (Prod.snd (cmb 2 (cmb 2 (cmb 2 ([], []) R1) R3) R4)).length yc)
   refine bodyPost_ret (rZs rfl (.cell (w.heap.size + 1) 42 #[.slice XA (Prod.fst (cmb 2 (cmb 2 (cmb 2 ([], []) R1) R3) R4)).length xc, .slice YA (Prod.snd (cmb 2 (cmb 2 (cmb 2 ([], []) R1) R3) R4)).length yc] (0, 0) _ rfl ((KO.set 0 _).set 1 _) Tryz.underlying42 rfl (by kernel_rfl) .nil)) rfl ?_
   exact ⟨_, rfl, h9, bZe (bZe HB hle1) hle1⟩
 | false =>
  cases hd with
  | true =>
   have RC2 := RC2' rfl
   clear RC1' RC2'
   have TK1 : True := trivial
   have TK2 : True := trivial
   have TK3 : True := trivial
   have TK4 : True := trivial
   have TK5 : True := trivial
   have TK6 : True := trivial
   have TK7 : True := trivial
   have TK8 : True := trivial
   have TK9 : True := trivial
   have TK10 : True := trivial
   have TK11 : True := trivial
   have TK12 : True := trivial
   go_wp2_with ((first | (go_at_call 74; clear TK1; refine (WI _ (hp.below HB)).mono ?_; rintro e v1 ⟨rfl, hb⟩) | (go_at_call 75; clear TK2; refine (HI _ (hp.below HB)).mono ?_; rintro e v2 ⟨rfl, hb⟩) | (go_at_call 88; clear TK3; refine (RC2 _ (hp.below HB)).mono ?_; rintro e v3 ⟨vr, rfl, ⟨xa, ya, rfl, HX, HY⟩, hb⟩; obtain ⟨XA, xc, ex⟩ := Kd.R_slice HX; obtain ⟨YA, yc, ey⟩ := Kd.R_slice HY; subst ex ey; have HRD : RdR v3 (.agg #[.slice XA R2.1.length xc, .slice YA R2.2.length yc]) R2 := ⟨_, _, rfl, HX.rd, HY.rd⟩; clear HX HY) | (go_at_call 85; clear TK4; refine (pl_add w (w.heap.size + 1) _ _ _ R2 _ (hp.below HB) _ _ rfl KO HO HRD ZR ZS2 SR SS2 NE2 (by decide) (by decide) hle1 HB).mono ?_; rintro e v4 ⟨u1, u2, rfl, KO2, HO2, HB2, ST⟩; obtain ⟨x, y, ev, hX, hY⟩ := HO2; obtain ⟨XA, xc, ex⟩ := Kd.R_slice hX; obtain ⟨YA, yc, ey⟩ := Kd.R_slice hY; subst ex ey; injection ev with ev; simp only [Array.mk.injEq, List.cons.injEq, and_true] at ev; obtain ⟨rfl, rfl⟩ := ev; have HO2 : OwnR v4 w.heap.size _ _ := ⟨_, _, rfl, hX, hY⟩; clear hX hY; replace ZR := cmb_sz (op := 2) (.inl rfl) ZR ZS2 (by decide) (by decide); replace SR := SqR.cmb (op := 2) SR SS2; replace K0 := ST.blk K0 n01; replace KI := ST.blk KI nI; replace KF := ST.blk KF nF; replace KO := KO2; replace HO := HO2; replace HB := HB2; clear KO2 HO2 HB2 HRD)); (try replace K0 := K0.below hb); (try replace KI := KI.below hb); (try replace KF := KF.below hb); (try replace KO := KO.below hb); (try replace HO := HO.below hb); (try replace HB := bZs HB hb); replace pc0 := K0.c0; replace pc1 := K0.c1; replace pc2 := K0.c2; replace pc3 := K0.c3; replace pc4 := K0.c4; replace pc5 := K0.c5; replace pc6 := K0.c6; replace pc7 := K0.c7; replace pc16 := K0.c16; replace pc17 := K0.c17; replace ic0 := KI.c0; replace ic1 := KI.c1; replace ic2 := KI.c2; replace ic3 := KI.c3; replace ic4 := KI.c4; replace ic5 := KI.c5; replace ic6 := KI.c6; replace ic7 := KI.c7; replace fc0 := KF.c0; replace fc1 := KF.c1; replace fc2 := KF.c2; replace fc3 := KF.c3; replace fc4 := KF.c4; replace fc5 := KF.c5; replace fc6 := KF.c6; replace fc7 := KF.c7; (try clear hb))
   have LTo := KO.lt
   have nS : v4.heap.size ≠ w.heap.size + 1 := by omega
   have nY : v4.heap.size + 1 ≠ w.heap.size + 1 := by omega
   clear LTo
   obtain ⟨hbS, KS, KY⟩ := news2 v4 #[.string f1, .string f2, .string h1, .string h2] 25 #[.string f1, .string f2] 25
   have yc0 := KY.cell 0
   have yc1 := KY.cell 1
   replace K0 := K0.below hbS
   replace KI := KI.below hbS
   replace KF := KF.below hbS
   replace KO := KO.below hbS
   replace HO := HO.below hbS
   replace HB := bZs HB hbS
   replace pc0 := K0.c0
   replace pc1 := K0.c1
   replace pc2 := K0.c2
   replace pc3 := K0.c3
   replace pc4 := K0.c4
   replace pc5 := K0.c5
   replace pc6 := K0.c6
   replace pc7 := K0.c7
   replace pc16 := K0.c16
   replace pc17 := K0.c17
   replace ic0 := KI.c0
   replace ic1 := KI.c1
   replace ic2 := KI.c2
   replace ic3 := KI.c3
   replace ic4 := KI.c4
   replace ic5 := KI.c5
   replace ic6 := KI.c6
   replace ic7 := KI.c7
   replace fc0 := KF.c0
   replace fc1 := KF.c1
   replace fc2 := KF.c2
   replace fc3 := KF.c3
   replace fc4 := KF.c4
   replace fc5 := KF.c5
   replace fc6 := KF.c6
   replace fc7 := KF.c7
   clear hbS
   refine wp_loop_rounds 3 ?_
   rw [rounds_succ]
   go_wp2_with ((first | (go_at_call 89; clear TK5; refine (RC3 _ (hp.below HB)).mono ?_; rintro e v5 ⟨vr, rfl, ⟨xa, ya, rfl, HX, HY⟩, hb⟩; obtain ⟨XA, xc, ex⟩ := Kd.R_slice HX; obtain ⟨YA, yc, ey⟩ := Kd.R_slice HY; subst ex ey; have HRD : RdR v5 (.agg #[.slice XA R3.1.length xc, .slice YA R3.2.length yc]) R3 := ⟨_, _, rfl, HX.rd, HY.rd⟩; clear HX HY) | (go_at_call 85; clear TK6; refine (pl_add w (w.heap.size + 1) _ _ _ R3 _ (hp.below HB) _ _ rfl KO HO HRD ZR ZS3 SR SS3 NE3 (by decide) (by decide) hle1 HB).mono ?_; rintro e v6 ⟨u1, u2, rfl, KO2, HO2, HB2, ST⟩; obtain ⟨x, y, ev, hX, hY⟩ := HO2; obtain ⟨XA, xc, ex⟩ := Kd.R_slice hX; obtain ⟨YA, yc, ey⟩ := Kd.R_slice hY; subst ex ey; injection ev with ev; simp only [Array.mk.injEq, List.cons.injEq, and_true] at ev; obtain ⟨rfl, rfl⟩ := ev; have HO2 : OwnR v6 w.heap.size _ _ := ⟨_, _, rfl, hX, hY⟩; clear hX hY; replace ZR := cmb_sz (op := 2) (.inl rfl) ZR ZS3 (by decide) (by decide); replace SR := SqR.cmb (op := 2) SR SS3; replace K0 := ST.blk K0 n01; replace KI := ST.blk KI nI; replace KF := ST.blk KF nF; replace KS := ST.blk KS nS; replace KY := ST.blk KY nY; replace KO := KO2; replace HO := HO2; replace HB := HB2; clear KO2 HO2 HB2 HRD) | (go_at_call 74; clear TK7; refine (WI _ (hp.below HB)).mono ?_; rintro e _ ⟨rfl, hb⟩) | (go_at_call 75; clear TK8; refine (HI _ (hp.below HB)).mono ?_; rintro e v8 ⟨rfl, hb⟩)); (try replace K0 := K0.below hb); (try replace KI := KI.below hb); (try replace KF := KF.below hb); (try replace KO := KO.below hb); (try replace HO := HO.below hb); (try replace HB := bZs HB hb); (try replace KS := KS.below hb); (try replace KY := KY.below hb); replace yc0 := KY.c0; replace yc1 := KY.c1; replace pc0 := K0.c0; replace pc1 := K0.c1; replace pc2 := K0.c2; replace pc3 := K0.c3; replace pc4 := K0.c4; replace pc5 := K0.c5; replace pc6 := K0.c6; replace pc7 := K0.c7; replace pc16 := K0.c16; replace pc17 := K0.c17; replace ic0 := KI.c0; replace ic1 := KI.c1; replace ic2 := KI.c2; replace ic3 := KI.c3; replace ic4 := KI.c4; replace ic5 := KI.c5; replace ic6 := KI.c6; replace ic7 := KI.c7; replace fc0 := KF.c0; replace fc1 := KF.c1; replace fc2 := KF.c2; replace fc3 := KF.c3; replace fc4 := KF.c4; replace fc5 := KF.c5; replace fc6 := KF.c6; replace fc7 := KF.c7; (try clear hb))
   have kz2 : World.cell? v8 ⟨v4.heap.size, 2, none⟩ = some (.string h1) := KS.cell 2
   have kz3 : World.cell? v8 ⟨v4.heap.size, 3, none⟩ = some (.string h2) := KS.cell 3
   have LTo := KO.lt
   have nY2 : v8.heap.size ≠ w.heap.size + 1 := by omega
   clear LTo nY KY yc0 yc1
   obtain ⟨hbS, KY⟩ := news1 v8 #[.string h1, .string h2] 25
   have nY := nY2
   have yc0 := KY.cell 0
   have yc1 := KY.cell 1
   replace KS := KS.below hbS
   replace K0 := K0.below hbS
   replace KI := KI.below hbS
   replace KF := KF.below hbS
   replace KO := KO.below hbS
   replace HO := HO.below hbS
   replace HB := bZs HB hbS
   replace pc0 := K0.c0
   replace pc1 := K0.c1
   replace pc2 := K0.c2
   replace pc3 := K0.c3
   replace pc4 := K0.c4
   replace pc5 := K0.c5
   replace pc6 := K0.c6
   replace pc7 := K0.c7
   replace pc16 := K0.c16
   replace pc17 := K0.c17
   replace ic0 := KI.c0
   replace ic1 := KI.c1
   replace ic2 := KI.c2
   replace ic3 := KI.c3
   replace ic4 := KI.c4
   replace ic5 := KI.c5
   replace ic6 := KI.c6
   replace ic7 := KI.c7
   replace fc0 := KF.c0
   replace fc1 := KF.c1
   replace fc2 := KF.c2
   replace fc3 := KF.c3
   replace fc4 := KF.c4
   replace fc5 := KF.c5
   replace fc6 := KF.c6
   replace fc7 := KF.c7
   clear hbS
   rw [rounds_succ]
   go_wp2_with ((first | (go_at_call 89; clear TK9; refine (RC5 _ (hp.below HB)).mono ?_; rintro e v9 ⟨vr, rfl, ⟨xa, ya, rfl, HX, HY⟩, hb⟩; obtain ⟨XA, xc, ex⟩ := Kd.R_slice HX; obtain ⟨YA, yc, ey⟩ := Kd.R_slice HY; subst ex ey; have HRD : RdR v9 (.agg #[.slice XA R5.1.length xc, .slice YA R5.2.length yc]) R5 := ⟨_, _, rfl, HX.rd, HY.rd⟩; clear HX HY) | (go_at_call 85; clear TK10; refine (pl_add w (w.heap.size + 1) _ _ _ R5 _ (hp.below HB) _ _ rfl KO HO HRD ZR ZS5 SR SS5 NE5 (by decide) (by decide) hle1 HB).mono ?_; rintro e v10 ⟨u1, u2, rfl, KO2, HO2, HB2, ST⟩; obtain ⟨x, y, ev, hX, hY⟩ := HO2; obtain ⟨XA, xc, ex⟩ := Kd.R_slice hX; obtain ⟨YA, yc, ey⟩ := Kd.R_slice hY; subst ex ey; injection ev with ev; simp only [Array.mk.injEq, List.cons.injEq, and_true] at ev; obtain ⟨rfl, rfl⟩ := ev; have HO2 : OwnR v10 w.heap.size _ _ := ⟨_, _, rfl, hX, hY⟩; clear hX hY; replace ZR := cmb_sz (op := 2) (.inl rfl) ZR ZS5 (by decide) (by decide); replace SR := SqR.cmb (op := 2) SR SS5; replace K0 := ST.blk K0 n01; replace KI := ST.blk KI nI; replace KF := ST.blk KF nF; replace KS := ST.blk KS nS; replace KY := ST.blk KY nY; replace KO := KO2; replace HO := HO2; replace HB := HB2; clear KO2 HO2 HB2 HRD) | (go_at_call 74; clear TK11; refine (WI _ (hp.below HB)).mono ?_; rintro e _ ⟨rfl, hb⟩) | (go_at_call 75; clear TK12; refine (HI _ (hp.below HB)).mono ?_; rintro e _ ⟨rfl, hb⟩)); (try replace K0 := K0.below hb); (try replace KI := KI.below hb); (try replace KF := KF.below hb); (try replace KO := KO.below hb); (try replace HO := HO.below hb); (try replace HB := bZs HB hb); (try replace KS := KS.below hb); (try replace KY := KY.below hb); replace yc0 := KY.c0; replace yc1 := KY.c1; replace pc0 := K0.c0; replace pc1 := K0.c1; replace pc2 := K0.c2; replace pc3 := K0.c3; replace pc4 := K0.c4; replace pc5 := K0.c5; replace pc6 := K0.c6; replace pc7 := K0.c7; replace pc16 := K0.c16; replace pc17 := K0.c17; replace ic0 := KI.c0; replace ic1 := KI.c1; replace ic2 := KI.c2; replace ic3 := KI.c3; replace ic4 := KI.c4; replace ic5 := KI.c5; replace ic6 := KI.c6; replace ic7 := KI.c7; replace fc0 := KF.c0; replace fc1 := KF.c1; replace fc2 := KF.c2; replace fc3 := KF.c3; replace fc4 := KF.c4; replace fc5 := KF.c5; replace fc6 := KF.c6; replace fc7 := KF.c7; (try clear hb))
   obtain ⟨o0, o1, z0, z1⟩ := KO.two
   rw [rounds_succ]
   go_wp2
   have h9 := OwnR.set (OwnR.set HO KO (by decide) (by decide) 0 (.slice XA (Prod.fst (cmb 2 (cmb 2 (cmb 2 ([], []) R2) R3) R5)).length xc)) (KO.set 0 _) (by decide) (by decide) 1 (.slice YA (Prod.snd (cmb 2 (cmb 2 (cmb 2 ([], []) R2) R3) R5)).length yc)
   refine bodyPost_ret (rZs rfl (.cell (w.heap.size + 1) 42 #[.slice XA (Prod.fst (cmb 2 (cmb 2 (cmb 2 ([], []) R2) R3) R5)).length xc, .slice YA (Prod.snd (cmb 2 (cmb 2 (cmb 2 ([], []) R2) R3) R5)).length yc] (0, 0) _ rfl ((KO.set 0 _).set 1 _) Tryz.underlying42 rfl (by kernel_rfl) .nil)) rfl ?_
   exact ⟨_, rfl, h9, bZe (bZe HB hle1) hle1⟩
  | false =>
   clear RC1' RC2'
   have TK1 : True := trivial
   have TK2 : True := trivial
   have TK3 : True := trivial
   have TK4 : True := trivial
   have TK5 : True := trivial
   have TK6 : True := trivial
   go_wp2_with ((first | (go_at_call 74; clear TK1; refine (WI _ (hp.below HB)).mono ?_; rintro e _ ⟨rfl, hb⟩) | (go_at_call 75; clear TK2; refine (HI _ (hp.below HB)).mono ?_; rintro e v2 ⟨rfl, hb⟩)); replace K0 := K0.below hb; replace KI := KI.below hb; replace KF := KF.below hb; replace KO := KO.below hb; replace HO := HO.below hb; replace HB := bZs HB hb; replace pc0 := K0.c0; replace pc1 := K0.c1; replace pc2 := K0.c2; replace pc3 := K0.c3; replace pc4 := K0.c4; replace pc5 := K0.c5; replace pc6 := K0.c6; replace pc7 := K0.c7; replace pc16 := K0.c16; replace pc17 := K0.c17; replace ic0 := KI.c0; replace ic1 := KI.c1; replace ic2 := KI.c2; replace ic3 := KI.c3; replace ic4 := KI.c4; replace ic5 := KI.c5; replace ic6 := KI.c6; replace ic7 := KI.c7; replace fc0 := KF.c0; replace fc1 := KF.c1; replace fc2 := KF.c2; replace fc3 := KF.c3; replace fc4 := KF.c4; replace fc5 := KF.c5; replace fc6 := KF.c6; replace fc7 := KF.c7; clear hb)
   have LTo := KO.lt
   have nS : v2.heap.size ≠ w.heap.size + 1 := by omega
   have nY : v2.heap.size + 1 ≠ w.heap.size + 1 := by omega
   clear LTo
   obtain ⟨hbS, KS, KY⟩ := news2 v2 #[.string f1, .string f2, .string h1, .string h2] 25 #[.string f1, .string f2] 25
   have yc0 := KY.cell 0
   have yc1 := KY.cell 1
   replace K0 := K0.below hbS
   replace KI := KI.below hbS
   replace KF := KF.below hbS
   replace KO := KO.below hbS
   replace HO := HO.below hbS
   replace HB := bZs HB hbS
   replace pc0 := K0.c0
   replace pc1 := K0.c1
   replace pc2 := K0.c2
   replace pc3 := K0.c3
   replace pc4 := K0.c4
   replace pc5 := K0.c5
   replace pc6 := K0.c6
   replace pc7 := K0.c7
   replace pc16 := K0.c16
   replace pc17 := K0.c17
   replace ic0 := KI.c0
   replace ic1 := KI.c1
   replace ic2 := KI.c2
   replace ic3 := KI.c3
   replace ic4 := KI.c4
   replace ic5 := KI.c5
   replace ic6 := KI.c6
   replace ic7 := KI.c7
   replace fc0 := KF.c0
   replace fc1 := KF.c1
   replace fc2 := KF.c2
   replace fc3 := KF.c3
   replace fc4 := KF.c4
   replace fc5 := KF.c5
   replace fc6 := KF.c6
   replace fc7 := KF.c7
   clear hbS
   refine wp_loop_rounds 1 ?_
   rw [rounds_succ]
   go_wp2_with ((first | (go_at_call 89; clear TK3; refine (RC3 _ (hp.below HB)).mono ?_; rintro e v3 ⟨vr, rfl, ⟨xa, ya, rfl, HX, HY⟩, hb⟩; obtain ⟨XA, xc, ex⟩ := Kd.R_slice HX; obtain ⟨YA, yc, ey⟩ := Kd.R_slice HY; subst ex ey; have HRD : RdR v3 (.agg #[.slice XA R3.1.length xc, .slice YA R3.2.length yc]) R3 := ⟨_, _, rfl, HX.rd, HY.rd⟩; clear HX HY) | (go_at_call 85; clear TK4; refine (pl_add w (w.heap.size + 1) _ _ _ R3 _ (hp.below HB) _ _ rfl KO HO HRD ZR ZS3 SR SS3 NE3 (by decide) (by decide) hle1 HB).mono ?_; rintro e v4 ⟨u1, u2, rfl, KO2, HO2, HB2, ST⟩; obtain ⟨x, y, ev, hX, hY⟩ := HO2; obtain ⟨XA, xc, ex⟩ := Kd.R_slice hX; obtain ⟨YA, yc, ey⟩ := Kd.R_slice hY; subst ex ey; injection ev with ev; simp only [Array.mk.injEq, List.cons.injEq, and_true] at ev; obtain ⟨rfl, rfl⟩ := ev; have HO2 : OwnR v4 w.heap.size _ _ := ⟨_, _, rfl, hX, hY⟩; clear hX hY; replace ZR := cmb_sz (op := 2) (.inl rfl) ZR ZS3 (by decide) (by decide); replace SR := SqR.cmb (op := 2) SR SS3; replace K0 := ST.blk K0 n01; replace KI := ST.blk KI nI; replace KF := ST.blk KF nF; replace KS := ST.blk KS nS; replace KY := ST.blk KY nY; replace KO := KO2; replace HO := HO2; replace HB := HB2; clear KO2 HO2 HB2 HRD) | (go_at_call 74; clear TK5; refine (WI _ (hp.below HB)).mono ?_; rintro e _ ⟨rfl, hb⟩) | (go_at_call 75; clear TK6; refine (HI _ (hp.below HB)).mono ?_; rintro e _ ⟨rfl, hb⟩; replace KO := KO.below hb; obtain ⟨o0, o1, z0, z1⟩ := KO.two)); (try replace K0 := K0.below hb); (try replace KI := KI.below hb); (try replace KF := KF.below hb); (try replace KO := KO.below hb); (try replace HO := HO.below hb); (try replace HB := bZs HB hb); (try replace KS := KS.below hb); (try replace KY := KY.below hb); replace yc0 := KY.c0; replace yc1 := KY.c1; replace pc0 := K0.c0; replace pc1 := K0.c1; replace pc2 := K0.c2; replace pc3 := K0.c3; replace pc4 := K0.c4; replace pc5 := K0.c5; replace pc6 := K0.c6; replace pc7 := K0.c7; replace pc16 := K0.c16; replace pc17 := K0.c17; replace ic0 := KI.c0; replace ic1 := KI.c1; replace ic2 := KI.c2; replace ic3 := KI.c3; replace ic4 := KI.c4; replace ic5 := KI.c5; replace ic6 := KI.c6; replace ic7 := KI.c7; replace fc0 := KF.c0; replace fc1 := KF.c1; replace fc2 := KF.c2; replace fc3 := KF.c3; replace fc4 := KF.c4; replace fc5 := KF.c5; replace fc6 := KF.c6; replace fc7 := KF.c7; (try clear hb))
   have h9 := OwnR.set (OwnR.set HO KO (by decide) (by decide) 0 (.slice XA (Prod.fst (cmb 2 ([], []) R3)).length xc)) (KO.set 0 _) (by decide) (by decide) 1 (.slice YA (Prod.snd (cmb 2 ([], []) R3)).length yc)
   refine bodyPost_ret (rZs rfl (.cell (w.heap.size + 1) 42 #[.slice XA (Prod.fst (cmb 2 ([], []) R3)).length xc, .slice YA (Prod.snd (cmb 2 ([], []) R3)).length yc] (0, 0) _ rfl ((KO.set 0 _).set 1 _) Tryz.underlying42 rfl (by kernel_rfl) .nil)) rfl ?_
   exact ⟨_, rfl, h9, bZe (bZe HB hle1) hle1⟩
end Go.Proofs.YtociicfjhgfgpaaGreatDoor

/- mill: track of a pass that is longer than a point: the walk. -/
import Derived.Test.YtociicfjhgfgpaaGreatDoorR42
import Derived.Test.YtociicfjhgfgpaaGreatDoorR35
set_option linter.unusedVariables false
set_option linter.unusedSimpArgs false
set_option maxHeartbeats 32000000
set_option maxRecDepth 100000
namespace Go.Proofs.YtociicfjhgfgpaaGreatDoor
open Go.RowKit Go.Shelf Go.Lib Go.Proofs.YtociicfjhgfgpaaGreatDoorW.PrintWords
section
variable {P : Program} {md : Region.Mode} {ops : Array Oper} {Q : Exit → Act → World → Prop} {C : World → Prop} {ex : Nat → Bool}
theorem wpAnyC_ta (i : Nat) {oi : Oper} {fuel : Nat} {listed : Array Bool} {a a2 : Act} {w : World} {v : Value} (hC : C w) (h1 : ∀ w, C w → (execOp a.eval oi).run P w = .ok (.value v) w) (h2 : a.put oi.dst v = a2) (h3 : wpAnyC P md ops Q C ex fuel (listed.setIfInBounds i true) a2 w)
  (hi : ops[i]? = some oi := by exact rfl) (hs : Region.noSelect ops = true := by kernel_rfl) (hf : Region.free md ops listed i = true := by kernel_rfl) (hr : (Region.ready md ops listed).contains i = true := by kernel_rfl) (hl : lateOn md ops ex i = true := by kernel_rfl)
  (hQ : ∀ v c a w, Q (.panic c) (a.put oi.dst v) w → Q (.panic c) a w := by exact fun _ _ _ _ h => h) (hw : Region.wanted oi (yielded ops a.tmps) = true := by rfl) : wpAnyC P md ops Q C ex (fuel + 1) listed a w :=
 wZt hi hs hf hr hl hQ hC hw ⟨v, h1, h2 ▸ h3⟩
end
theorem ml_track (a b c d z r t : Rat) (B0 : Rg) (w : World) (hp : Pow w) (ha : Sq a) (hb' : Sq b) (hc : Sq c) (hd : Sq d) (hr : Sq r) (hr40 : Sm 40 r) (h0 : 0 < r) (hne : ¬ (b = d ∧ a = c)) (zB : szR 4 7 B0) (sB : SqR B0)
  (BX : ∀ W, Pow W → Calls Tryz.prog 216 #[tlv r t, psv a b c d z] W fun e w' => ∃ v, e = .returned v ∧ OwnR w' W.heap.size v B0 ∧ Below W.heap.size W w') :
  Calls Tryz.prog 184 #[tlv r t, psv a b c d z] w fun e w' => ∃ v, e = .returned v ∧ OwnR w' w.heap.size v (cmb 2 (cmb 2 B0 (discR a b r)) (discR c d r)) ∧ Below w.heap.size w w' := by
 have DC1 := fun W hp => rg_Disc a b r W hp ha hb' hr h0
 have DC2 := fun W hp => rg_Disc c d r W hp hc hd hr h0
 have z1 := sz_disc a b h0
 have z2 := sz_disc c d h0
 have q1 := sq_disc ha hb' hr40
 have q2 := sq_disc hc hd hr40
 have zU := cmb_sz (op := 2) (.inl rfl) zB z1 (by decide) (by decide)
 have qU := SqR.cmb (op := 2) sB q1
 have zW := cmb_sz (op := 2) (.inl rfl) zU z2 (by decide) (by decide)
 have n1 := disc_ne a b r
 have n2 := disc_ne c d r
 have UN1 := fun va vb W hp hva hvb => rg_Union va vb B0 (discR a b r) W hp hva hvb zB.1 z1.1 sB q1 n1 (Nat.le_trans zU.2.1 (by decide)) (Nat.le_trans zU.2.2 (by decide))
 have UN2 := fun va vb W hp hva hvb => rg_Union va vb (cmb 2 B0 (discR a b r)) (discR c d r) W hp hva hvb zU.1 z2.1 qU q2 n2 (Nat.le_trans zW.2.1 (by decide)) (Nat.le_trans zW.2.2 (by decide))
 have HH := fun W => ml_isHorizontal a b c d z W
 have VV := fun W => ml_isVertical a b c d z W
 have hhv : decide (b = d) = false ∨ (decide (b = d) = true ∧ decide (a = c) = false) := by
  rcases Classical.em (b = d) with e | e
  ·exact .inr ⟨decide_eq_true e, decide_eq_false (fun h => hne ⟨e, h⟩)⟩
  ·exact .inl (decide_eq_false e)
 have MU := fun A m c B k d W => ml_mustR A B m c k d W
 clear ha hb' hc hd hr hr40 h0 hne zB sB z1 z2 q1 q2 zU qU zW n1 n2
 generalize cmb 2 (cmb 2 B0 (discR a b r)) (discR c d r) = U2 at *
 generalize cmb 2 B0 (discR a b r) = U1 at *
 generalize discR a b r = D1 at *
 generalize discR c d r = D2 at *
 unfold rv tlv psv at *
 generalize decide (b = d) = fh at *
 generalize decide (a = c) = fv at *
 generalize itx a.num = a1 at *
 generalize itx (a.den : Int) = a2 at *
 generalize itx b.num = b1 at *
 generalize itx (b.den : Int) = b2 at *
 generalize itx c.num = c1 at *
 generalize itx (c.den : Int) = c2 at *
 generalize itx d.num = d1 at *
 generalize itx (d.den : Int) = d2 at *
 generalize itx z.num = z1 at *
 generalize itx (z.den : Int) = z2 at *
 generalize itx r.num = r1 at *
 generalize itx (r.den : Int) = r2 at *
 generalize itx t.num = t1 at *
 generalize itx (t.den : Int) = t2 at *
 obtain ⟨hB0, k0, k1, k2⟩ := news3 w #[.string r1, .string r2, .string t1, .string t2] 110 #[.string a1, .string a2, .string b1, .string b2, .string c1, .string c2, .string d1, .string d2, .string z1, .string z2] 234 #[.slice none 0 0, .slice none 0 0] 42
 have c0 := k1.c0
 have c1 := k1.c1
 have c2 := k1.c2
 have c3 := k1.c3
 have c4 := k1.c4
 have c5 := k1.c5
 have c6 := k1.c6
 have c7 := k1.c7
 have c8 := k1.c8
 have c9 := k1.c9
 have r0 := k0.c0
 have r1 := k0.c1
 have r2 := k0.c2
 have r3 := k0.c3
 have TK1 : True := trivial
 have TK2 : True := trivial
 have TK3 : True := trivial
 go_enter Tryz.func184, Tryz.ntmps184
 rcases hhv with rfl | ⟨rfl, rfl⟩
 ·go_wp2_with ((first | (go_at_call 89; clear TK1; refine (DC1 _ (hp.below hB0)).mono ?_; clear DC1; rintro e w1 ⟨nv, rfl, ⟨x, y, rfl, HX, HY⟩, hb⟩; obtain ⟨XA, XAc, ex⟩ := Kd.R_slice HX; obtain ⟨YA, YAc, ey⟩ := Kd.R_slice HY; subst ex ey; have R1 : OwnR w1 w.heap.size (.agg #[.slice XA D1.1.length XAc, .slice YA D1.2.length YAc]) D1 := ⟨_, _, rfl, Kd.R_lower HX (bZz hB0), Kd.R_lower HY (bZz hB0)⟩) | (go_at_call 215; clear TK2; refine (MU _ _ _ _ _ _ _).mono ?_; rintro e w2 ⟨rfl, hb⟩; replace hb := bZa hb (.cells #[.slice XA D1.1.length XAc, .slice YA D1.2.length YAc] 42); replace k1 := k1.below hb; have KF := Blk.new w2 #[.slice XA D1.1.length XAc, .slice YA D1.2.length YAc] 42; replace c0 := k1.c0; replace c1 := k1.c1; have s0 := KF.c0; have s1 := KF.c1) | (go_at_call 212; clear TK3; refine (HH _).mono ?_; clear HH; rintro e w3 ⟨rfl, hb⟩; replace k1 := k1.below hb; replace KF := KF.below hb; replace c0 := k1.c0; replace c1 := k1.c1; replace s0 := KF.c0; replace s1 := KF.c1) | (go_at_call 216; refine (BX _ (hp.below hB0)).mono ?_; clear BX; rintro e w5 ⟨nv, rfl, ⟨x, y, rfl, HX, HY⟩, hb⟩; obtain ⟨XB, XBc, ex⟩ := Kd.R_slice HX; obtain ⟨YB, YBc, ey⟩ := Kd.R_slice HY; subst ex ey; have HBX : OwnR w5 w.heap.size (.agg #[.slice XB B0.1.length XBc, .slice YB B0.2.length YBc]) B0 := ⟨_, _, rfl, Kd.R_lower HX (bZz hB0), Kd.R_lower HY (bZz hB0)⟩)); (try clear HX HY); replace k0 := k0.below hb; (try replace k1 := k1.below hb); replace k2 := k2.below hb; (try replace KF := KF.below hb); (try replace R1 := R1.below hb); replace hB0 := bZs hB0 hb; clear hb; (try replace c2 := k1.c2); (try replace c3 := k1.c3); (try replace c4 := k1.c4); (try replace c5 := k1.c5); (try replace c6 := k1.c6); (try replace c7 := k1.c7); (try replace c8 := k1.c8); (try replace c9 := k1.c9); (try replace r0 := k0.c0); (try replace r1 := k0.c1); (try replace r2 := k0.c2); (try replace r3 := k0.c3))
  have KO := Blk.new w5 #[.slice XB B0.1.length XBc, .slice YB B0.2.length YBc] 42
  have hbx := bZa (Below.refl w5.heap.size w5) (.cells #[.slice XB B0.1.length XBc, .slice YB B0.2.length YBc] 42)
  have n2O := Nat.ne_of_lt k2.lt
  have hleO := bZz hB0
  replace k0 := k0.below hbx
  replace k1 := k1.below hbx
  replace k2 := k2.below hbx
  replace KF := KF.below hbx
  replace R1 := R1.below hbx
  replace HBX := HBX.below hbx
  replace hB0 := bZs hB0 hbx
  clear hbx
  generalize (w5.alloc (.cells #[.slice XB B0.1.length XBc, .slice YB B0.2.length YBc] 42)) = w6 at *
  have hb1 := bZd hB0
  have S0 := k0.drew
  have S1 := k1.drew
  have S2 := k2.drew
  have SF := KF.drew
  have SO := KO.drew
  have T1 := R1.below (bZd (Below.refl w6.heap.size w6))
  have T2 := HBX.below (bZd (Below.refl w6.heap.size w6))
  clear k0 k1 k2 KF KO R1 HBX hB0 c0 c1 c2 c3 c4 c5 c6 c7 c8 c9 r0 r1 r2 r3 s0 s1
  have hC0 := Below.refl w6.drew.heap.size w6.drew
  refine wp_region_C (fun _ => false) (fun W => Below w6.drew.heap.size w6.drew W) (by kernel_rfl) ?_
  apply wpAnyC_ta 0 hC0
  ·intro W hW
   have e0 := (SF.below hW).c0; have e1 := (SF.below hW).c1; go_simp
   try rfl
  ·go_simp
   try rfl
  apply wpAnyC_ta 1 hC0
  ·intro W hW
   go_simp
   try rfl
  ·go_simp
   try rfl
  apply wpAnyC_ta 2 hC0
  ·intro W hW
   go_simp
   try rfl
  ·go_simp
   try rfl
  apply wpAnyC_ta 3 hC0
  ·intro W hW
   have e4 := (S1.below hW).c4; have e5 := (S1.below hW).c5; go_simp
   try rfl
  ·go_simp
   try rfl
  apply wpAnyC_ta 4 hC0
  ·intro W hW
   go_simp
   try rfl
  ·go_simp
   try rfl
  apply wpAnyC_ta 5 hC0
  ·intro W hW
   go_simp
   try rfl
  ·go_simp
   try rfl
  apply wpAnyC_ta 6 hC0
  ·intro W hW
   have e6 := (S1.below hW).c6; have e7 := (S1.below hW).c7; go_simp
   try rfl
  ·go_simp
   try rfl
  apply wpAnyC_ta 7 hC0
  ·intro W hW
   go_simp
   try rfl
  ·go_simp
   try rfl
  apply wpAnyC_ta 8 hC0
  ·intro W hW
   have e0 := (S0.below hW).c0; have e1 := (S0.below hW).c1; go_simp
   try rfl
  ·go_simp
   try rfl
  apply wpAnyC_ta 15 hC0
  ·intro W hW
   go_simp
   try rfl
  ·go_simp
   try rfl
  have R1 := DC2 w6.drew (hp.below hb1)
  refine wZs (i := 9) (by kernel_rfl) rfl (fun K hK => ?_)
  go_simp
  go_at_call 89
  refine R1.mono ?_
  rintro e w9 ⟨nv, rfl, ⟨x, y, rfl, HX, HY⟩, hb9⟩
  obtain ⟨XC, XCc, ex⟩ := Kd.R_slice HX; obtain ⟨YC, YCc, ey⟩ := Kd.R_slice HY; subst ex ey
  refine hK _ _ (fun _ => hb9) ?_
  clear hK K R1 DC2
  have R2 : OwnR w9 w.heap.size (.agg #[.slice XC D2.1.length XCc, .slice YC D2.2.length YCc]) D2 := ⟨_, _, rfl, Kd.R_lower HX (bZz hb1), Kd.R_lower HY (bZz hb1)⟩
  clear HX HY
  have hbA := hb9
  apply wpAnyC_ta 10 hb9
  ·intro W hW
   go_simp
   try rfl
  ·go_simp
   try rfl
  apply wpAnyC_ta 11 hb9
  ·intro W hW
   go_simp
   try rfl
  ·go_simp
   try rfl
  refine wZs (i := 12) (by kernel_rfl) rfl (fun K hK => ?_)
  go_simp
  go_at_call 215
  refine (MU _ _ _ _ _ _ _).mono ?_
  rintro e w10 ⟨rfl, hb10⟩
  refine hK _ _ (fun _ => bZs hb9 hb10) ?_
  clear hK K
  refine wZs (i := 13) (by kernel_rfl) rfl (fun K hK => ?_)
  go_simp
  refine hK _ _ (fun _ => bZa (bZs hb9 hb10) _) ?_
  clear hK K
  refine wZs (i := 14) (by kernel_rfl) rfl (fun K hK => ?_)
  go_simp
  refine hK _ _ (fun _ => bZa (bZs hb9 hb10) _) ?_
  clear hK K
  refine wpAnyC_done (by kernel_rfl) ?_ _
  have hbx := bZa (bZs hbA hb10) (.cells #[.slice XA D1.1.length XAc, .slice YA D1.2.length YAc, .slice XC D2.1.length XCc, .slice YC D2.2.length YCc] 42)
  have hby := bZa hb10 (.cells #[.slice XA D1.1.length XAc, .slice YA D1.2.length YAc, .slice XC D2.1.length XCc, .slice YC D2.2.length YCc] 42)
  have k2 := S2.below hbx
  have KO := SO.below hbx
  have P1 := T1.below hbx
  have HO := T2.below hbx
  have P2 := R2.below hby
  have HB := bZs hb1 hbx
  have KL := Blk.new w10 #[.slice XA D1.1.length XAc, .slice YA D1.2.length YAc, .slice XC D2.1.length XCc, .slice YC D2.2.length YCc] 42
  have nLO : w10.heap.size ≠ w5.heap.size := by
   have h1 := (SO.below (bZs hbA hb10)).lt
   exact Nat.ne_of_gt h1
  clear S0 S1 S2 SF SO T1 T2 R2 hb9 hb10 hbA hbx hby hb1 hC0
  generalize (w10.alloc (.cells #[.slice XA D1.1.length XAc, .slice YA D1.2.length YAc, .slice XC D2.1.length XCc, .slice YC D2.2.length YCc] 42)) = x0 at *
  go_wp2
  have hbV := bZa (Below.refl x0.heap.size x0) (.cells #[.slice XA D1.1.length XAc, .slice YA D1.2.length YAc] 42)
  have l0 := KL.c0
  have l1 := KL.c1
  replace KO := KO.below hbV
  replace KL := KL.below hbV
  replace k2 := k2.below hbV
  replace HO := HO.below hbV
  replace P1 := P1.below hbV
  replace P2 := P2.below hbV
  replace HB := bZs HB hbV
  clear hbV
  have o0 := KO.c0
  have o1 := KO.c1
  have TK1 : True := trivial
  have TK2 : True := trivial
  refine wp_loop_rounds 3 ?_
  rw [rounds_succ]
  go_wp2_with ((first | (go_at_call 87; clear TK1; refine (UN1 _ _ _ (hp.below HB) HO.rd P1.rd).mono ?_; clear UN1 HO P1; rintro e v1 ⟨nv, rfl, ⟨x, y, rfl, HX, HY⟩, hb⟩; obtain ⟨XD, XDc, ex⟩ := Kd.R_slice HX; obtain ⟨YD, YDc, ey⟩ := Kd.R_slice HY; subst ex ey; have HN : OwnR v1 w.heap.size (.agg #[.slice XD U1.1.length XDc, .slice YD U1.2.length YDc]) U1 := ⟨_, _, rfl, Kd.R_lower HX (bZz HB), Kd.R_lower HY (bZz HB)⟩; clear HX HY) | (go_at_call 215; clear TK2; refine (MU _ _ _ _ _ _ _).mono ?_; rintro e v2 ⟨rfl, hb⟩; replace KO := KO.below hb; replace HN := HN.below hb; obtain ⟨p0, p1, q0, q1⟩ := KO.two)); (try replace KO := KO.below hb); replace KL := KL.below hb; replace k2 := k2.below hb; replace P2 := P2.below hb; replace HB := bZs HB hb; clear hb)
  have KO2 : Blk ((v2.setCell ⟨w5.heap.size, 0, none⟩ (.slice XD U1.1.length XDc)).setCell ⟨w5.heap.size, 1, none⟩ (.slice YD U1.2.length YDc)) w5.heap.size #[.slice XD U1.1.length XDc, .slice YD U1.2.length YDc] 42 := (KO.set 0 (.slice XD U1.1.length XDc)).set 1 (.slice YD U1.2.length YDc)
  have HO := (HN.set KO (by decide) (by decide) 0 (.slice XD U1.1.length XDc)).set (KO.set 0 (.slice XD U1.1.length XDc)) (by decide) (by decide) 1 (.slice YD U1.2.length YDc)
  replace P2 := (P2.set KO (by decide) (by decide) 0 (.slice XD U1.1.length XDc)).set (KO.set 0 (.slice XD U1.1.length XDc)) (by decide) (by decide) 1 (.slice YD U1.2.length YDc)
  replace KL := (KL.far (p := ⟨w5.heap.size, 0, none⟩) nLO (.slice XD U1.1.length XDc)).far (p := ⟨w5.heap.size, 1, none⟩) nLO (.slice YD U1.2.length YDc)
  replace k2 := (k2.far (p := ⟨w5.heap.size, 0, none⟩) n2O (.slice XD U1.1.length XDc)).far (p := ⟨w5.heap.size, 1, none⟩) n2O (.slice YD U1.2.length YDc)
  replace HB := bZe (j := 1) (v := .slice YD U1.2.length YDc) (bZe (j := 0) (v := .slice XD U1.1.length XDc) HB hleO) hleO
  clear KO HN p0 p1 q0 q1 l0 l1 o0 o1
  generalize ((v2.setCell ⟨w5.heap.size, 0, none⟩ (.slice XD U1.1.length XDc)).setCell ⟨w5.heap.size, 1, none⟩ (.slice YD U1.2.length YDc)) = x1 at *
  have KO := KO2
  clear KO2
  have hbV := bZa (Below.refl x1.heap.size x1) (.cells #[.slice XC D2.1.length XCc, .slice YC D2.2.length YCc] 42)
  have l0 := KL.c2
  have l1 := KL.c3
  replace KO := KO.below hbV
  replace KL := KL.below hbV
  replace k2 := k2.below hbV
  replace HO := HO.below hbV
  replace P2 := P2.below hbV
  replace HB := bZs HB hbV
  clear hbV
  have o0 := KO.c0
  have o1 := KO.c1
  have TK1 : True := trivial
  have TK2 : True := trivial
  skip
  rw [rounds_succ]
  go_wp2_with ((first | (go_at_call 87; clear TK1; refine (UN2 _ _ _ (hp.below HB) HO.rd P2.rd).mono ?_; clear UN2 HO P2; rintro e v3 ⟨nv, rfl, ⟨x, y, rfl, HX, HY⟩, hb⟩; obtain ⟨XE, XEc, ex⟩ := Kd.R_slice HX; obtain ⟨YE, YEc, ey⟩ := Kd.R_slice HY; subst ex ey; have HN : OwnR v3 w.heap.size (.agg #[.slice XE U2.1.length XEc, .slice YE U2.2.length YEc]) U2 := ⟨_, _, rfl, Kd.R_lower HX (bZz HB), Kd.R_lower HY (bZz HB)⟩; clear HX HY) | (go_at_call 215; clear TK2; refine (MU _ _ _ _ _ _ _).mono ?_; rintro e v4 ⟨rfl, hb⟩; replace KO := KO.below hb; replace HN := HN.below hb; obtain ⟨p0, p1, q0, q1⟩ := KO.two)); (try replace KO := KO.below hb); replace KL := KL.below hb; replace k2 := k2.below hb; replace HB := bZs HB hb; clear hb)
  have KO2 : Blk ((v4.setCell ⟨w5.heap.size, 0, none⟩ (.slice XE U2.1.length XEc)).setCell ⟨w5.heap.size, 1, none⟩ (.slice YE U2.2.length YEc)) w5.heap.size #[.slice XE U2.1.length XEc, .slice YE U2.2.length YEc] 42 := (KO.set 0 (.slice XE U2.1.length XEc)).set 1 (.slice YE U2.2.length YEc)
  have HO := (HN.set KO (by decide) (by decide) 0 (.slice XE U2.1.length XEc)).set (KO.set 0 (.slice XE U2.1.length XEc)) (by decide) (by decide) 1 (.slice YE U2.2.length YEc)
  replace KL := (KL.far (p := ⟨w5.heap.size, 0, none⟩) nLO (.slice XE U2.1.length XEc)).far (p := ⟨w5.heap.size, 1, none⟩) nLO (.slice YE U2.2.length YEc)
  replace k2 := (k2.far (p := ⟨w5.heap.size, 0, none⟩) n2O (.slice XE U2.1.length XEc)).far (p := ⟨w5.heap.size, 1, none⟩) n2O (.slice YE U2.2.length YEc)
  replace HB := bZe (j := 1) (v := .slice YE U2.2.length YEc) (bZe (j := 0) (v := .slice XE U2.1.length XEc) HB hleO) hleO
  clear KO HN p0 p1 q0 q1 l0 l1 o0 o1
  generalize ((v4.setCell ⟨w5.heap.size, 0, none⟩ (.slice XE U2.1.length XEc)).setCell ⟨w5.heap.size, 1, none⟩ (.slice YE U2.2.length YEc)) = x2 at *
  have KO := KO2
  clear KO2
  have o0 := KO.c0
  have o1 := KO.c1
  obtain ⟨u0, u1, q0, q1⟩ := k2.two
  have hO2 := (HO.set k2 (by decide) (by decide) 0 (.slice XE U2.1.length XEc)).set (k2.set 0 _) (by decide) (by decide) 1 (.slice YE U2.2.length YEc)
  rw [rounds_succ]
  go_wp2
  refine bodyPost_ret (rZs rfl (.cell (w.heap.size + 2) 42 #[.slice XE U2.1.length XEc, .slice YE U2.2.length YEc] (0, 0) _ rfl ((k2.set 0 _).set 1 _) Tryz.underlying42 rfl (by kernel_rfl) .nil)) rfl ?_
  exact ⟨_, rfl, hO2, bZe (bZe HB (Nat.le_add_right w.heap.size 2)) (Nat.le_add_right w.heap.size 2)⟩
 ·go_wp2_with ((first | (go_at_call 89; clear TK1; refine (DC1 _ (hp.below hB0)).mono ?_; clear DC1; rintro e w1 ⟨nv, rfl, ⟨x, y, rfl, HX, HY⟩, hb⟩; obtain ⟨XA, XAc, ex⟩ := Kd.R_slice HX; obtain ⟨YA, YAc, ey⟩ := Kd.R_slice HY; subst ex ey; have R1 : OwnR w1 w.heap.size (.agg #[.slice XA D1.1.length XAc, .slice YA D1.2.length YAc]) D1 := ⟨_, _, rfl, Kd.R_lower HX (bZz hB0), Kd.R_lower HY (bZz hB0)⟩) | (go_at_call 215; clear TK2; refine (MU _ _ _ _ _ _ _).mono ?_; rintro e w2 ⟨rfl, hb⟩; replace hb := bZa hb (.cells #[.slice XA D1.1.length XAc, .slice YA D1.2.length YAc] 42); have KF := Blk.new w2 #[.slice XA D1.1.length XAc, .slice YA D1.2.length YAc] 42) | (go_at_call 212; clear TK3; refine (HH _).mono ?_; clear HH; rintro e _ ⟨rfl, hb⟩) | (go_at_call 213; refine (VV _).mono ?_; clear VV; rintro e _ ⟨rfl, hb⟩) | (go_at_call 216; refine (BX _ (hp.below hB0)).mono ?_; clear BX; rintro e w5 ⟨nv, rfl, ⟨x, y, rfl, HX, HY⟩, hb⟩; obtain ⟨XB, XBc, ex⟩ := Kd.R_slice HX; obtain ⟨YB, YBc, ey⟩ := Kd.R_slice HY; subst ex ey; have HBX : OwnR w5 w.heap.size (.agg #[.slice XB B0.1.length XBc, .slice YB B0.2.length YBc]) B0 := ⟨_, _, rfl, Kd.R_lower HX (bZz hB0), Kd.R_lower HY (bZz hB0)⟩)); (try clear HX HY); replace k0 := k0.below hb; replace k1 := k1.below hb; replace k2 := k2.below hb; (try replace KF := KF.below hb); (try replace R1 := R1.below hb); replace hB0 := bZs hB0 hb; clear hb; (try replace c0 := k1.c0); (try replace c1 := k1.c1); (try replace c2 := k1.c2); (try replace c3 := k1.c3); (try replace c4 := k1.c4); (try replace c5 := k1.c5); (try replace c6 := k1.c6); (try replace c7 := k1.c7); (try replace c8 := k1.c8); (try replace c9 := k1.c9); (try replace r0 := k0.c0); (try replace r1 := k0.c1); (try replace r2 := k0.c2); (try replace r3 := k0.c3); (try replace s0 := KF.c0); (try replace s1 := KF.c1))
  have KO := Blk.new w5 #[.slice XB B0.1.length XBc, .slice YB B0.2.length YBc] 42
  have hbx := bZa (Below.refl w5.heap.size w5) (.cells #[.slice XB B0.1.length XBc, .slice YB B0.2.length YBc] 42)
  have n2O := Nat.ne_of_lt k2.lt
  have hleO := bZz hB0
  replace k0 := k0.below hbx
  replace k1 := k1.below hbx
  replace k2 := k2.below hbx
  replace KF := KF.below hbx
  replace R1 := R1.below hbx
  replace HBX := HBX.below hbx
  replace hB0 := bZs hB0 hbx
  clear hbx
  generalize (w5.alloc (.cells #[.slice XB B0.1.length XBc, .slice YB B0.2.length YBc] 42)) = w6 at *
  have hb1 := bZd hB0
  have S0 := k0.drew
  have S1 := k1.drew
  have S2 := k2.drew
  have SF := KF.drew
  have SO := KO.drew
  have T1 := R1.below (bZd (Below.refl w6.heap.size w6))
  have T2 := HBX.below (bZd (Below.refl w6.heap.size w6))
  clear k0 k1 k2 KF KO R1 HBX hB0 c0 c1 c2 c3 c4 c5 c6 c7 c8 c9 r0 r1 r2 r3 s0 s1
  have hC0 := Below.refl w6.drew.heap.size w6.drew
  refine wp_region_C (fun _ => false) (fun W => Below w6.drew.heap.size w6.drew W) (by kernel_rfl) ?_
  apply wpAnyC_ta 0 hC0
  ·intro W hW
   have e0 := (SF.below hW).c0; have e1 := (SF.below hW).c1; go_simp
   try rfl
  ·go_simp
   try rfl
  apply wpAnyC_ta 1 hC0
  ·intro W hW
   go_simp
   try rfl
  ·go_simp
   try rfl
  apply wpAnyC_ta 2 hC0
  ·intro W hW
   go_simp
   try rfl
  ·go_simp
   try rfl
  apply wpAnyC_ta 3 hC0
  ·intro W hW
   have e4 := (S1.below hW).c4; have e5 := (S1.below hW).c5; go_simp
   try rfl
  ·go_simp
   try rfl
  apply wpAnyC_ta 4 hC0
  ·intro W hW
   go_simp
   try rfl
  ·go_simp
   try rfl
  apply wpAnyC_ta 5 hC0
  ·intro W hW
   go_simp
   try rfl
  ·go_simp
   try rfl
  apply wpAnyC_ta 6 hC0
  ·intro W hW
   have e6 := (S1.below hW).c6; have e7 := (S1.below hW).c7; go_simp
   try rfl
  ·go_simp
   try rfl
  apply wpAnyC_ta 7 hC0
  ·intro W hW
   go_simp
   try rfl
  ·go_simp
   try rfl
  apply wpAnyC_ta 8 hC0
  ·intro W hW
   have e0 := (S0.below hW).c0; have e1 := (S0.below hW).c1; go_simp
   try rfl
  ·go_simp
   try rfl
  apply wpAnyC_ta 15 hC0
  ·intro W hW
   go_simp
   try rfl
  ·go_simp
   try rfl
  have R1 := DC2 w6.drew (hp.below hb1)
  refine wZs (i := 9) (by kernel_rfl) rfl (fun K hK => ?_)
  go_simp
  go_at_call 89
  refine R1.mono ?_
  rintro e w9 ⟨nv, rfl, ⟨x, y, rfl, HX, HY⟩, hb9⟩
  obtain ⟨XC, XCc, ex⟩ := Kd.R_slice HX; obtain ⟨YC, YCc, ey⟩ := Kd.R_slice HY; subst ex ey
  refine hK _ _ (fun _ => hb9) ?_
  clear hK K R1 DC2
  have R2 : OwnR w9 w.heap.size (.agg #[.slice XC D2.1.length XCc, .slice YC D2.2.length YCc]) D2 := ⟨_, _, rfl, Kd.R_lower HX (bZz hb1), Kd.R_lower HY (bZz hb1)⟩
  clear HX HY
  have hbA := hb9
  apply wpAnyC_ta 10 hb9
  ·intro W hW
   go_simp
   try rfl
  ·go_simp
   try rfl
  apply wpAnyC_ta 11 hb9
  ·intro W hW
   go_simp
   try rfl
  ·go_simp
   try rfl
  refine wZs (i := 12) (by kernel_rfl) rfl (fun K hK => ?_)
  go_simp
  go_at_call 215
  refine (MU _ _ _ _ _ _ _).mono ?_
  rintro e w10 ⟨rfl, hb10⟩
  refine hK _ _ (fun _ => bZs hb9 hb10) ?_
  clear hK K
  refine wZs (i := 13) (by kernel_rfl) rfl (fun K hK => ?_)
  go_simp
  refine hK _ _ (fun _ => bZa (bZs hb9 hb10) _) ?_
  clear hK K
  refine wZs (i := 14) (by kernel_rfl) rfl (fun K hK => ?_)
  go_simp
  refine hK _ _ (fun _ => bZa (bZs hb9 hb10) _) ?_
  clear hK K
  refine wpAnyC_done (by kernel_rfl) ?_ _
  have hbx := bZa (bZs hbA hb10) (.cells #[.slice XA D1.1.length XAc, .slice YA D1.2.length YAc, .slice XC D2.1.length XCc, .slice YC D2.2.length YCc] 42)
  have hby := bZa hb10 (.cells #[.slice XA D1.1.length XAc, .slice YA D1.2.length YAc, .slice XC D2.1.length XCc, .slice YC D2.2.length YCc] 42)
  have k2 := S2.below hbx
  have KO := SO.below hbx
  have P1 := T1.below hbx
  have HO := T2.below hbx
  have P2 := R2.below hby
  have HB := bZs hb1 hbx
  have KL := Blk.new w10 #[.slice XA D1.1.length XAc, .slice YA D1.2.length YAc, .slice XC D2.1.length XCc, .slice YC D2.2.length YCc] 42
  have nLO : w10.heap.size ≠ w5.heap.size := by
   have h1 := (SO.below (bZs hbA hb10)).lt
   exact Nat.ne_of_gt h1
  clear S0 S1 S2 SF SO T1 T2 R2 hb9 hb10 hbA hbx hby hb1 hC0
  generalize (w10.alloc (.cells #[.slice XA D1.1.length XAc, .slice YA D1.2.length YAc, .slice XC D2.1.length XCc, .slice YC D2.2.length YCc] 42)) = x0 at *
  go_wp2
  have hbV := bZa (Below.refl x0.heap.size x0) (.cells #[.slice XA D1.1.length XAc, .slice YA D1.2.length YAc] 42)
  have l0 := KL.c0
  have l1 := KL.c1
  replace KO := KO.below hbV
  replace KL := KL.below hbV
  replace k2 := k2.below hbV
  replace HO := HO.below hbV
  replace P1 := P1.below hbV
  replace P2 := P2.below hbV
  replace HB := bZs HB hbV
  clear hbV
  have o0 := KO.c0
  have o1 := KO.c1
  have TK1 : True := trivial
  have TK2 : True := trivial
  refine wp_loop_rounds 3 ?_
  rw [rounds_succ]
  go_wp2_with ((first | (go_at_call 87; clear TK1; refine (UN1 _ _ _ (hp.below HB) HO.rd P1.rd).mono ?_; clear UN1 HO P1; rintro e v1 ⟨nv, rfl, ⟨x, y, rfl, HX, HY⟩, hb⟩; obtain ⟨XD, XDc, ex⟩ := Kd.R_slice HX; obtain ⟨YD, YDc, ey⟩ := Kd.R_slice HY; subst ex ey; have HN : OwnR v1 w.heap.size (.agg #[.slice XD U1.1.length XDc, .slice YD U1.2.length YDc]) U1 := ⟨_, _, rfl, Kd.R_lower HX (bZz HB), Kd.R_lower HY (bZz HB)⟩; clear HX HY) | (go_at_call 215; clear TK2; refine (MU _ _ _ _ _ _ _).mono ?_; rintro e v2 ⟨rfl, hb⟩; replace KO := KO.below hb; replace HN := HN.below hb; obtain ⟨p0, p1, q0, q1⟩ := KO.two)); (try replace KO := KO.below hb); replace KL := KL.below hb; replace k2 := k2.below hb; replace P2 := P2.below hb; replace HB := bZs HB hb; clear hb)
  have KO2 : Blk ((v2.setCell ⟨w5.heap.size, 0, none⟩ (.slice XD U1.1.length XDc)).setCell ⟨w5.heap.size, 1, none⟩ (.slice YD U1.2.length YDc)) w5.heap.size #[.slice XD U1.1.length XDc, .slice YD U1.2.length YDc] 42 := (KO.set 0 (.slice XD U1.1.length XDc)).set 1 (.slice YD U1.2.length YDc)
  have HO := (HN.set KO (by decide) (by decide) 0 (.slice XD U1.1.length XDc)).set (KO.set 0 (.slice XD U1.1.length XDc)) (by decide) (by decide) 1 (.slice YD U1.2.length YDc)
  replace P2 := (P2.set KO (by decide) (by decide) 0 (.slice XD U1.1.length XDc)).set (KO.set 0 (.slice XD U1.1.length XDc)) (by decide) (by decide) 1 (.slice YD U1.2.length YDc)
  replace KL := (KL.far (p := ⟨w5.heap.size, 0, none⟩) nLO (.slice XD U1.1.length XDc)).far (p := ⟨w5.heap.size, 1, none⟩) nLO (.slice YD U1.2.length YDc)
  replace k2 := (k2.far (p := ⟨w5.heap.size, 0, none⟩) n2O (.slice XD U1.1.length XDc)).far (p := ⟨w5.heap.size, 1, none⟩) n2O (.slice YD U1.2.length YDc)
  replace HB := bZe (j := 1) (v := .slice YD U1.2.length YDc) (bZe (j := 0) (v := .slice XD U1.1.length XDc) HB hleO) hleO
  clear KO HN p0 p1 q0 q1 l0 l1 o0 o1
  generalize ((v2.setCell ⟨w5.heap.size, 0, none⟩ (.slice XD U1.1.length XDc)).setCell ⟨w5.heap.size, 1, none⟩ (.slice YD U1.2.length YDc)) = x1 at *
  have KO := KO2
  clear KO2
  have hbV := bZa (Below.refl x1.heap.size x1) (.cells #[.slice XC D2.1.length XCc, .slice YC D2.2.length YCc] 42)
  have l0 := KL.c2
  have l1 := KL.c3
  replace KO := KO.below hbV
  replace KL := KL.below hbV
  replace k2 := k2.below hbV
  replace HO := HO.below hbV
  replace P2 := P2.below hbV
  replace HB := bZs HB hbV
  clear hbV
  have o0 := KO.c0
  have o1 := KO.c1
  have TK1 : True := trivial
  have TK2 : True := trivial
  skip
  rw [rounds_succ]
  go_wp2_with ((first | (go_at_call 87; clear TK1; refine (UN2 _ _ _ (hp.below HB) HO.rd P2.rd).mono ?_; clear UN2 HO P2; rintro e v3 ⟨nv, rfl, ⟨x, y, rfl, HX, HY⟩, hb⟩; obtain ⟨XE, XEc, ex⟩ := Kd.R_slice HX; obtain ⟨YE, YEc, ey⟩ := Kd.R_slice HY; subst ex ey; have HN : OwnR v3 w.heap.size (.agg #[.slice XE U2.1.length XEc, .slice YE U2.2.length YEc]) U2 := ⟨_, _, rfl, Kd.R_lower HX (bZz HB), Kd.R_lower HY (bZz HB)⟩; clear HX HY) | (go_at_call 215; clear TK2; refine (MU _ _ _ _ _ _ _).mono ?_; rintro e v4 ⟨rfl, hb⟩; replace KO := KO.below hb; replace HN := HN.below hb; obtain ⟨p0, p1, q0, q1⟩ := KO.two)); (try replace KO := KO.below hb); replace KL := KL.below hb; replace k2 := k2.below hb; replace HB := bZs HB hb; clear hb)
  have KO2 : Blk ((v4.setCell ⟨w5.heap.size, 0, none⟩ (.slice XE U2.1.length XEc)).setCell ⟨w5.heap.size, 1, none⟩ (.slice YE U2.2.length YEc)) w5.heap.size #[.slice XE U2.1.length XEc, .slice YE U2.2.length YEc] 42 := (KO.set 0 (.slice XE U2.1.length XEc)).set 1 (.slice YE U2.2.length YEc)
  have HO := (HN.set KO (by decide) (by decide) 0 (.slice XE U2.1.length XEc)).set (KO.set 0 (.slice XE U2.1.length XEc)) (by decide) (by decide) 1 (.slice YE U2.2.length YEc)
  replace KL := (KL.far (p := ⟨w5.heap.size, 0, none⟩) nLO (.slice XE U2.1.length XEc)).far (p := ⟨w5.heap.size, 1, none⟩) nLO (.slice YE U2.2.length YEc)
  replace k2 := (k2.far (p := ⟨w5.heap.size, 0, none⟩) n2O (.slice XE U2.1.length XEc)).far (p := ⟨w5.heap.size, 1, none⟩) n2O (.slice YE U2.2.length YEc)
  replace HB := bZe (j := 1) (v := .slice YE U2.2.length YEc) (bZe (j := 0) (v := .slice XE U2.1.length XEc) HB hleO) hleO
  clear KO HN p0 p1 q0 q1 l0 l1 o0 o1
  generalize ((v4.setCell ⟨w5.heap.size, 0, none⟩ (.slice XE U2.1.length XEc)).setCell ⟨w5.heap.size, 1, none⟩ (.slice YE U2.2.length YEc)) = x2 at *
  have KO := KO2
  clear KO2
  have o0 := KO.c0
  have o1 := KO.c1
  obtain ⟨u0, u1, q0, q1⟩ := k2.two
  have hO2 := (HO.set k2 (by decide) (by decide) 0 (.slice XE U2.1.length XEc)).set (k2.set 0 _) (by decide) (by decide) 1 (.slice YE U2.2.length YEc)
  rw [rounds_succ]
  go_wp2
  refine bodyPost_ret (rZs rfl (.cell (w.heap.size + 2) 42 #[.slice XE U2.1.length XEc, .slice YE U2.2.length YEc] (0, 0) _ rfl ((k2.set 0 _).set 1 _) Tryz.underlying42 rfl (by kernel_rfl) .nil)) rfl ?_
  exact ⟨_, rfl, hO2, bZe (bZe HB (Nat.le_add_right w.heap.size 2)) (Nat.le_add_right w.heap.size 2)⟩
end Go.Proofs.YtociicfjhgfgpaaGreatDoor

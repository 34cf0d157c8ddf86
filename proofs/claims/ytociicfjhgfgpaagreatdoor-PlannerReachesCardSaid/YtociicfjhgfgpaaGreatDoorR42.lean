/- mill: box: the walk. mill: track: the walk. -/
import Derived.Test.YtociicfjhgfgpaaGreatDoorR41
import Derived.Test.YtociicfjhgfgpaaGreatDoorR34
set_option linter.unusedVariables false
set_option linter.unusedSimpArgs false
set_option maxHeartbeats 16000000
set_option maxRecDepth 100000
namespace Go.Proofs.YtociicfjhgfgpaaGreatDoor
open Go.RowKit Go.Shelf Go.Lib Go.Proofs.YtociicfjhgfgpaaGreatDoorW.PrintWords
theorem ml_box_h (a b c z r t : Rat) (w : World) (hp : Pow w) (ha : Sq a) (hb' : Sq b) (hc : Sq c) (hr : Sq r) (hm : Sq (b - r)) (hn : Sq (b + r)) (hac : a < c) (h0 : 0 < r) :
  Calls Tryz.prog 216 #[tlv r t, psv a b c b z] w fun e w' => ∃ v, e = .returned v ∧ OwnR w' w.heap.size v (rectR a (b - r) c (b + r)) ∧ Below w.heap.size w w' := by
 have S1 := fun g W hp hk => so_two a c g W hp hk ha hc (Rat.le_of_lt hac)
 have S2 := fun g W hp hk => so_two b b g W hp hk hb' hb' Rat.le_refl
 have HH := fun W => ml_isHorizontal a b c b z W
 rw [decide_eq_true (rfl : b = b)] at HH
 have AR := fun W hp => ml_around r t b W hp hb' hr
 have RC := fun W hp => rg_Rectangle a (b - r) c (b + r) W hp ha hm hc hn hac (by grind)
 have MU := fun A m c B k d W => ml_mustR A B m c k d W
 clear ha hb' hc hr hm hn hac h0
 generalize rectR a (b - r) c (b + r) = RT at *
 unfold rv tlv psv at *
 generalize b - r = m at *
 generalize b + r = n at *
 generalize itx a.num = a1 at *
 generalize itx (a.den : Int) = a2 at *
 generalize itx b.num = b1 at *
 generalize itx (b.den : Int) = b2 at *
 generalize itx c.num = c1 at *
 generalize itx (c.den : Int) = c2 at *
 generalize itx z.num = z1 at *
 generalize itx (z.den : Int) = z2 at *
 generalize itx r.num = r1 at *
 generalize itx (r.den : Int) = r2 at *
 generalize itx t.num = t1 at *
 generalize itx (t.den : Int) = t2 at *
 generalize itx m.num = m1 at *
 generalize itx (m.den : Int) = m2 at *
 generalize itx n.num = n1 at *
 generalize itx (n.den : Int) = n2 at *
 obtain ⟨hB0, k0, k1, k2, k3, k4⟩ := news5 w #[.string r1, .string r2, .string t1, .string t2] 110 #[.string a1, .string a2, .string b1, .string b2, .string c1, .string c2, .string b1, .string b2, .string z1, .string z2] 234 #[.slice none 0 0, .slice none 0 0] 42 #[.string a1, .string a2, .string c1, .string c2] 25 #[.string b1, .string b2, .string b1, .string b2] 25
 have c0 := k1.c0
 have c1 := k1.c1
 have c2 := k1.c2
 have c3 := k1.c3
 have c4 := k1.c4
 have c5 := k1.c5
 have c6 := k1.c6
 have c7 := k1.c7
 have c8 := k1.c8
 have c9 := k1.c9
 have r0 := k0.c0
 have r1 := k0.c1
 have r2 := k0.c2
 have r3 := k0.c3
 have TK1 : True := trivial
 have TK2 : True := trivial
 go_enter Tryz.func216, Tryz.ntmps216
 go_wp2_with ((first | (go_at_call 235; clear TK1; refine (S1 _ _ (hp.below hB0) k3).mono ?_; clear S1; rintro e _ ⟨rfl, hb⟩) | (go_at_call 235; clear TK2; refine (S2 _ _ (hp.below hB0) k4).mono ?_; clear S2; rintro e _ ⟨rfl, hb⟩) | (go_at_call 212; refine (HH _).mono ?_; clear HH; rintro e _ ⟨rfl, hb⟩) | (go_at_call 236; refine (AR _ (hp.below hB0)).mono ?_; clear AR; rintro e w4 ⟨rfl, hb⟩; replace k1 := k1.below hb; replace k4 := k4.below hb; replace c0 := k1.c0; replace c1 := k1.c1; replace c2 := k1.c2; replace c3 := k1.c3; have f0 := k4.frozen 0; have f1 := k4.frozen 1; have f2 := k4.frozen 2; have f3 := k4.frozen 3; have d0 := k4.c0; have d1 := k4.c1; have d2 := k4.c2; have d3 := k4.c3)); replace k0 := k0.below hb; (try replace k1 := k1.below hb); replace k2 := k2.below hb; replace k3 := k3.below hb; (try replace k4 := k4.below hb); replace hB0 := bZs hB0 hb; (try replace c0 := k1.c0); (try replace c1 := k1.c1); (try replace c2 := k1.c2); (try replace c3 := k1.c3); replace c4 := k1.c4; replace c5 := k1.c5; replace c6 := k1.c6; replace c7 := k1.c7; replace c8 := k1.c8; replace c9 := k1.c9; replace r0 := k0.c0; replace r1 := k0.c1; replace r2 := k0.c2; replace r3 := k0.c3; clear hb)
 have ne0 : w.heap.size ≠ w.heap.size + 4 := by omega
 have ne1 : w.heap.size + 1 ≠ w.heap.size + 4 := by omega
 have ne2 : w.heap.size + 2 ≠ w.heap.size + 4 := by omega
 have ne3 : w.heap.size + 3 ≠ w.heap.size + 4 := by omega
 have S2 := ((((k2.far (p := ⟨w.heap.size + 4, 0, none⟩) ne2 (.string m1)).far (p := ⟨w.heap.size + 4, 1, none⟩) ne2 (.string m2)).far (p := ⟨w.heap.size + 4, 2, none⟩) ne2 (.string n1)).far (p := ⟨w.heap.size + 4, 3, none⟩) ne2 (.string n2)).drew
 have S3 := ((((k3.far (p := ⟨w.heap.size + 4, 0, none⟩) ne3 (.string m1)).far (p := ⟨w.heap.size + 4, 1, none⟩) ne3 (.string m2)).far (p := ⟨w.heap.size + 4, 2, none⟩) ne3 (.string n1)).far (p := ⟨w.heap.size + 4, 3, none⟩) ne3 (.string n2)).drew
 have S4 : Blk (((((w4.setCell ⟨w.heap.size + 4, 0, none⟩ (.string m1)).setCell ⟨w.heap.size + 4, 1, none⟩ (.string m2)).setCell ⟨w.heap.size + 4, 2, none⟩ (.string n1)).setCell ⟨w.heap.size + 4, 3, none⟩ (.string n2))).drew (w.heap.size + 4) #[.string m1, .string m2, .string n1, .string n2] 25 := (((((k4.set 0 (.string m1)).set 1 (.string m2)).set 2 (.string n1)).set 3 (.string n2))).drew
 have hle : w.heap.size ≤ w.heap.size + 4 := Nat.le_add_right _ _
 have hB1 := bZd (bZe (j := 3) (v := .string n2) (bZe (j := 2) (v := .string n1) (bZe (j := 1) (v := .string m2) (bZe (j := 0) (v := .string m1) hB0 hle) hle) hle) hle)
 clear k0 k1 k2 k3 k4 hB0 c0 c1 c2 c3 c4 c5 c6 c7 c8 c9 r0 r1 r2 r3 f0 f1 f2 f3 d0 d1 d2 d3
 generalize ((((w4.setCell ⟨w.heap.size + 4, 0, none⟩ (.string m1)).setCell ⟨w.heap.size + 4, 1, none⟩ (.string m2)).setCell ⟨w.heap.size + 4, 2, none⟩ (.string n1)).setCell ⟨w.heap.size + 4, 3, none⟩ (.string n2)) = w5 at *
 refine rZu (fun i => i == 12 || i == 13 || i == 14 || i == 15 || i == 16) (fun W => Below w5.drew.heap.size w5.drew W) (by kernel_rfl) (cZb _) (Below.refl _ _) ?_
 apply wpU_e 0 51
 apply wpU_e 1 52
 refine wpU_f 2 53 (h1 := by intro W hW; have e0 := (S3.below hW).c0; have e1 := (S3.below hW).c1; go_simp; try rfl) (h3 := ?_)
 apply wpU_e 3 54
 apply wpU_e 4 55
 refine wpU_f 5 56 (h1 := by intro W hW; have e0 := (S4.below hW).c0; have e1 := (S4.below hW).c1; go_simp; try rfl) (h3 := ?_)
 apply wpU_e 6 57
 apply wpU_e 7 58
 refine wpU_f 8 59 (h1 := by intro W hW; have e2 := (S3.below hW).c2; have e3 := (S3.below hW).c3; go_simp; try rfl) (h3 := ?_)
 apply wpU_e 9 60
 apply wpU_e 10 61
 refine wpU_f 11 62 (h1 := by intro W hW; have e2 := (S4.below hW).c2; have e3 := (S4.below hW).c3; go_simp; try rfl) (h3 := ?_)
 refine wpU_late (by kernel_rfl) (fun W1 hW1 => ?_)
 have hB2 := bZs hB1 hW1
 have R1 := RC W1 (hp.below hB2)
 refine wpAny_step1 (i := 12) (by kernel_rfl) rfl (by rfl) (fun K hK => ?_)
 go_simp
 go_at_call 88
 refine R1.mono ?_
 rintro e w9 ⟨nv, rfl, ⟨x, y, rfl, HX, HY⟩, hb9⟩
 obtain ⟨XA, xc, ex⟩ := Kd.R_slice HX
 obtain ⟨YA, yc, ey⟩ := Kd.R_slice HY
 subst ex ey
 refine hK _ _ ?_
 clear hK K R1 RC
 have hB3 := bZs hB2 hb9
 have kR := (S2.below hW1).below hb9
 refine wpAny_of_C (C := fun _ => True) (ex := fun i => i == 15 || i == 16) _ _ _ _ ?_
 refine wZt (i := 13) rfl (by kernel_rfl) (by kernel_rfl) (by kernel_rfl) (by kernel_rfl) (fun _ _ _ _ h => h) trivial (by rfl) ?_
 apply Exists.intro
 refine ⟨fun W hW => ?_, ?_⟩
 ·go_simp
  try rfl
 refine wZt (i := 14) rfl (by kernel_rfl) (by kernel_rfl) (by kernel_rfl) (by kernel_rfl) (fun _ _ _ _ h => h) trivial (by rfl) ?_
 apply Exists.intro
 refine ⟨fun W hW => ?_, ?_⟩
 ·go_simp
  try rfl
 refine wZs (i := 15) (by kernel_rfl) rfl (fun K hK => ?_)
 go_simp
 go_at_call 215
 refine (MU _ _ _ _ _ _ _).mono ?_
 rintro e w10 ⟨rfl, hb10⟩
 refine hK _ _ (fun _ => trivial) ?_
 clear hK K
 have kY := kR.below hb10
 have hB4 := bZs hB3 hb10
 obtain ⟨r0, r1, q0, q1⟩ := kY.two
 refine wZs (i := 16) (by kernel_rfl) rfl (fun K hK => ?_)
 go_simp
 refine hK _ _ (fun _ => trivial) ?_
 clear hK K
 refine wpAnyC_done (by kernel_rfl) ?_ _
 go_wp2
 have hO : OwnR w10 W1.heap.size (.agg #[.slice XA RT.1.length xc, .slice YA RT.2.length yc]) RT := ⟨_, _, rfl, HX.below hb10, HY.below hb10⟩
 have hO2 := ((hO.lower (bZz hB2)).set kY (by decide) (by decide) 0 (.slice XA RT.1.length xc)).set (kY.set 0 _) (by decide) (by decide) 1 (.slice YA RT.2.length yc)
 refine bodyPost_ret (rZs rfl (.cell (w.heap.size + 2) 42 #[.slice XA RT.1.length xc, .slice YA RT.2.length yc] (0, 0) _ rfl ((kY.set 0 _).set 1 _) Tryz.underlying42 rfl (by kernel_rfl) .nil)) rfl ?_
 exact ⟨_, rfl, hO2, bZe (bZe hB4 (Nat.le_add_right w.heap.size 2)) (Nat.le_add_right w.heap.size 2)⟩
theorem ml_box_v (a b d z r t : Rat) (w : World) (hp : Pow w) (ha : Sq a) (hb' : Sq b) (hc : Sq d) (hr : Sq r) (hm : Sq (a - r)) (hn : Sq (a + r)) (hbd : b < d) (h0 : 0 < r) :
  Calls Tryz.prog 216 #[tlv r t, psv a b a d z] w fun e w' => ∃ v, e = .returned v ∧ OwnR w' w.heap.size v (rectR (a - r) b (a + r) d) ∧ Below w.heap.size w w' := by
 have S1 := fun g W hp hk => so_two a a g W hp hk ha ha Rat.le_refl
 have S2 := fun g W hp hk => so_two b d g W hp hk hb' hc (Rat.le_of_lt hbd)
 have HH := fun W => ml_isHorizontal a b a d z W
 rw [decide_eq_false (Rat.ne_of_lt hbd)] at HH
 have AR := fun W hp => ml_around r t a W hp ha hr
 have RC := fun W hp => rg_Rectangle (a - r) b (a + r) d W hp hm hb' hn hc (by grind) hbd
 have MU := fun A m c B k d W => ml_mustR A B m c k d W
 clear ha hb' hc hr hm hn hbd h0
 generalize rectR (a - r) b (a + r) d = RT at *
 unfold rv tlv psv at *
 generalize a - r = m at *
 generalize a + r = n at *
 generalize itx a.num = a1 at *
 generalize itx (a.den : Int) = a2 at *
 generalize itx b.num = b1 at *
 generalize itx (b.den : Int) = b2 at *
 generalize itx d.num = d1 at *
 generalize itx (d.den : Int) = d2 at *
 generalize itx z.num = z1 at *
 generalize itx (z.den : Int) = z2 at *
 generalize itx r.num = r1 at *
 generalize itx (r.den : Int) = r2 at *
 generalize itx t.num = t1 at *
 generalize itx (t.den : Int) = t2 at *
 generalize itx m.num = m1 at *
 generalize itx (m.den : Int) = m2 at *
 generalize itx n.num = n1 at *
 generalize itx (n.den : Int) = n2 at *
 obtain ⟨hB0, k0, k1, k2, k3, k4⟩ := news5 w #[.string r1, .string r2, .string t1, .string t2] 110 #[.string a1, .string a2, .string b1, .string b2, .string a1, .string a2, .string d1, .string d2, .string z1, .string z2] 234 #[.slice none 0 0, .slice none 0 0] 42 #[.string a1, .string a2, .string a1, .string a2] 25 #[.string b1, .string b2, .string d1, .string d2] 25
 have c0 := k1.c0
 have c1 := k1.c1
 have c2 := k1.c2
 have c3 := k1.c3
 have c4 := k1.c4
 have c5 := k1.c5
 have c6 := k1.c6
 have c7 := k1.c7
 have c8 := k1.c8
 have c9 := k1.c9
 have r0 := k0.c0
 have r1 := k0.c1
 have r2 := k0.c2
 have r3 := k0.c3
 have TK1 : True := trivial
 have TK2 : True := trivial
 go_enter Tryz.func216, Tryz.ntmps216
 go_wp2_with ((first | (go_at_call 235; clear TK1; refine (S1 _ _ (hp.below hB0) k3).mono ?_; clear S1; rintro e _ ⟨rfl, hb⟩) | (go_at_call 235; clear TK2; refine (S2 _ _ (hp.below hB0) k4).mono ?_; clear S2; rintro e _ ⟨rfl, hb⟩) | (go_at_call 212; refine (HH _).mono ?_; clear HH; rintro e _ ⟨rfl, hb⟩) | (go_at_call 236; refine (AR _ (hp.below hB0)).mono ?_; clear AR; rintro e w4 ⟨rfl, hb⟩; replace k1 := k1.below hb; replace k3 := k3.below hb; replace c0 := k1.c0; replace c1 := k1.c1; replace c2 := k1.c2; replace c3 := k1.c3; have f0 := k3.frozen 0; have f1 := k3.frozen 1; have f2 := k3.frozen 2; have f3 := k3.frozen 3; have d0 := k3.c0; have d1 := k3.c1; have d2 := k3.c2; have d3 := k3.c3)); replace k0 := k0.below hb; (try replace k1 := k1.below hb); replace k2 := k2.below hb; (try replace k3 := k3.below hb); replace k4 := k4.below hb; replace hB0 := bZs hB0 hb; (try replace c0 := k1.c0); (try replace c1 := k1.c1); (try replace c2 := k1.c2); (try replace c3 := k1.c3); replace c4 := k1.c4; replace c5 := k1.c5; replace c6 := k1.c6; replace c7 := k1.c7; replace c8 := k1.c8; replace c9 := k1.c9; replace r0 := k0.c0; replace r1 := k0.c1; replace r2 := k0.c2; replace r3 := k0.c3; clear hb)
 have ne0 : w.heap.size ≠ w.heap.size + 3 := by omega
 have ne1 : w.heap.size + 1 ≠ w.heap.size + 3 := by omega
 have ne2 : w.heap.size + 2 ≠ w.heap.size + 3 := by omega
 have ne4 : w.heap.size + 4 ≠ w.heap.size + 3 := by omega
 have S2 := ((((k2.far (p := ⟨w.heap.size + 3, 0, none⟩) ne2 (.string m1)).far (p := ⟨w.heap.size + 3, 1, none⟩) ne2 (.string m2)).far (p := ⟨w.heap.size + 3, 2, none⟩) ne2 (.string n1)).far (p := ⟨w.heap.size + 3, 3, none⟩) ne2 (.string n2)).drew
 have S4 := ((((k4.far (p := ⟨w.heap.size + 3, 0, none⟩) ne4 (.string m1)).far (p := ⟨w.heap.size + 3, 1, none⟩) ne4 (.string m2)).far (p := ⟨w.heap.size + 3, 2, none⟩) ne4 (.string n1)).far (p := ⟨w.heap.size + 3, 3, none⟩) ne4 (.string n2)).drew
 have S3 : Blk (((((w4.setCell ⟨w.heap.size + 3, 0, none⟩ (.string m1)).setCell ⟨w.heap.size + 3, 1, none⟩ (.string m2)).setCell ⟨w.heap.size + 3, 2, none⟩ (.string n1)).setCell ⟨w.heap.size + 3, 3, none⟩ (.string n2))).drew (w.heap.size + 3) #[.string m1, .string m2, .string n1, .string n2] 25 := (((((k3.set 0 (.string m1)).set 1 (.string m2)).set 2 (.string n1)).set 3 (.string n2))).drew
 have hle : w.heap.size ≤ w.heap.size + 3 := Nat.le_add_right _ _
 have hB1 := bZd (bZe (j := 3) (v := .string n2) (bZe (j := 2) (v := .string n1) (bZe (j := 1) (v := .string m2) (bZe (j := 0) (v := .string m1) hB0 hle) hle) hle) hle)
 clear k0 k1 k2 k3 k4 hB0 c0 c1 c2 c3 c4 c5 c6 c7 c8 c9 r0 r1 r2 r3 f0 f1 f2 f3 d0 d1 d2 d3
 generalize ((((w4.setCell ⟨w.heap.size + 3, 0, none⟩ (.string m1)).setCell ⟨w.heap.size + 3, 1, none⟩ (.string m2)).setCell ⟨w.heap.size + 3, 2, none⟩ (.string n1)).setCell ⟨w.heap.size + 3, 3, none⟩ (.string n2)) = w5 at *
 refine rZu (fun i => i == 12 || i == 13 || i == 14 || i == 15 || i == 16) (fun W => Below w5.drew.heap.size w5.drew W) (by kernel_rfl) (cZb _) (Below.refl _ _) ?_
 apply wpU_e 0 51
 apply wpU_e 1 52
 refine wpU_f 2 53 (h1 := by intro W hW; have e0 := (S3.below hW).c0; have e1 := (S3.below hW).c1; go_simp; try rfl) (h3 := ?_)
 apply wpU_e 3 54
 apply wpU_e 4 55
 refine wpU_f 5 56 (h1 := by intro W hW; have e0 := (S4.below hW).c0; have e1 := (S4.below hW).c1; go_simp; try rfl) (h3 := ?_)
 apply wpU_e 6 57
 apply wpU_e 7 58
 refine wpU_f 8 59 (h1 := by intro W hW; have e2 := (S3.below hW).c2; have e3 := (S3.below hW).c3; go_simp; try rfl) (h3 := ?_)
 apply wpU_e 9 60
 apply wpU_e 10 61
 refine wpU_f 11 62 (h1 := by intro W hW; have e2 := (S4.below hW).c2; have e3 := (S4.below hW).c3; go_simp; try rfl) (h3 := ?_)
 refine wpU_late (by kernel_rfl) (fun W1 hW1 => ?_)
 have hB2 := bZs hB1 hW1
 have R1 := RC W1 (hp.below hB2)
 refine wpAny_step1 (i := 12) (by kernel_rfl) rfl (by rfl) (fun K hK => ?_)
 go_simp
 go_at_call 88
 refine R1.mono ?_
 rintro e w9 ⟨nv, rfl, ⟨x, y, rfl, HX, HY⟩, hb9⟩
 obtain ⟨XA, xc, ex⟩ := Kd.R_slice HX
 obtain ⟨YA, yc, ey⟩ := Kd.R_slice HY
 subst ex ey
 refine hK _ _ ?_
 clear hK K R1 RC
 have hB3 := bZs hB2 hb9
 have kR := (S2.below hW1).below hb9
 refine wpAny_of_C (C := fun _ => True) (ex := fun i => i == 15 || i == 16) _ _ _ _ ?_
 refine wZt (i := 13) rfl (by kernel_rfl) (by kernel_rfl) (by kernel_rfl) (by kernel_rfl) (fun _ _ _ _ h => h) trivial (by rfl) ?_
 apply Exists.intro
 refine ⟨fun W hW => ?_, ?_⟩
 ·go_simp
  try rfl
 refine wZt (i := 14) rfl (by kernel_rfl) (by kernel_rfl) (by kernel_rfl) (by kernel_rfl) (fun _ _ _ _ h => h) trivial (by rfl) ?_
 apply Exists.intro
 refine ⟨fun W hW => ?_, ?_⟩
 ·go_simp
  try rfl
 refine wZs (i := 15) (by kernel_rfl) rfl (fun K hK => ?_)
 go_simp
 go_at_call 215
 refine (MU _ _ _ _ _ _ _).mono ?_
 rintro e w10 ⟨rfl, hb10⟩
 refine hK _ _ (fun _ => trivial) ?_
 clear hK K
 have kY := kR.below hb10
 have hB4 := bZs hB3 hb10
 obtain ⟨r0, r1, q0, q1⟩ := kY.two
 refine wZs (i := 16) (by kernel_rfl) rfl (fun K hK => ?_)
 go_simp
 refine hK _ _ (fun _ => trivial) ?_
 clear hK K
 refine wpAnyC_done (by kernel_rfl) ?_ _
 go_wp2
 have hO : OwnR w10 W1.heap.size (.agg #[.slice XA RT.1.length xc, .slice YA RT.2.length yc]) RT := ⟨_, _, rfl, HX.below hb10, HY.below hb10⟩
 have hO2 := ((hO.lower (bZz hB2)).set kY (by decide) (by decide) 0 (.slice XA RT.1.length xc)).set (kY.set 0 _) (by decide) (by decide) 1 (.slice YA RT.2.length yc)
 refine bodyPost_ret (rZs rfl (.cell (w.heap.size + 2) 42 #[.slice XA RT.1.length xc, .slice YA RT.2.length yc] (0, 0) _ rfl ((kY.set 0 _).set 1 _) Tryz.underlying42 rfl (by kernel_rfl) .nil)) rfl ?_
 exact ⟨_, rfl, hO2, bZe (bZe hB4 (Nat.le_add_right w.heap.size 2)) (Nat.le_add_right w.heap.size 2)⟩
theorem ml_track_pt (a b z r t : Rat) (w : World) (hp : Pow w) (ha : Sq a) (hb' : Sq b) (hr : Sq r) (h0 : 0 < r) :
  Calls Tryz.prog 184 #[tlv r t, psv a b a b z] w fun e w' => ∃ v, e = .returned v ∧ OwnR w' w.heap.size v (discR a b r) ∧ Below w.heap.size w w' := by
 have DC := fun W hp => rg_Disc a b r W hp ha hb' hr h0
 have HH := fun W => ml_isHorizontal a b a b z W
 have VV := fun W => ml_isVertical a b a b z W
 rw [decide_eq_true (rfl : b = b)] at HH
 rw [decide_eq_true (rfl : a = a)] at VV
 have MU := fun A m c B k d W => ml_mustR A B m c k d W
 clear ha hb' hr h0
 generalize discR a b r = D1 at *
 unfold rv tlv psv at *
 generalize itx a.num = a1 at *
 generalize itx (a.den : Int) = a2 at *
 generalize itx b.num = b1 at *
 generalize itx (b.den : Int) = b2 at *
 generalize itx z.num = z1 at *
 generalize itx (z.den : Int) = z2 at *
 generalize itx r.num = r1 at *
 generalize itx (r.den : Int) = r2 at *
 generalize itx t.num = t1 at *
 generalize itx (t.den : Int) = t2 at *
 obtain ⟨hB0, k0, k1, k2⟩ := news3 w #[.string r1, .string r2, .string t1, .string t2] 110 #[.string a1, .string a2, .string b1, .string b2, .string a1, .string a2, .string b1, .string b2, .string z1, .string z2] 234 #[.slice none 0 0, .slice none 0 0] 42
 have c0 := k1.c0
 have c1 := k1.c1
 have c2 := k1.c2
 have c3 := k1.c3
 have c4 := k1.c4
 have c5 := k1.c5
 have c6 := k1.c6
 have c7 := k1.c7
 have c8 := k1.c8
 have c9 := k1.c9
 have r0 := k0.c0
 have r1 := k0.c1
 have r2 := k0.c2
 have r3 := k0.c3
 go_enter Tryz.func184, Tryz.ntmps184
 go_wp2_with ((first | (go_at_call 89; refine (DC _ (hp.below hB0)).mono ?_; clear DC; rintro e w1 ⟨nv, rfl, ⟨x, y, rfl, HX, HY⟩, hb⟩; obtain ⟨XA, Xc, ex⟩ := Kd.R_slice HX; obtain ⟨YA, Yc, ey⟩ := Kd.R_slice HY; subst ex ey; replace HX := Kd.R_lower HX (bZz hB0); replace HY := Kd.R_lower HY (bZz hB0)) | (go_at_call 215; refine (MU _ _ _ _ _ _ _).mono ?_; clear MU; rintro e w2 ⟨rfl, hb⟩; replace hb := bZa hb (.cells #[.slice XA D1.1.length Xc, .slice YA D1.2.length Yc] 42); have KF := Blk.new w2 #[.slice XA D1.1.length Xc, .slice YA D1.2.length Yc] 42) | (go_at_call 212; refine (HH _).mono ?_; clear HH; rintro e _ ⟨rfl, hb⟩) | (go_at_call 213; refine (VV _).mono ?_; clear VV; rintro e w4 ⟨rfl, hb⟩; replace k2 := k2.below hb; obtain ⟨u0, u1, q0, q1⟩ := k2.two)); (try replace HX := OwnK.below HX hb); (try replace HY := OwnK.below HY hb); (try replace KF := KF.below hb); replace k0 := k0.below hb; replace k1 := k1.below hb; (try replace k2 := k2.below hb); replace hB0 := bZs hB0 hb; clear hb; (try replace c0 := k1.c0); (try replace c1 := k1.c1); (try replace c2 := k1.c2); (try replace c3 := k1.c3); (try replace c4 := k1.c4); (try replace c5 := k1.c5); (try replace c6 := k1.c6); (try replace c7 := k1.c7); (try replace c8 := k1.c8); (try replace c9 := k1.c9); (try replace s0 := KF.c0); (try replace s1 := KF.c1))
 have hO : OwnR w4 w.heap.size (.agg #[.slice XA D1.1.length Xc, .slice YA D1.2.length Yc]) D1 := ⟨_, _, rfl, HX, HY⟩
 have hO2 := (hO.set k2 (by decide) (by decide) 0 (.slice XA D1.1.length Xc)).set (k2.set 0 _) (by decide) (by decide) 1 (.slice YA D1.2.length Yc)
 refine bodyPost_ret (rZs rfl (.cell (w.heap.size + 2) 42 #[.slice XA D1.1.length Xc, .slice YA D1.2.length Yc] (0, 0) _ rfl ((k2.set 0 _).set 1 _) Tryz.underlying42 rfl (by kernel_rfl) .nil)) rfl ?_
 exact ⟨_, rfl, hO2, bZe (bZe hB0 (Nat.le_add_right w.heap.size 2)) (Nat.le_add_right w.heap.size 2)⟩
end Go.Proofs.YtociicfjhgfgpaaGreatDoor
